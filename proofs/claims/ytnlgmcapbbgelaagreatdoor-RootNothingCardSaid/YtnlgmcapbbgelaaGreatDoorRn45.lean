/- The law RootNothing, part B. Printed by genrootnoth.py. -/
import Derived.Test.YtnlgmcapbbgelaaGreatDoorRn44
import Derived.Test.YtnlgmcapbbgelaaGreatDoorRn43
import Derived.Deep.DeepCutAuto

namespace Go.Proofs.YtnlgmcapbbgelaaGreatDoor
open Go.RowKit Go.Shelf Go.Sort
theorem rootR_ok {r:RootV} (h:mayRoot r=true):rootR r=(rootJ r,0):=by unfold rootR;rw [if_pos h]
theorem heap_new_at {w n:World} {b:Nat} {o:Obj} (h:n=w.alloc o) (hb:b=w.heap.size):n.heap[b]?=some o:=by rw [h,hb];exact heap_alloc_new w _
theorem boxc5 {w:World} {b T:Nat} {a0 a1 a2 a3 a4:Value} (h:w.heap[b]?=some (.cells #[a0,a1,a2,a3,a4] T (0,0))):w.cell? ⟨b,0,none⟩=some a0∧w.cell? ⟨b,1,none⟩=some a1∧w.cell? ⟨b,2,none⟩=some a2∧w.cell? ⟨b,3,none⟩=some a3∧w.cell? ⟨b,4,none⟩=some a4:=⟨box_cell h rfl,box_cell h rfl,box_cell h rfl,box_cell h rfl,box_cell h rfl⟩
theorem boxc9 {w:World} {b T:Nat} {a0 a1 a2 a3 a4 a5 a6 a7 a8:Value} (h:w.heap[b]?=some (.cells #[a0,a1,a2,a3,a4,a5,a6,a7,a8] T (0,0))):w.cell? ⟨b,0,none⟩=some a0∧w.cell? ⟨b,1,none⟩=some a1∧w.cell? ⟨b,2,none⟩=some a2∧w.cell? ⟨b,3,none⟩=some a3∧w.cell? ⟨b,4,none⟩=some a4∧w.cell? ⟨b,5,none⟩=some a5∧w.cell? ⟨b,6,none⟩=some a6∧w.cell? ⟨b,7,none⟩=some a7∧w.cell? ⟨b,8,none⟩=some a8:=⟨box_cell h rfl,box_cell h rfl,box_cell h rfl,box_cell h rfl,box_cell h rfl,box_cell h rfl,box_cell h rfl,box_cell h rfl,box_cell h rfl⟩
theorem row5_of {w:World} {b T:Nat} {a0 a1 a2 a3 a4:Value} (h:w.heap[b]?=some (.cells #[a0,a1,a2,a3,a4] T (0,0))):w.rowIs b T 5 (pick5 a0 a1 a2 a3 a4):=⟨_,h,rfl,fun i hi=>by rcases i with _|_|_|_|_|i <;> first|rfl|omega⟩
theorem type_ok {R:RootV} (hm:mayRoot R=true):(rootOfA (withJ (rootJ R) 0 true typN (txtJ rootN))).2=0:=by
 rw [root_type hm,if_neg (by rw [rootN_txt];decide),if_pos rfl]
theorem typ_list0:rootN.toList=[114,111,111,116]:=by rw [ByteArray.toList_eq];rfl
theorem typ_at {a c:ByteArray} {b:List UInt8} (h:c.toList=b):(a.toList == b)=decide (c=a):=by
 rw [← h]
 by_cases e:c=a
 · rw [e,decide_eq_true rfl];exact beq_self_eq_true _
 · rw [decide_eq_false e,beq_eq_false_iff_ne];exact fun h=>e (ba_ext h.symm)
set_option maxHeartbeats 16000000 in
set_option maxRecDepth 100000 in
theorem lawNothC (RR:RootV) (n:ByteArray) (u:JV) (uan uai:Option Addr) (ucn uci:Nat) (t:ByteArray) (w w6 w12:World) (an ai:Option Addr) (cn ci:Nat) (bX bV:Nat) (w9:World) (qn qi:Option Addr) (qc qd:Nat) (bQ:Nat) (u0 u2 u4 u5 u7 u8 u10 u11 u12 u13 u14 u15 u17 u18 u19 u20 u21 u22 u23 u24 u25 u26 u27 u28 u29 u30 u31 u32 u33 u34 u35 u36 u37 u38 u39 u40 u41 u42 u43 u44 u45 u46 u47 u48 u49 u50 u51 u52 u53 u54 u55 u56 u57 u58 u59 u60 u61 u62 u63 u64 u65 u66 u67 u68 u69 u70 u71 u72 u73 u74 u75 u76 u77 u78 u79 u80 u81 u82 u83 u84 u85 u86 u87 u88 u89 u90 u91 u92 u93 u94 u95 u96 u97 u98 u99 u100 u101 u102 u103 u104 u105 u106 u107 u108 u109 u110 u111 u112 u113 u114 u115 u116 u117 u118 u119 u120 u121 u122 u123 u124 u125 u126 u127 u128 u129 u130 u131 u132 u133 u134 u135 u136 u137 u138 u139 u140 u141 u142 u143 u144 u145 u146 u147 u148 u149 u150 u151 u152 u153 u154 u155 u156 u157 u158 u159 u160 u161 u162 u163 u164 u165 u166 u167 u168 u169 u170 u171 u172 u173 u174 u175 u176 u177 u178 u179 u180 u181 u182 u183 u184 u185 u186 u187 u188 u189 u190 u191 u192 u193 u194 u195 u196 u197 u198 u199 u200 u201 u202 u203 u204 u205 u206 u207 u208 u209 u210 u211 u212 u213 u214 u215 u216 u217 u218 u219 u220 u221 u222 u223 u224 u225 u226 u227 u228 u229 u230 u231 u232 u233 u234 u235 u236 u237 u238 u239 u240 u241 u242 u243 u244 u245 u246 u247 u248 u249 u250:Value)
 (qHTB:∀w':World,Below w.heap.size w w'→Tabs w'∧TabW w'∧Pow10 w'∧TopsW w')
 (qHB:Below w.heap.size w w12)
 (qHZ0:0<w.heap.size)
 (qHLO:0<w6.heap.size)
 (qHM:mayRoot RR=true)
 (qHWU:u.wt≤20000)
 (qHNS:n.size≤300)
 (qHTS:t.size≤300)
 (qHU:Rep w12 0 w12.heap.size u (.agg #[.int .u8 u.kind,.int .i64 u.n,.string u.t,.slice uan u.names.length ucn,.slice uai u.items.length uci]))
 (qHV:Rep w12 w6.heap.size w12.heap.size (rootJ RR) (.agg #[.int .u8 5,.int .i64 0,.string ⟨#[]⟩,.slice an 5 cn,.slice ai 5 ci]))
 (qHXX:w12.heap[bX]?=some (.cells #[.int .u8 u.kind,.int .i64 u.n,.string u.t,.slice uan u.names.length ucn,.slice uai u.items.length uci] 25 (0,0)))
 (qHXV:w12.heap[bV]?=some (.cells #[.int .u8 5,.int .i64 0,.string ⟨#[]⟩,.slice an 5 cn,.slice ai 5 ci] 25 (0,0)))
 (qHLQ:0<w9.heap.size)
 (qHQ:Rep w12 w9.heap.size w12.heap.size (rolesJ RR.au) (.agg #[.int .u8 5,.int .i64 0,.string ⟨#[]⟩,.slice qn 3 qc,.slice qi 3 qd]))
 (qHXQ:w12.heap[bQ]?=some (.cells #[.int .u8 5,.int .i64 0,.string ⟨#[]⟩,.slice qn 3 qc,.slice qi 3 qd] 25 (0,0)))
 : Code.wp Tryz.prog (tailCode 7 (Tryz.f6.body.getD .skip)) (bodyPost Tryz.prog Tryz.f6 fun e w'=>e=.returned (.bool true)∧Below w.heap.size w w') ⟨#[u0,.string n,u2,.string t,u4,u5,.pointer (some ⟨bX,0,none⟩),u7,u8,.pointer (some ⟨bV,0,none⟩),u10,u11,u12,u13,u14,u15,.pointer (some ⟨bQ,0,none⟩),u17,u18,u19,u20,u21,u22,u23,u24,u25,u26,u27,u28,u29,u30,u31,u32,u33,u34,u35,u36,u37,u38,u39,u40,u41,u42,u43,u44,u45,u46,u47,u48,u49,u50,u51,u52,u53,u54,u55,u56,u57,u58,u59,u60,u61,u62,u63,u64,u65,u66,u67,u68,u69,u70,u71,u72,u73,u74,u75,u76,u77,u78,u79,u80,u81,u82,u83,u84,u85,u86,u87,u88,u89,u90,u91,u92,u93,u94,u95,u96,u97,u98,u99,u100,u101,u102,u103,u104,u105,u106,u107,u108,u109,u110,u111,u112,u113,u114,u115,u116,u117,u118,u119,u120,u121,u122,u123,u124,u125,u126,u127,u128,u129,u130,u131,u132,u133,u134,u135,u136,u137,u138,u139,u140,u141,u142,u143,u144,u145,u146,u147,u148,u149,u150,u151,u152,u153,u154,u155,u156,u157,u158,u159,u160,u161,u162,u163,u164,u165,u166,u167,u168,u169,u170,u171,u172,u173,u174,u175,u176,u177,u178,u179,u180,u181,u182,u183,u184,u185,u186,u187,u188,u189,u190,u191,u192,u193,u194,u195,u196,u197,u198,u199,u200,u201,u202,u203,u204,u205,u206,u207,u208,u209,u210,u211,u212,u213,u214,u215,u216,u217,u218,u219,u220,u221,u222,u223,u224,u225,u226,u227,u228,u229,u230,u231,u232,u233,u234,u235,u236,u237,u238,u239,u240,u241,u242,u243,u244,u245,u246,u247,u248,u249,u250],[]⟩ w12:=by
 have HTB:=Lh qHTB
 have HB:=Lh qHB
 have HZ0:=Lh qHZ0
 have HLO:=Lh qHLO
 have HM:=Lh qHM
 have HWU:=Lh qHWU
 have HNS:=Lh qHNS
 have HTS:=Lh qHTS
 have HU:=Lh qHU
 have HV:=Lh qHV
 have HXX:=Lh qHXX
 have HXV:=Lh qHXV
 have HLQ:=Lh qHLQ
 have HQ:=Lh qHQ
 have HXQ:=Lh qHXQ
 clear qHTB qHB qHZ0 qHLO qHM qHWU qHNS qHTS qHU qHV qHXX qHXV qHLQ qHQ qHXQ
 conv=>arg 2;whnf
 go_upto_region 22 with fail
 obtain ⟨xV0,xV1,xV2,xV3,xV4⟩:=boxc5 HXV.out
 go_wp2_with fail
 refine (hasAny (rootJ RR) n _ w12 w6.heap.size HLO.out (Nat.le_trans (rootJ_wt HM.out) (by decide)) rfl root_names.1 rfl HV.out).mono ?_
 clear xV0 xV1 xV2 xV3 xV4
 rintro ee w13 ⟨kb,k1,m1,s1,gn,gi,q1,r1,q2,r2,rfl,hkb,hb⟩
 replace HB:=Lh (HB.out.trans (hb.mono HB.out.size))
 replace HXX:=Lh ((hb.block _ (heap_lt HXX.out)).trans HXX.out)
 replace HXV:=Lh ((hb.block _ (heap_lt HXV.out)).trans HXV.out)
 replace HXQ:=Lh ((hb.block _ (heap_lt HXQ.out)).trans HXQ.out)
 replace HU:=Lh (HU.out.below hb lz lz hb.size)
 replace HV:=Lh (HV.out.below hb lz lz hb.size)
 replace HQ:=Lh (HQ.out.below hb lz lz hb.size)
 have HKB:=Lh hkb
 clear hkb hb
 obtain ⟨bG,hbG⟩:∃bG,bG=w13.heap.size:=⟨_,rfl⟩
 obtain ⟨w14,hw14⟩:∃w14,w14=w13.alloc (.cells #[.int .u8 k1,.int .i64 m1,.string s1,.slice gn q1 r1,.slice gi q2 r2] 25):=⟨_,rfl⟩
 have hbx:Below w13.heap.size w13 w14:=by rw [hw14];exact (Below.refl _ _).alloc lz _
 have HXG:=Lh (heap_new_at hw14 hbG)
 replace HB:=Lh (HB.out.trans (hbx.mono HB.out.size))
 replace HXX:=Lh ((hbx.block _ (heap_lt HXX.out)).trans HXX.out)
 replace HXV:=Lh ((hbx.block _ (heap_lt HXV.out)).trans HXV.out)
 replace HXQ:=Lh ((hbx.block _ (heap_lt HXQ.out)).trans HXQ.out)
 replace HU:=Lh (HU.out.below hbx lz lz hbx.size)
 replace HV:=Lh (HV.out.below hbx lz lz hbx.size)
 replace HQ:=Lh (HQ.out.below hbx lz lz hbx.size)
 have Hw14:=Lh (And.intro hw14 hbG)
 clear hbx hw14 hbG
 go_upto_region 23 with fail
 rw [← Hw14.out.1,← Hw14.out.2]
 clear Hw14
 clear HXG
 have HK:=Lh (show ∀w':World,Below w14.heap.size w14 w'→Below w.heap.size w w'∧w'.heap[bX]?=some (.cells #[.int .u8 u.kind,.int .i64 u.n,.string u.t,.slice uan u.names.length ucn,.slice uai u.items.length uci] 25 (0,0))∧w'.heap[bV]?=some (.cells #[.int .u8 5,.int .i64 0,.string ⟨#[]⟩,.slice an 5 cn,.slice ai 5 ci] 25 (0,0))∧w'.heap[bQ]?=some (.cells #[.int .u8 5,.int .i64 0,.string ⟨#[]⟩,.slice qn 3 qc,.slice qi 3 qd] 25 (0,0))∧Rep w' 0 w'.heap.size u (.agg #[.int .u8 u.kind,.int .i64 u.n,.string u.t,.slice uan u.names.length ucn,.slice uai u.items.length uci])∧Rep w' w6.heap.size w'.heap.size (rootJ RR) (.agg #[.int .u8 5,.int .i64 0,.string ⟨#[]⟩,.slice an 5 cn,.slice ai 5 ci])∧Rep w' w9.heap.size w'.heap.size (rolesJ RR.au) (.agg #[.int .u8 5,.int .i64 0,.string ⟨#[]⟩,.slice qn 3 qc,.slice qi 3 qd]) from fun w' h=>⟨HB.out.trans (h.mono HB.out.size),(h.block _ (heap_lt HXX.out)).trans HXX.out,(h.block _ (heap_lt HXV.out)).trans HXV.out,(h.block _ (heap_lt HXQ.out)).trans HXQ.out,HU.out.below h lz lz h.size,HV.out.below h lz lz h.size,HQ.out.below h lz lz h.size⟩)
 have LHK:=Lh (Below.refl w14.heap.size w14)
 have HLJ:=Lh (show 0<w14.heap.size from Nat.lt_of_lt_of_le HZ0.out HB.out.size)
 obtain ⟨xV0,xV1,xV2,xV3,xV4⟩:=boxc5 HXV.out
 obtain ⟨xX0,xX1,xX2,xX3,xX4⟩:=boxc5 HXX.out
 go_wp2_with fail
 refine (withAnyRoot RR n u _ _ w14 w6.heap.size HLO.out HM.out HWU.out HNS.out HV.out HU.out).mono ?_
 clear xV0 xV1 xV2 xV3 xV4
 clear xX0 xX1 xX2 xX3 xX4
 rintro ee w15 ⟨J,⟨wn,wc,wi,wd,rfl,hr,hb⟩,hJ1,hJ2⟩
 replace HB:=Lh (HB.out.trans (hb.mono HB.out.size))
 replace HXX:=Lh ((hb.block _ (heap_lt HXX.out)).trans HXX.out)
 replace HXV:=Lh ((hb.block _ (heap_lt HXV.out)).trans HXV.out)
 replace HXQ:=Lh ((hb.block _ (heap_lt HXQ.out)).trans HXQ.out)
 replace HU:=Lh (HU.out.below hb lz lz hb.size)
 replace HV:=Lh (HV.out.below hb lz lz hb.size)
 replace HQ:=Lh (HQ.out.below hb lz lz hb.size)
 replace LHK:=Lh (LHK.out.trans (hb.mono LHK.out.size))
 have HJR:=Lh hr
 have HJ1:=Lh hJ1
 have HJ2:=Lh hJ2
 have HS15:=Lh hb.size
 clear hr hb hJ1 hJ2
 obtain ⟨bW,hbW⟩:∃bW,bW=w15.heap.size:=⟨_,rfl⟩
 obtain ⟨w16,hw16⟩:∃w16,w16=w15.alloc (.cells #[.int .u8 5,.int .i64 0,.string ⟨#[]⟩,.slice wn J.names.length wc,.slice wi J.items.length wd] 25):=⟨_,rfl⟩
 have hbx:Below w15.heap.size w15 w16:=by rw [hw16];exact (Below.refl _ _).alloc lz _
 have HXW:=Lh (heap_new_at hw16 hbW)
 replace HB:=Lh (HB.out.trans (hbx.mono HB.out.size))
 replace HXX:=Lh ((hbx.block _ (heap_lt HXX.out)).trans HXX.out)
 replace HXV:=Lh ((hbx.block _ (heap_lt HXV.out)).trans HXV.out)
 replace HXQ:=Lh ((hbx.block _ (heap_lt HXQ.out)).trans HXQ.out)
 replace HU:=Lh (HU.out.below hbx lz lz hbx.size)
 replace HV:=Lh (HV.out.below hbx lz lz hbx.size)
 replace HQ:=Lh (HQ.out.below hbx lz lz hbx.size)
 replace HJR:=Lh (HJR.out.below hbx lz lz hbx.size)
 replace LHK:=Lh (LHK.out.trans (hbx.mono LHK.out.size))
 have Hw16:=Lh (And.intro hw16 hbW)
 clear hbx hw16 hbW
 have HBOW:=Lh (show w14.heap.size≤bW by rw [Hw16.out.2];exact HS15.out)
 go_upto_region 24 with fail
 rw [← Hw16.out.1,← Hw16.out.2]
 clear Hw16
 obtain ⟨er,her⟩:∃er,er=(rootOfA J).2:=⟨_,rfl⟩
 have HCO:=Lh (of22 J _ w16 w14.heap.size HLJ.out HJ1.out HJR.out (HTB.out w16 HB.out).1 (HTB.out w16 HB.out).2.1 (HTB.out w16 HB.out).2.2.2)
 rw [← her] at HCO
 have HER:=Lh her
 clear her
 obtain ⟨xW0,xW1,xW2,xW3,xW4⟩:=boxc5 HXW.out
 go_wp2_with fail
 refine (HCO.out).mono ?_
 clear xW0 xW1 xW2 xW3 xW4
 rintro ee w17 ⟨z0,z1,z2,z3,z4,n0,n1,n2,n3,y0,y1,y2,y3,m0,m1,m2,m3,h4,hb⟩
 subst h4
 clear HCO
 replace HB:=Lh (HB.out.trans (hb.mono HB.out.size))
 replace HXX:=Lh ((hb.block _ (heap_lt HXX.out)).trans HXX.out)
 replace HXV:=Lh ((hb.block _ (heap_lt HXV.out)).trans HXV.out)
 replace HXQ:=Lh ((hb.block _ (heap_lt HXQ.out)).trans HXQ.out)
 replace HXW:=Lh ((hb.block _ (heap_lt HXW.out)).trans HXW.out)
 replace HU:=Lh (HU.out.below hb lz lz hb.size)
 replace HV:=Lh (HV.out.below hb lz lz hb.size)
 replace HQ:=Lh (HQ.out.below hb lz lz hb.size)
 replace HJR:=Lh (HJR.out.below hb lz lz hb.size)
 replace LHK:=Lh (LHK.out.trans (hb.mono LHK.out.size))
 clear hb
 obtain ⟨bZ,hbZ⟩:∃bZ,bZ=w17.heap.size:=⟨_,rfl⟩
 obtain ⟨w18,hw18⟩:∃w18,w18=w17.alloc (.cells #[.int .i64 z0,.int .i64 z1,.slice y0 n0 m0,.int .i64 z2,.slice y1 n1 m1,.int .i64 z3,.slice y2 n2 m2,.int .i64 z4,.slice y3 n3 m3] 32):=⟨_,rfl⟩
 have hbx:Below w17.heap.size w17 w18:=by rw [hw18];exact (Below.refl _ _).alloc lz _
 have HXZ:=Lh (heap_new_at hw18 hbZ)
 replace HB:=Lh (HB.out.trans (hbx.mono HB.out.size))
 replace HXX:=Lh ((hbx.block _ (heap_lt HXX.out)).trans HXX.out)
 replace HXV:=Lh ((hbx.block _ (heap_lt HXV.out)).trans HXV.out)
 replace HXQ:=Lh ((hbx.block _ (heap_lt HXQ.out)).trans HXQ.out)
 replace HXW:=Lh ((hbx.block _ (heap_lt HXW.out)).trans HXW.out)
 replace HU:=Lh (HU.out.below hbx lz lz hbx.size)
 replace HV:=Lh (HV.out.below hbx lz lz hbx.size)
 replace HQ:=Lh (HQ.out.below hbx lz lz hbx.size)
 replace HJR:=Lh (HJR.out.below hbx lz lz hbx.size)
 replace LHK:=Lh (LHK.out.trans (hbx.mono LHK.out.size))
 have Hw18:=Lh (And.intro hw18 hbZ)
 clear hbx hw18 hbZ
 go_upto_region 25 with fail
 rw [← Hw18.out.1,← Hw18.out.2]
 clear Hw18
 clear HXZ
 have HWJ:=HJ1
 go_cut [165] (fun s7 wx=>s7=.bool false∧Below w18.heap.size w18 wx)
 case first =>
  have HC0:=Lh (Below.refl w18.heap.size w18)
  cases kb
  case true =>
   go_wp2_with fail
   go_meet
   exact ⟨rfl,HC0.out⟩
  case false =>
   have hq:=(HER.out.trans (HJ2.out (HKB.out rfl)))
   obtain ⟨my,hmy⟩:∃my,my=J.mayB:=⟨_,rfl⟩
   have HVM:=Lh (valueMay J _ w18 HWJ.out (HJR.out.carry (Nat.zero_le _) lz (fun _ _ _=>rfl)))
   rw [← hmy] at hq HVM
   clear hmy
   cases my
   case true =>
    obtain rfl:er=11:=hq
    go_wp2_with fail
    go_meet
    exact ⟨rfl,HC0.out⟩
   case false =>
    obtain rfl:er=3:=hq
    obtain ⟨xW0,xW1,xW2,xW3,xW4⟩:=boxc5 HXW.out
    go_wp2_with fail
    refine HVM.out.mono ?_
    rintro ee wx ⟨rfl,hb⟩
    have HC1:=Lh hb
    clear hb HVM
    clear xW0 xW1 xW2 xW3 xW4
    go_wp2
    go_meet
    exact ⟨rfl,HC1.out⟩
 case rest =>
  obtain ⟨hs7,hb⟩:=hcut
  subst hs7
  obtain ⟨w19,hw⟩:∃w19,w19=wc:=⟨_,rfl⟩
  rw [← hw] at hb ⊢
  clear hw
  replace HB:=Lh (HB.out.trans (hb.mono HB.out.size))
  replace HXX:=Lh ((hb.block _ (heap_lt HXX.out)).trans HXX.out)
  replace HXV:=Lh ((hb.block _ (heap_lt HXV.out)).trans HXV.out)
  replace HXQ:=Lh ((hb.block _ (heap_lt HXQ.out)).trans HXQ.out)
  replace HXW:=Lh ((hb.block _ (heap_lt HXW.out)).trans HXW.out)
  replace HU:=Lh (HU.out.below hb lz lz hb.size)
  replace HV:=Lh (HV.out.below hb lz lz hb.size)
  replace HQ:=Lh (HQ.out.below hb lz lz hb.size)
  replace HJR:=Lh (HJR.out.below hb lz lz hb.size)
  replace LHK:=Lh (LHK.out.trans (hb.mono LHK.out.size))
  clear hb HER HJR HKB HWJ HJ1 HJ2
  go_upto_region 27 with fail
  obtain ⟨xQ0,xQ1,xQ2,xQ3,xQ4⟩:=boxc5 HXQ.out
  go_wp2_with fail
  refine (hasAny (rolesJ RR.au) n _ w19 w9.heap.size HLQ.out (Nat.le_trans (rolesJ_wt2 HM.out) (by decide)) rfl roles_names.1 rfl HQ.out).mono ?_
  clear xQ0 xQ1 xQ2 xQ3 xQ4
  rintro ee w20 ⟨kb,k1,m1,s1,gn,gi,q1,r1,q2,r2,rfl,hkb,hb⟩
  replace HB:=Lh (HB.out.trans (hb.mono HB.out.size))
  replace HXX:=Lh ((hb.block _ (heap_lt HXX.out)).trans HXX.out)
  replace HXV:=Lh ((hb.block _ (heap_lt HXV.out)).trans HXV.out)
  replace HXQ:=Lh ((hb.block _ (heap_lt HXQ.out)).trans HXQ.out)
  replace HXW:=Lh ((hb.block _ (heap_lt HXW.out)).trans HXW.out)
  replace HU:=Lh (HU.out.below hb lz lz hb.size)
  replace HV:=Lh (HV.out.below hb lz lz hb.size)
  replace HQ:=Lh (HQ.out.below hb lz lz hb.size)
  replace LHK:=Lh (LHK.out.trans (hb.mono LHK.out.size))
  have HKB:=Lh hkb
  clear hkb hb
  go_upto_region 28 with fail
  have HLJ2:=Lh (show 0<w20.heap.size from Nat.lt_of_lt_of_le HZ0.out HB.out.size)
  obtain ⟨xQ0,xQ1,xQ2,xQ3,xQ4⟩:=boxc5 HXQ.out
  obtain ⟨xX0,xX1,xX2,xX3,xX4⟩:=boxc5 HXX.out
  go_wp2_with fail
  refine (withAnyRoles RR n u _ _ w20 w9.heap.size HLQ.out HM.out HWU.out HNS.out HQ.out HU.out).mono ?_
  clear xQ0 xQ1 xQ2 xQ3 xQ4
  clear xX0 xX1 xX2 xX3 xX4
  rintro ee w21 ⟨J,⟨jn,jc,ji,jd,rfl,hr,hb⟩,hJ1,hJ2⟩
  replace HB:=Lh (HB.out.trans (hb.mono HB.out.size))
  replace HXX:=Lh ((hb.block _ (heap_lt HXX.out)).trans HXX.out)
  replace HXV:=Lh ((hb.block _ (heap_lt HXV.out)).trans HXV.out)
  replace HXQ:=Lh ((hb.block _ (heap_lt HXQ.out)).trans HXQ.out)
  replace HXW:=Lh ((hb.block _ (heap_lt HXW.out)).trans HXW.out)
  replace HU:=Lh (HU.out.below hb lz lz hb.size)
  replace HV:=Lh (HV.out.below hb lz lz hb.size)
  replace HQ:=Lh (HQ.out.below hb lz lz hb.size)
  replace LHK:=Lh (LHK.out.trans (hb.mono LHK.out.size))
  have HJR:=Lh hr
  have HJ1:=Lh hJ1
  have HJ2:=Lh hJ2
  clear hr hb hJ1 hJ2
  obtain ⟨bY,hbY⟩:∃bY,bY=w21.heap.size:=⟨_,rfl⟩
  obtain ⟨w22,hw22⟩:∃w22,w22=w21.alloc (.cells #[.int .u8 5,.int .i64 0,.string ⟨#[]⟩,.slice jn J.names.length jc,.slice ji J.items.length jd] 25):=⟨_,rfl⟩
  have hbx:Below w21.heap.size w21 w22:=by rw [hw22];exact (Below.refl _ _).alloc lz _
  have HXY:=Lh (heap_new_at hw22 hbY)
  replace HB:=Lh (HB.out.trans (hbx.mono HB.out.size))
  replace HXX:=Lh ((hbx.block _ (heap_lt HXX.out)).trans HXX.out)
  replace HXV:=Lh ((hbx.block _ (heap_lt HXV.out)).trans HXV.out)
  replace HXQ:=Lh ((hbx.block _ (heap_lt HXQ.out)).trans HXQ.out)
  replace HXW:=Lh ((hbx.block _ (heap_lt HXW.out)).trans HXW.out)
  replace HU:=Lh (HU.out.below hbx lz lz hbx.size)
  replace HV:=Lh (HV.out.below hbx lz lz hbx.size)
  replace HQ:=Lh (HQ.out.below hbx lz lz hbx.size)
  replace HJR:=Lh (HJR.out.below hbx lz lz hbx.size)
  replace LHK:=Lh (LHK.out.trans (hbx.mono LHK.out.size))
  have Hw22:=Lh (And.intro hw22 hbY)
  clear hbx hw22 hbY
  go_upto_region 29 with fail
  rw [← Hw22.out.1,← Hw22.out.2]
  clear Hw22
  have HLK:=Lh (show 0<w22.heap.size from Nat.lt_of_lt_of_le HZ0.out HB.out.size)
  have HW22:=Lh (heap_lt HXW.out)
  obtain ⟨xV0,xV1,xV2,xV3,xV4⟩:=boxc5 HXV.out
  obtain ⟨xY0,xY1,xY2,xY3,xY4⟩:=boxc5 HXY.out
  go_wp2_with fail
  refine (withRolesJ RR J _ _ w22 w6.heap.size w20.heap.size HLO.out HLJ2.out HM.out HJ1.out HV.out HJR.out).mono ?_
  clear xV0 xV1 xV2 xV3 xV4
  clear xY0 xY1 xY2 xY3 xY4
  rintro ee w23 ⟨⟨kn,kc2,ki,kd,h4,hr,hb⟩,hJ3⟩
  obtain ⟨K,hK⟩:∃K,K=withJ (rootJ RR) 3 true rolN J:=⟨_,rfl⟩
  rw [← hK] at HJ2 h4 hr hJ3
  subst h4
  clear hK
  replace HB:=Lh (HB.out.trans (hb.mono HB.out.size))
  replace HXX:=Lh ((hb.block _ (heap_lt HXX.out)).trans HXX.out)
  replace HXV:=Lh ((hb.block _ (heap_lt HXV.out)).trans HXV.out)
  replace HXQ:=Lh ((hb.block _ (heap_lt HXQ.out)).trans HXQ.out)
  replace HXW:=Lh ((hb.block _ (heap_lt HXW.out)).trans HXW.out)
  replace HXY:=Lh ((hb.block _ (heap_lt HXY.out)).trans HXY.out)
  replace HU:=Lh (HU.out.below hb lz lz hb.size)
  replace HV:=Lh (HV.out.below hb lz lz hb.size)
  replace HQ:=Lh (HQ.out.below hb lz lz hb.size)
  replace HJR:=Lh (HJR.out.below hb lz lz hb.size)
  replace LHK:=Lh (LHK.out.trans (hb.mono LHK.out.size))
  have HKR:=Lh hr
  have HK1:=Lh hJ3
  clear hr hb hJ3 HJR HXY HJ1
  have f0:w23.frozen? ⟨bW,0,none⟩=false:=by simp [World.frozen?,HXW.out]
  have f1:w23.frozen? ⟨bW,1,none⟩=false:=by simp [World.frozen?,HXW.out]
  have f2:w23.frozen? ⟨bW,2,none⟩=false:=by simp [World.frozen?,HXW.out]
  have f3:w23.frozen? ⟨bW,3,none⟩=false:=by simp [World.frozen?,HXW.out]
  have f4:w23.frozen? ⟨bW,4,none⟩=false:=by simp [World.frozen?,HXW.out]
  obtain ⟨xW0,xW1,xW2,xW3,xW4⟩:=boxc5 HXW.out
  go_upto_region 30 with fail
  clear xW0 xW1 xW2 xW3 xW4
  clear f0 f1 f2 f3 f4
  obtain ⟨w24,hw24⟩:∃w24,w24=(((((w23).setCell ⟨bW,0,none⟩ (.int .u8 5)).setCell ⟨bW,1,none⟩ (.int .i64 0)).setCell ⟨bW,2,none⟩ (.string ⟨#[]⟩)).setCell ⟨bW,3,none⟩ (.slice kn K.names.length kc2)).setCell ⟨bW,4,none⟩ (.slice ki K.items.length kd):=⟨_,rfl⟩
  rw [← hw24]
  have hxo:w24.heap[bW]?=some (.cells #[.int .u8 5,.int .i64 0,.string ⟨#[]⟩,.slice kn K.names.length kc2,.slice ki K.items.length kd] 25 (0,0)):=by rw [hw24];exact row5_heap (set5 _ _ _ _ _ (row5_of HXW.out))
  replace LHK:=Lh (show Below w14.heap.size w14 w24 by rw [hw24];exact below5 _ _ _ _ _ LHK.out HBOW.out)
  have hrr:=Rep.carry (w:=w23) (w':=w24) (Nat.le_refl (w22.heap.size)) (Nat.le_of_eq (show w23.heap.size=w24.heap.size by rw [hw24];simp [World.setCell])) (fun b h1 _=>by rw [hw24];exact heap5 _ _ _ _ _ (by have:=HW22.out;omega)) _ _ HKR.out
  replace HKR:=Lh hrr
  clear hrr
  clear HXW hw24
  obtain ⟨hb,qX,qV,qQ,rHU,rHV,rHQ⟩:=HK.out w24 LHK.out
  replace HB:=Lh hb
  replace HXX:=Lh qX
  replace HXV:=Lh qV
  replace HXQ:=Lh qQ
  replace HU:=Lh rHU
  replace HV:=Lh rHV
  replace HQ:=Lh rHQ
  clear hb qX qV qQ rHU rHV rHQ
  have HXW:=Lh hxo
  clear hxo
  obtain ⟨er,her⟩:∃er,er=(rootOfA K).2:=⟨_,rfl⟩
  have HCO:=Lh (of22 K _ w24 w22.heap.size HLK.out HK1.out HKR.out (HTB.out w24 HB.out).1 (HTB.out w24 HB.out).2.1 (HTB.out w24 HB.out).2.2.2)
  rw [← her] at HCO
  have HER:=Lh her
  clear her
  obtain ⟨xW0,xW1,xW2,xW3,xW4⟩:=boxc5 HXW.out
  go_wp2_with fail
  refine (HCO.out).mono ?_
  clear xW0 xW1 xW2 xW3 xW4
  rintro ee w25 ⟨z0,z1,z2,z3,z4,n0,n1,n2,n3,y0,y1,y2,y3,m0,m1,m2,m3,h4,hb⟩
  subst h4
  clear HCO
  replace HB:=Lh (HB.out.trans (hb.mono HB.out.size))
  replace HXX:=Lh ((hb.block _ (heap_lt HXX.out)).trans HXX.out)
  replace HXV:=Lh ((hb.block _ (heap_lt HXV.out)).trans HXV.out)
  replace HXQ:=Lh ((hb.block _ (heap_lt HXQ.out)).trans HXQ.out)
  replace HXW:=Lh ((hb.block _ (heap_lt HXW.out)).trans HXW.out)
  replace HU:=Lh (HU.out.below hb lz lz hb.size)
  replace HV:=Lh (HV.out.below hb lz lz hb.size)
  replace HQ:=Lh (HQ.out.below hb lz lz hb.size)
  replace HKR:=Lh (HKR.out.below hb lz lz hb.size)
  replace LHK:=Lh (LHK.out.trans (hb.mono LHK.out.size))
  clear hb
  go_upto_region 31 with fail
  have HWJ:=HK1
  go_cut [211] (fun s7 wx=>s7=.bool false∧Below w25.heap.size w25 wx)
  case first =>
   have HC0:=Lh (Below.refl w25.heap.size w25)
   cases kb
   case true =>
    go_wp2_with fail
    go_meet
    exact ⟨rfl,HC0.out⟩
   case false =>
    have hq:=(HER.out.trans (HJ2.out (HKB.out rfl)))
    obtain ⟨my,hmy⟩:∃my,my=K.mayB:=⟨_,rfl⟩
    have HVM:=Lh (valueMay K _ w25 HWJ.out (HKR.out.carry (Nat.zero_le _) lz (fun _ _ _=>rfl)))
    rw [← hmy] at hq HVM
    clear hmy
    cases my
    case true =>
     obtain rfl:er=11:=hq
     go_wp2_with fail
     go_meet
     exact ⟨rfl,HC0.out⟩
    case false =>
     obtain rfl:er=3:=hq
     obtain ⟨xW0,xW1,xW2,xW3,xW4⟩:=boxc5 HXW.out
     go_wp2_with fail
     refine HVM.out.mono ?_
     rintro ee wx ⟨rfl,hb⟩
     have HC1:=Lh hb
     clear hb HVM
     clear xW0 xW1 xW2 xW3 xW4
     go_wp2
     go_meet
     exact ⟨rfl,HC1.out⟩
  case rest =>
   obtain ⟨hs7,hb⟩:=hcut
   subst hs7
   obtain ⟨w26,hw⟩:∃w26,w26=wc:=⟨_,rfl⟩
   rw [← hw] at hb ⊢
   clear hw
   replace HB:=Lh (HB.out.trans (hb.mono HB.out.size))
   replace HXX:=Lh ((hb.block _ (heap_lt HXX.out)).trans HXX.out)
   replace HXV:=Lh ((hb.block _ (heap_lt HXV.out)).trans HXV.out)
   replace HXQ:=Lh ((hb.block _ (heap_lt HXQ.out)).trans HXQ.out)
   replace HXW:=Lh ((hb.block _ (heap_lt HXW.out)).trans HXW.out)
   replace HU:=Lh (HU.out.below hb lz lz hb.size)
   replace HV:=Lh (HV.out.below hb lz lz hb.size)
   replace HQ:=Lh (HQ.out.below hb lz lz hb.size)
   replace HKR:=Lh (HKR.out.below hb lz lz hb.size)
   replace LHK:=Lh (LHK.out.trans (hb.mono LHK.out.size))
   clear hb HER HKR HKB HWJ HK1 HJ2
   go_upto_region 33 with fail
   have HLK2:=Lh (show 0<w26.heap.size from Nat.lt_of_lt_of_le HZ0.out HB.out.size)
   have HW26:=Lh (heap_lt HXW.out)
   obtain ⟨xV0,xV1,xV2,xV3,xV4⟩:=boxc5 HXV.out
   go_wp2_with fail
   refine (withType RR t _ w26 w6.heap.size HLO.out HM.out HTS.out HV.out).mono ?_
   clear xV0 xV1 xV2 xV3 xV4
   rintro ee w27 ⟨⟨kn,kc2,ki,kd,h4,hr,hb⟩,hJ3⟩
   obtain ⟨K,hK⟩:∃K,K=withJ (rootJ RR) 0 true typN (txtJ t):=⟨_,rfl⟩
   rw [← hK] at h4 hr hJ3
   subst h4
   have HKE:=Lh hK
   clear hK
   replace HB:=Lh (HB.out.trans (hb.mono HB.out.size))
   replace HXX:=Lh ((hb.block _ (heap_lt HXX.out)).trans HXX.out)
   replace HXV:=Lh ((hb.block _ (heap_lt HXV.out)).trans HXV.out)
   replace HXQ:=Lh ((hb.block _ (heap_lt HXQ.out)).trans HXQ.out)
   replace HXW:=Lh ((hb.block _ (heap_lt HXW.out)).trans HXW.out)
   replace HU:=Lh (HU.out.below hb lz lz hb.size)
   replace HV:=Lh (HV.out.below hb lz lz hb.size)
   replace HQ:=Lh (HQ.out.below hb lz lz hb.size)
   replace LHK:=Lh (LHK.out.trans (hb.mono LHK.out.size))
   have HKR:=Lh hr
   have HK1:=Lh hJ3
   clear hr hb hJ3
   have f0:w27.frozen? ⟨bW,0,none⟩=false:=by simp [World.frozen?,HXW.out]
   have f1:w27.frozen? ⟨bW,1,none⟩=false:=by simp [World.frozen?,HXW.out]
   have f2:w27.frozen? ⟨bW,2,none⟩=false:=by simp [World.frozen?,HXW.out]
   have f3:w27.frozen? ⟨bW,3,none⟩=false:=by simp [World.frozen?,HXW.out]
   have f4:w27.frozen? ⟨bW,4,none⟩=false:=by simp [World.frozen?,HXW.out]
   obtain ⟨xW0,xW1,xW2,xW3,xW4⟩:=boxc5 HXW.out
   go_upto_region 34 with fail
   clear xW0 xW1 xW2 xW3 xW4
   clear f0 f1 f2 f3 f4
   obtain ⟨w28,hw28⟩:∃w28,w28=(((((w27).setCell ⟨bW,0,none⟩ (.int .u8 5)).setCell ⟨bW,1,none⟩ (.int .i64 0)).setCell ⟨bW,2,none⟩ (.string ⟨#[]⟩)).setCell ⟨bW,3,none⟩ (.slice kn K.names.length kc2)).setCell ⟨bW,4,none⟩ (.slice ki K.items.length kd):=⟨_,rfl⟩
   rw [← hw28]
   have hxo:w28.heap[bW]?=some (.cells #[.int .u8 5,.int .i64 0,.string ⟨#[]⟩,.slice kn K.names.length kc2,.slice ki K.items.length kd] 25 (0,0)):=by rw [hw28];exact row5_heap (set5 _ _ _ _ _ (row5_of HXW.out))
   replace LHK:=Lh (show Below w14.heap.size w14 w28 by rw [hw28];exact below5 _ _ _ _ _ LHK.out HBOW.out)
   have hrr:=Rep.carry (w:=w27) (w':=w28) (Nat.le_refl (w26.heap.size)) (Nat.le_of_eq (show w27.heap.size=w28.heap.size by rw [hw28];simp [World.setCell])) (fun b h1 _=>by rw [hw28];exact heap5 _ _ _ _ _ (by have:=HW26.out;omega)) _ _ HKR.out
   replace HKR:=Lh hrr
   clear hrr
   clear HXW hw28
   obtain ⟨hb,qX,qV,qQ,rHU,rHV,rHQ⟩:=HK.out w28 LHK.out
   replace HB:=Lh hb
   replace HXX:=Lh qX
   replace HXV:=Lh qV
   replace HXQ:=Lh qQ
   replace HU:=Lh rHU
   replace HV:=Lh rHV
   replace HQ:=Lh rHQ
   clear hb qX qV qQ rHU rHV rHQ
   have HXW:=Lh hxo
   clear hxo
   obtain ⟨er,her⟩:∃er,er=(rootOfA K).2:=⟨_,rfl⟩
   have HCO:=Lh (of22 K _ w28 w26.heap.size HLK2.out HK1.out HKR.out (HTB.out w28 HB.out).1 (HTB.out w28 HB.out).2.1 (HTB.out w28 HB.out).2.2.2)
   rw [← her] at HCO
   have HER:=Lh her
   clear her
   obtain ⟨xW0,xW1,xW2,xW3,xW4⟩:=boxc5 HXW.out
   go_wp2_with fail
   refine (HCO.out).mono ?_
   clear xW0 xW1 xW2 xW3 xW4
   rintro ee w29 ⟨z0,z1,z2,z3,z4,n0,n1,n2,n3,y0,y1,y2,y3,m0,m1,m2,m3,h4,hb⟩
   subst h4
   clear HCO
   replace HB:=Lh (HB.out.trans (hb.mono HB.out.size))
   replace HXX:=Lh ((hb.block _ (heap_lt HXX.out)).trans HXX.out)
   replace HXV:=Lh ((hb.block _ (heap_lt HXV.out)).trans HXV.out)
   replace HXQ:=Lh ((hb.block _ (heap_lt HXQ.out)).trans HXQ.out)
   replace HXW:=Lh ((hb.block _ (heap_lt HXW.out)).trans HXW.out)
   replace HU:=Lh (HU.out.below hb lz lz hb.size)
   replace HV:=Lh (HV.out.below hb lz lz hb.size)
   replace HQ:=Lh (HQ.out.below hb lz lz hb.size)
   replace HKR:=Lh (HKR.out.below hb lz lz hb.size)
   replace LHK:=Lh (LHK.out.trans (hb.mono LHK.out.size))
   clear hb
   go_upto_region 35 with fail
   have q1:=typ_at (a:=t) typ_list0
   by_cases htr:rootN=t
   case pos =>
    have h0:er=0:=by rw [HER.out,HKE.out,← htr];exact type_ok HM.out
    subst h0
    rw [decide_eq_true htr] at q1
    go_wp2
    go_ret
    exact ⟨rfl,HB.out⟩
   case neg =>
    rw [decide_eq_false htr] at q1
    have hq:er=if K.mayB=false then 3 else 13:=by
     rw [HER.out,HKE.out,type_err HM.out]
     split
     · rfl
     · rw [if_neg (fun e=>htr e.symm)]
    obtain ⟨my,hmy⟩:∃my,my=K.mayB:=⟨_,rfl⟩
    have HVM:=Lh (valueMay K _ w29 HK1.out (HKR.out.carry (Nat.zero_le _) lz (fun _ _ _=>rfl)))
    rw [← hmy] at hq HVM
    clear hmy HER HKE
    cases my
    case true =>
     obtain rfl:er=13:=hq
     go_wp2
     go_ret
     exact ⟨rfl,HB.out⟩
    case false =>
     obtain rfl:er=3:=hq
     obtain ⟨xW0,xW1,xW2,xW3,xW4⟩:=boxc5 HXW.out
     go_wp2_with fail
     refine HVM.out.mono ?_
     rintro ee wx ⟨rfl,hb⟩
     have HBZ:=Lh (HB.out.trans (hb.mono HB.out.size))
     clear hb HVM
     clear xW0 xW1 xW2 xW3 xW4
     go_wp2
     go_ret
     exact ⟨rfl,HBZ.out⟩
set_option maxHeartbeats 16000000 in
set_option maxRecDepth 100000 in
theorem lawNothB (RR:RootV) (n:ByteArray) (u:JV) (uan uai:Option Addr) (ucn uci:Nat) (t:ByteArray) (w w6 w9:World) (an ai:Option Addr) (cn ci:Nat) (bX bV:Nat) (u0 u2 u4 u5 u7 u8 u10 u11 u12 u13 u14 u15 u16 u17 u18 u19 u20 u21 u22 u23 u24 u25 u26 u27 u28 u29 u30 u31 u32 u33 u34 u35 u36 u37 u38 u39 u40 u41 u42 u43 u44 u45 u46 u47 u48 u49 u50 u51 u52 u53 u54 u55 u56 u57 u58 u59 u60 u61 u62 u63 u64 u65 u66 u67 u68 u69 u70 u71 u72 u73 u74 u75 u76 u77 u78 u79 u80 u81 u82 u83 u84 u85 u86 u87 u88 u89 u90 u91 u92 u93 u94 u95 u96 u97 u98 u99 u100 u101 u102 u103 u104 u105 u106 u107 u108 u109 u110 u111 u112 u113 u114 u115 u116 u117 u118 u119 u120 u121 u122 u123 u124 u125 u126 u127 u128 u129 u130 u131 u132 u133 u134 u135 u136 u137 u138 u139 u140 u141 u142 u143 u144 u145 u146 u147 u148 u149 u150 u151 u152 u153 u154 u155 u156 u157 u158 u159 u160 u161 u162 u163 u164 u165 u166 u167 u168 u169 u170 u171 u172 u173 u174 u175 u176 u177 u178 u179 u180 u181 u182 u183 u184 u185 u186 u187 u188 u189 u190 u191 u192 u193 u194 u195 u196 u197 u198 u199 u200 u201 u202 u203 u204 u205 u206 u207 u208 u209 u210 u211 u212 u213 u214 u215 u216 u217 u218 u219 u220 u221 u222 u223 u224 u225 u226 u227 u228 u229 u230 u231 u232 u233 u234 u235 u236 u237 u238 u239 u240 u241 u242 u243 u244 u245 u246 u247 u248 u249 u250:Value)
 (qHTB:∀w':World,Below w.heap.size w w'→Tabs w'∧TabW w'∧Pow10 w'∧TopsW w')
 (qHB:Below w.heap.size w w9)
 (qHZ0:0<w.heap.size)
 (qHLO:0<w6.heap.size)
 (qHM:mayRoot RR=true)
 (qHWU:u.wt≤20000)
 (qHNS:n.size≤300)
 (qHTS:t.size≤300)
 (qHU:Rep w9 0 w9.heap.size u (.agg #[.int .u8 u.kind,.int .i64 u.n,.string u.t,.slice uan u.names.length ucn,.slice uai u.items.length uci]))
 (qHV:Rep w9 w6.heap.size w9.heap.size (rootJ RR) (.agg #[.int .u8 5,.int .i64 0,.string ⟨#[]⟩,.slice an 5 cn,.slice ai 5 ci]))
 (qHXX:w9.heap[bX]?=some (.cells #[.int .u8 u.kind,.int .i64 u.n,.string u.t,.slice uan u.names.length ucn,.slice uai u.items.length uci] 25 (0,0)))
 (qHXV:w9.heap[bV]?=some (.cells #[.int .u8 5,.int .i64 0,.string ⟨#[]⟩,.slice an 5 cn,.slice ai 5 ci] 25 (0,0)))
 : Code.wp Tryz.prog (tailCode 5 (Tryz.f6.body.getD .skip)) (bodyPost Tryz.prog Tryz.f6 fun e w'=>e=.returned (.bool true)∧Below w.heap.size w w') ⟨#[u0,.string n,u2,.string t,u4,u5,.pointer (some ⟨bX,0,none⟩),u7,u8,.pointer (some ⟨bV,0,none⟩),u10,u11,u12,u13,u14,u15,u16,u17,u18,u19,u20,u21,u22,u23,u24,u25,u26,u27,u28,u29,u30,u31,u32,u33,u34,u35,u36,u37,u38,u39,u40,u41,u42,u43,u44,u45,u46,u47,u48,u49,u50,u51,u52,u53,u54,u55,u56,u57,u58,u59,u60,u61,u62,u63,u64,u65,u66,u67,u68,u69,u70,u71,u72,u73,u74,u75,u76,u77,u78,u79,u80,u81,u82,u83,u84,u85,u86,u87,u88,u89,u90,u91,u92,u93,u94,u95,u96,u97,u98,u99,u100,u101,u102,u103,u104,u105,u106,u107,u108,u109,u110,u111,u112,u113,u114,u115,u116,u117,u118,u119,u120,u121,u122,u123,u124,u125,u126,u127,u128,u129,u130,u131,u132,u133,u134,u135,u136,u137,u138,u139,u140,u141,u142,u143,u144,u145,u146,u147,u148,u149,u150,u151,u152,u153,u154,u155,u156,u157,u158,u159,u160,u161,u162,u163,u164,u165,u166,u167,u168,u169,u170,u171,u172,u173,u174,u175,u176,u177,u178,u179,u180,u181,u182,u183,u184,u185,u186,u187,u188,u189,u190,u191,u192,u193,u194,u195,u196,u197,u198,u199,u200,u201,u202,u203,u204,u205,u206,u207,u208,u209,u210,u211,u212,u213,u214,u215,u216,u217,u218,u219,u220,u221,u222,u223,u224,u225,u226,u227,u228,u229,u230,u231,u232,u233,u234,u235,u236,u237,u238,u239,u240,u241,u242,u243,u244,u245,u246,u247,u248,u249,u250],[]⟩ w9:=by
 have HTB:=Lh qHTB
 have HB:=Lh qHB
 have HZ0:=Lh qHZ0
 have HLO:=Lh qHLO
 have HM:=Lh qHM
 have HWU:=Lh qHWU
 have HNS:=Lh qHNS
 have HTS:=Lh qHTS
 have HU:=Lh qHU
 have HV:=Lh qHV
 have HXX:=Lh qHXX
 have HXV:=Lh qHXV
 clear qHTB qHB qHZ0 qHLO qHM qHWU qHNS qHTS qHU qHV qHXX qHXV
 conv=>arg 2;whnf
 go_upto_region 13 with fail
 have HLQ:=Lh (show 0<w9.heap.size from Nat.lt_of_lt_of_le HZ0.out HB.out.size)
 obtain ⟨xV0,xV1,xV2,xV3,xV4⟩:=boxc5 HXV.out
 go_wp2_with fail
 refine (getRoles RR _ w9 w6.heap.size HLO.out HM.out HV.out).mono ?_
 clear xV0 xV1 xV2 xV3 xV4
 rintro ee w10 ⟨qn,qc,qi,qd,rfl,hr,hb⟩
 replace HB:=Lh (HB.out.trans (hb.mono HB.out.size))
 replace HXX:=Lh ((hb.block _ (heap_lt HXX.out)).trans HXX.out)
 replace HXV:=Lh ((hb.block _ (heap_lt HXV.out)).trans HXV.out)
 replace HU:=Lh (HU.out.below hb lz lz hb.size)
 replace HV:=Lh (HV.out.below hb lz lz hb.size)
 have HQ:=Lh hr
 clear hr hb
 obtain ⟨bQ,hbQ⟩:∃bQ,bQ=w10.heap.size:=⟨_,rfl⟩
 obtain ⟨w11,hw11⟩:∃w11,w11=w10.alloc (.cells #[.int .u8 5,.int .i64 0,.string ⟨#[]⟩,.slice qn 3 qc,.slice qi 3 qd] 25):=⟨_,rfl⟩
 have hbx:Below w10.heap.size w10 w11:=by rw [hw11];exact (Below.refl _ _).alloc lz _
 have HXQ:=Lh (heap_new_at hw11 hbQ)
 replace HB:=Lh (HB.out.trans (hbx.mono HB.out.size))
 replace HXX:=Lh ((hbx.block _ (heap_lt HXX.out)).trans HXX.out)
 replace HXV:=Lh ((hbx.block _ (heap_lt HXV.out)).trans HXV.out)
 replace HU:=Lh (HU.out.below hbx lz lz hbx.size)
 replace HV:=Lh (HV.out.below hbx lz lz hbx.size)
 replace HQ:=Lh (HQ.out.below hbx lz lz hbx.size)
 have Hw11:=Lh (And.intro hw11 hbQ)
 clear hbx hw11 hbQ
 go_upto_region 14 with fail
 rw [← Hw11.out.1,← Hw11.out.2]
 clear Hw11
 have HV8:=Lh (show ∀w':World,Below w11.heap.size w11 w'→Rep w' w6.heap.size w'.heap.size (rootJ RR) (.agg #[.int .u8 5,.int .i64 0,.string ⟨#[]⟩,.slice an 5 cn,.slice ai 5 ci])∧w'.heap[bV]?=some (.cells #[.int .u8 5,.int .i64 0,.string ⟨#[]⟩,.slice an 5 cn,.slice ai 5 ci] 25 (0,0)) from fun w' h=>⟨HV.out.below h lz lz h.size,(h.block _ (heap_lt HXV.out)).trans HXV.out⟩)
 have HQ8:=Lh (show ∀w':World,Below w11.heap.size w11 w'→Rep w' w9.heap.size w'.heap.size (rolesJ RR.au) (.agg #[.int .u8 5,.int .i64 0,.string ⟨#[]⟩,.slice qn 3 qc,.slice qi 3 qd])∧w'.heap[bQ]?=some (.cells #[.int .u8 5,.int .i64 0,.string ⟨#[]⟩,.slice qn 3 qc,.slice qi 3 qd] 25 (0,0)) from fun w' h=>⟨HQ.out.below h lz lz h.size,(h.block _ (heap_lt HXQ.out)).trans HXQ.out⟩)
 go_wp2_with fail
 go_loopw [18,19,20,21,22,23,24] (fun i _ _ _ _ _ _ wr=>∃j:Nat,j≤3∧i=.int .i64 j∧Below w11.heap.size w11 wr) (fun i _ _ _ _ _ _ _=>3 - (intOf i).toNat)
 case atStart=>exact ⟨0,by omega,rfl,Below.refl _ _⟩
 case round =>
  obtain ⟨j,hj,rfl,hbj⟩:=hrel
  have HBJ:=Lh hbj
  clear hbj
  obtain ⟨xQ0,xQ1,xQ2,xQ3,xQ4⟩:=boxc5 (HQ8.out wr HBJ.out).2
  by_cases hlt:j<3
  case pos =>
   clear xQ0 xQ1 xQ2 xQ3 xQ4
   obtain ⟨pb,po,hpa,hpl,hpc⟩:=obj_name (HQ8.out wr HBJ.out).1 j hlt
   subst hpa
   obtain ⟨nm,hnm⟩:∃nm,nm=(rolesJ RR.au).names[j]:=⟨_,rfl⟩
   have HMEM:=Lh (show nm ∈ [rootN,snpN,tgtN] from by rw [hnm];exact List.getElem_mem hlt)
   replace hpc:=hpc.trans (congrArg (fun z=>some (Value.string z)) hnm.symm)
   clear hnm
   have HBW:=Lh (HB.out.trans (HBJ.out.mono HB.out.size))
   have HWR0:=Lh (show 0<wr.heap.size from Nat.lt_of_lt_of_le HZ0.out HBW.out.size)
   obtain ⟨J,hJ⟩:∃J,J=outJ (rolesJ RR.au) nm:=⟨_,rfl⟩
   have HFJ:=Lh (outRoles_facts HM.out HMEM.out)
   have HWO:=Lh (show ∀w':World,Below wr.heap.size wr w'→Calls Tryz.prog 32 #[.agg #[.int .u8 5,.int .i64 0,.string ⟨#[]⟩,.slice (some ⟨pb,po,none⟩) 3 qc,.slice qi 3 qd],.string nm] w' (fun e w2=>∃y,e=.returned y∧IsTupJ wr.heap.size J (.bool true) w2 y∧Below w'.heap.size w' w2) from fun w' h=>by rw [hJ];exact outRolesE RR nm _ w' w9.heap.size wr.heap.size h.size HLQ.out HM.out HMEM.out (HQ8.out w' (HBJ.out.trans (h.mono HBJ.out.size))).1)
   rw [← hJ] at HFJ
   clear hJ HMEM
   have HSOL:=Lh HFJ.out.2.2
   have HC5:=Lh (show ∀w':World,Below wr.heap.size wr w'→w'.cell? ⟨bQ,0,none⟩=some (.int .u8 5)∧w'.cell? ⟨bQ,1,none⟩=some (.int .i64 0)∧w'.cell? ⟨bQ,2,none⟩=some (.string ⟨#[]⟩)∧w'.cell? ⟨bQ,3,none⟩=some (.slice (some ⟨pb,po,none⟩) 3 qc)∧w'.cell? ⟨bQ,4,none⟩=some (.slice qi 3 qd)∧w'.cell? ⟨pb,po+j,none⟩=some (.string nm) from fun w' h=>by
    have z:=(HQ8.out w' (HBJ.out.trans (h.mono HBJ.out.size))).2
    exact ⟨box_cell z rfl,box_cell z rfl,box_cell z rfl,box_cell z rfl,box_cell z rfl,by rw [h.cell hpl];exact hpc⟩)
   have hlt5:(j:Int)<3:=by omega
   have hj0:(0:Int)≤(j:Int):=by omega
   obtain ⟨xQ0,xQ1,xQ2,xQ3,xQ4⟩:=boxc5 (HQ8.out wr HBJ.out).2
   go_upto_region 17 with fail
   clear xQ0 xQ1 xQ2 xQ3 xQ4
   obtain ⟨V,hV⟩:∃V:List MP,V=[.con (.agg #[.int .u8 5,.int .i64 0,.string ⟨#[]⟩,.slice (some ⟨pb,po,none⟩) 3 qc,.slice qi 3 qd]),.con (.pointer (some ⟨bQ,3,none⟩)),.con (.slice (some ⟨pb,po,none⟩) 3 qc),.con (.int .i64 (j:Int)),.con (.pointer (some ⟨pb,po+j,none⟩)),.con (.string nm),.tupJ wr.heap.size J (.bool true),.tupJ wr.heap.size J (.bool true),.objJ wr.heap.size J,.con (.bool true),.blk wr.heap.size 25 #[.int .u8 0,.int .i64 0,.string ⟨#[]⟩,.slice none 0 0,.slice none 0 0]]:=⟨_,rfl⟩
   have HV:=Lh hV
   clear hV
   refine wp_region_free 11 9 (fun d a' w'=>∃x108 x109 x110 x111 x112 x113 x114 x107 x115 x116 x19,a'=⟨#[u0,Value.string n,u2,Value.string t,u4,u5,Value.pointer (some { block:=bX,off:=0 }),u7,u8,Value.pointer (some { block:=bV,off:=0 }),u10,u11,u12,u13,u14,u15,Value.pointer (some { block:=bQ,off:=0 }),Value.bool true,Value.int IntKind.i64 (j:Int),x19,u20,u21,u22,u23,u24,u25,u26,u27,u28,u29,u30,u31,u32,u33,u34,u35,u36,u37,u38,u39,u40,u41,u42,u43,u44,u45,u46,u47,u48,u49,u50,u51,u52,u53,u54,u55,u56,u57,u58,u59,u60,u61,u62,u63,u64,u65,u66,u67,u68,u69,u70,u71,u72,u73,u74,u75,u76,u77,u78,u79,u80,u81,u82,u83,u84,u85,u86,u87,u88,u89,u90,u91,u92,u93,u94,Value.tuple #[Value.agg #[Value.int IntKind.u8 5,Value.int IntKind.i64 0,Value.string ⟨#[]⟩,Value.slice (some { block:=pb,off:=po }) 3 qc,Value.slice qi 3 qd],Value.bool true],Value.agg #[Value.int IntKind.u8 5,Value.int IntKind.i64 0,Value.string ⟨#[]⟩,Value.slice an 5 cn,Value.slice ai 5 ci],Value.tuple #[Value.agg #[Value.int IntKind.u8 5,Value.int IntKind.i64 0,Value.string ⟨#[]⟩,Value.slice (some { block:=pb,off:=po }) 3 qc,Value.slice qi 3 qd],Value.bool true],Value.agg #[Value.int IntKind.u8 5,Value.int IntKind.i64 0,Value.string ⟨#[]⟩,Value.slice (some { block:=pb,off:=po }) 3 qc,Value.slice qi 3 qd],Value.bool true,Value.int IntKind.i64 (j:Int),Value.pointer (some { block:=bQ,off:=3 }),Value.slice (some { block:=pb,off:=po }) 3 qc,Value.int IntKind.i64 3,Value.bool true,u105,u106,x107,x108,x109,x110,x111,x112,x113,x114,x115,x116,u117,u118,u119,u120,u121,u122,u123,u124,u125,u126,u127,u128,u129,u130,u131,u132,u133,u134,u135,u136,u137,u138,u139,u140,u141,u142,u143,u144,u145,u146,u147,u148,u149,u150,u151,u152,u153,u154,u155,u156,u157,u158,u159,u160,u161,u162,u163,u164,u165,u166,u167,u168,u169,u170,u171,u172,u173,u174,u175,u176,u177,u178,u179,u180,u181,u182,u183,u184,u185,u186,u187,u188,u189,u190,u191,u192,u193,u194,u195,u196,u197,u198,u199,u200,u201,u202,u203,u204,u205,u206,u207,u208,u209,u210,u211,u212,u213,u214,u215,u216,u217,u218,u219,u220,u221,u222,u223,u224,u225,u226,u227,u228,u229,u230,u231,u232,u233,u234,u235,u236,u237,u238,u239,u240,u241,u242,u243,u244,u245,u246,u247,u248,u249,u250],[]⟩∧RegI wr V d w' [x108,x109,x110,x111,x112,x113,x114,x107,x115,x116,x19]) (fun ee a' w'=>∃x108 x109 x110 x111 x112 x113 x114 x115 x116 b12 an7 cn7 ai7 ci7 an8 cn8 ai8 ci8,a'=⟨#[u0,Value.string n,u2,Value.string t,u4,u5,Value.pointer (some { block:=bX,off:=0 }),u7,u8,Value.pointer (some { block:=bV,off:=0 }),u10,u11,u12,u13,u14,u15,Value.pointer (some { block:=bQ,off:=0 }),Value.bool true,Value.int IntKind.i64 (j:Int),.pointer (some ⟨b12,0,none⟩),u20,u21,u22,u23,u24,u25,u26,u27,u28,u29,u30,u31,u32,u33,u34,u35,u36,u37,u38,u39,u40,u41,u42,u43,u44,u45,u46,u47,u48,u49,u50,u51,u52,u53,u54,u55,u56,u57,u58,u59,u60,u61,u62,u63,u64,u65,u66,u67,u68,u69,u70,u71,u72,u73,u74,u75,u76,u77,u78,u79,u80,u81,u82,u83,u84,u85,u86,u87,u88,u89,u90,u91,u92,u93,u94,Value.tuple #[Value.agg #[Value.int IntKind.u8 5,Value.int IntKind.i64 0,Value.string ⟨#[]⟩,Value.slice (some { block:=pb,off:=po }) 3 qc,Value.slice qi 3 qd],Value.bool true],Value.agg #[Value.int IntKind.u8 5,Value.int IntKind.i64 0,Value.string ⟨#[]⟩,Value.slice an 5 cn,Value.slice ai 5 ci],Value.tuple #[Value.agg #[Value.int IntKind.u8 5,Value.int IntKind.i64 0,Value.string ⟨#[]⟩,Value.slice (some { block:=pb,off:=po }) 3 qc,Value.slice qi 3 qd],Value.bool true],Value.agg #[Value.int IntKind.u8 5,Value.int IntKind.i64 0,Value.string ⟨#[]⟩,Value.slice (some { block:=pb,off:=po }) 3 qc,Value.slice qi 3 qd],Value.bool true,Value.int IntKind.i64 (j:Int),Value.pointer (some { block:=bQ,off:=3 }),Value.slice (some { block:=pb,off:=po }) 3 qc,Value.int IntKind.i64 3,Value.bool true,u105,u106,.tuple #[.agg #[.int .u8 5,.int .i64 0,.string ⟨#[]⟩,.slice an7 J.names.length cn7,.slice ai7 J.items.length ci7],.bool true],x108,x109,x110,x111,x112,x113,x114,x115,x116,u117,u118,u119,u120,u121,u122,u123,u124,u125,u126,u127,u128,u129,u130,u131,u132,u133,u134,u135,u136,u137,u138,u139,u140,u141,u142,u143,u144,u145,u146,u147,u148,u149,u150,u151,u152,u153,u154,u155,u156,u157,u158,u159,u160,u161,u162,u163,u164,u165,u166,u167,u168,u169,u170,u171,u172,u173,u174,u175,u176,u177,u178,u179,u180,u181,u182,u183,u184,u185,u186,u187,u188,u189,u190,u191,u192,u193,u194,u195,u196,u197,u198,u199,u200,u201,u202,u203,u204,u205,u206,u207,u208,u209,u210,u211,u212,u213,u214,u215,u216,u217,u218,u219,u220,u221,u222,u223,u224,u225,u226,u227,u228,u229,u230,u231,u232,u233,u234,u235,u236,u237,u238,u239,u240,u241,u242,u243,u244,u245,u246,u247,u248,u249,u250],[]⟩∧(ee→x116=.bool true)∧Below wr.heap.size wr w'∧wr.heap.size≤b12∧w'.heap[b12]?=some (.cells #[.int .u8 5,.int .i64 0,.string ⟨#[]⟩,.slice an8 J.names.length cn8,.slice ai8 J.items.length ci8] 25 (0,0))∧Rep w' wr.heap.size w'.heap.size J (.agg #[.int .u8 5,.int .i64 0,.string ⟨#[]⟩,.slice an8 J.names.length cn8,.slice ai8 J.items.length ci8])) (by kernel_rfl) (by kernel_rfl) (by kernel_rfl) ?first ?step ?store ?late ?last
   case first=>exact ⟨_,_,_,_,_,_,_,_,_,_,_,rfl,RegI.first _ _ _ (by rw [HV.out];rfl)⟩
   case step =>
    rintro d a' w' ⟨x108,x109,x110,x111,x112,x113,x114,x107,x115,x116,x19,rfl,h⟩ q hq hn hw
    rcases q with _|_|_|_|_|_|_|_|_|_|_|q
    · obtain ⟨y0,y1,y2,y3,y4,y5⟩:=HC5.out w' h.1
      refine wpOp_step rfl fun K hK=>?_
      go_simp
      exact hK _ _ ⟨_,x109,x110,x111,x112,x113,x114,x107,x115,x116,x19,rfl,h.same 0 _ (.con (.agg #[.int .u8 5,.int .i64 0,.string ⟨#[]⟩,.slice (some ⟨pb,po,none⟩) 3 qc,.slice qi 3 qd])) (by rw [HV.out];rfl) rfl⟩
    · refine wpOp_step rfl fun K hK=>?_
      go_simp
      exact hK _ _ ⟨x108,_,x110,x111,x112,x113,x114,x107,x115,x116,x19,rfl,h.same 1 _ (.con (.pointer (some ⟨bQ,3,none⟩))) (by rw [HV.out];rfl) rfl⟩
    · obtain rfl:x109=.pointer (some ⟨bQ,3,none⟩):=h.get 1 (hw _ rfl ⟨1,.data⟩ (by simp) rfl) (.con (.pointer (some ⟨bQ,3,none⟩))) (by rw [HV.out];rfl) _ rfl
      obtain ⟨y0,y1,y2,y3,y4,y5⟩:=HC5.out w' h.1
      refine wpOp_step rfl fun K hK=>?_
      go_simp
      exact hK _ _ ⟨x108,_,_,x111,x112,x113,x114,x107,x115,x116,x19,rfl,h.same 2 _ (.con (.slice (some ⟨pb,po,none⟩) 3 qc)) (by rw [HV.out];rfl) rfl⟩
    · refine wpOp_step rfl fun K hK=>?_
      go_simp
      exact hK _ _ ⟨x108,x109,x110,_,x112,x113,x114,x107,x115,x116,x19,rfl,h.same 3 _ (.con (.int .i64 (j:Int))) (by rw [HV.out];rfl) rfl⟩
    · obtain rfl:x110=.slice (some ⟨pb,po,none⟩) 3 qc:=h.get 2 (hw _ rfl ⟨2,.data⟩ (by simp) rfl) (.con (.slice (some ⟨pb,po,none⟩) 3 qc)) (by rw [HV.out];rfl) _ rfl
      obtain rfl:x111=.int .i64 (j:Int):=h.get 3 (hw _ rfl ⟨3,.data⟩ (by simp) rfl) (.con (.int .i64 (j:Int))) (by rw [HV.out];rfl) _ rfl
      obtain ⟨y0,y1,y2,y3,y4,y5⟩:=HC5.out w' h.1
      refine wpOp_step rfl fun K hK=>?_
      go_simp
      exact hK _ _ ⟨x108,x109,_,_,_,x113,x114,x107,x115,x116,x19,rfl,h.same 4 _ (.con (.pointer (some ⟨pb,po+j,none⟩))) (by rw [HV.out];rfl) rfl⟩
    · obtain rfl:x112=.pointer (some ⟨pb,po+j,none⟩):=h.get 4 (hw _ rfl ⟨4,.data⟩ (by simp) rfl) (.con (.pointer (some ⟨pb,po+j,none⟩))) (by rw [HV.out];rfl) _ rfl
      obtain ⟨y0,y1,y2,y3,y4,y5⟩:=HC5.out w' h.1
      refine wpOp_step rfl fun K hK=>?_
      go_simp
      exact hK _ _ ⟨x108,x109,x110,x111,_,_,x114,x107,x115,x116,x19,rfl,h.same 5 _ (.con (.string nm)) (by rw [HV.out];rfl) rfl⟩
    · obtain rfl:x108=.agg #[.int .u8 5,.int .i64 0,.string ⟨#[]⟩,.slice (some ⟨pb,po,none⟩) 3 qc,.slice qi 3 qd]:=h.get 0 (hw _ rfl ⟨0,.data⟩ (by simp) rfl) (.con (.agg #[.int .u8 5,.int .i64 0,.string ⟨#[]⟩,.slice (some ⟨pb,po,none⟩) 3 qc,.slice qi 3 qd])) (by rw [HV.out];rfl) _ rfl
      obtain rfl:x113=.string nm:=h.get 5 (hw _ rfl ⟨5,.data⟩ (by simp) rfl) (.con (.string nm)) (by rw [HV.out];rfl) _ rfl
      obtain ⟨y0,y1,y2,y3,y4,y5⟩:=HC5.out w' h.1
      refine wpOp_step rfl fun K hK=>?_
      go_simp
      refine (HWO.out w' h.1).mono ?_
      rintro e w2 ⟨y,rfl,hy,hb2⟩
      exact hK _ _ ⟨_,x109,x110,x111,x112,_,_,x107,x115,x116,x19,rfl,h.did hb2 6 _ (.tupJ wr.heap.size J (.bool true)) (by rw [HV.out];rfl) hy⟩
    · have hs114:=h.get 6 (hw _ rfl ⟨6,.data⟩ (by simp) rfl) (.tupJ wr.heap.size J (.bool true)) (by rw [HV.out];rfl) _ rfl
      obtain ⟨an7,cn7,ai7,ci7,rfl,hr7⟩:=hs114
      refine wpOp_step rfl fun K hK=>?_
      go_simp
      exact hK _ _ ⟨x108,x109,x110,x111,x112,x113,_,_,x115,x116,x19,rfl,h.same 7 _ (.tupJ wr.heap.size J (.bool true)) (by rw [HV.out];rfl) ⟨_,_,_,_,rfl,hr7⟩⟩
    · have hs107:=h.get 7 (hw _ rfl ⟨7,.data⟩ (by simp) rfl) (.tupJ wr.heap.size J (.bool true)) (by rw [HV.out];rfl) _ rfl
      obtain ⟨an7,cn7,ai7,ci7,rfl,hr7⟩:=hs107
      refine wpOp_step rfl fun K hK=>?_
      go_simp
      exact hK _ _ ⟨x108,x109,x110,x111,x112,x113,x114,_,_,x116,x19,rfl,h.same 8 _ (.objJ wr.heap.size J) (by rw [HV.out];rfl) ⟨_,_,_,_,rfl,hr7⟩⟩
    · have hs107:=h.get 7 (hw _ rfl ⟨7,.data⟩ (by simp) rfl) (.tupJ wr.heap.size J (.bool true)) (by rw [HV.out];rfl) _ rfl
      obtain ⟨an7,cn7,ai7,ci7,rfl,hr7⟩:=hs107
      refine wpOp_step rfl fun K hK=>?_
      go_simp
      exact hK _ _ ⟨x108,x109,x110,x111,x112,x113,x114,_,x115,_,x19,rfl,h.same 9 _ (.con (.bool true)) (by rw [HV.out];rfl) rfl⟩
    · refine wpOp_step rfl fun K hK=>?_
      go_simp
      exact hK _ _ ⟨x108,x109,x110,x111,x112,x113,x114,x107,x115,x116,_,rfl,h.new _ 10 _ (.blk wr.heap.size 25 #[.int .u8 0,.int .i64 0,.string ⟨#[]⟩,.slice none 0 0,.slice none 0 0]) (by rw [HV.out];rfl) (IsBlk.made _ h.1.size)⟩
    · omega
   case store =>
    rintro d a' w' ⟨x108,x109,x110,x111,x112,x113,x114,x107,x115,x116,x19,rfl,h⟩ hall
    obtain ⟨b12,k12,rfl,m12⟩:=h.get 10 (hall 10 (by omega) (by omega)) (.blk wr.heap.size 25 #[.int .u8 0,.int .i64 0,.string ⟨#[]⟩,.slice none 0 0,.slice none 0 0]) (by rw [HV.out];rfl) _ rfl
    obtain ⟨an7,cn7,ai7,ci7,rfl,hr7⟩:=h.get 7 (hall 7 (by omega) (by omega)) (.tupJ wr.heap.size J (.bool true)) (by rw [HV.out];rfl) _ rfl
    obtain ⟨an8,cn8,ai8,ci8,rfl,hr8⟩:=h.get 8 (hall 8 (by omega) (by omega)) (.objJ wr.heap.size J) (by rw [HV.out];rfl) _ rfl
    refine wpOp_step rfl fun K hK=>?_
    refine step_store_row rfl 25 (.tmp 19) (.tmp 115) rfl b12 #[.int .u8 5,.int .i64 0,.string ⟨#[]⟩,.slice an8 J.names.length cn8,.slice ai8 J.items.length ci8] rfl rfl 25 _ m12 (by kernel_rfl) rfl (by simp [Value.oneCell']) ?_
    have hsk:=Rep.skip (w':=w'.setRow b12 #[.int .u8 5,.int .i64 0,.string ⟨#[]⟩,.slice an8 J.names.length cn8,.slice ai8 J.items.length ci8]) (show w'.heap[b12]?=some (.cells zero5 25 (0,0)) from m12) (fun x hx=>by simp only [World.setRow,Array.getElem?_modify];rw [if_neg (fun e=>hx e.symm)]) _ _ HSOL.out hr8
    exact hK _ _ ⟨x108,x109,x110,x111,x112,x113,x114,_,x116,b12,an7,cn7,ai7,ci7,an8,cn8,ai8,ci8,rfl,fun hd=>h.get 9 hd (.con (.bool true)) (by rw [HV.out];rfl) _ rfl,below_setRowN h.1 k12 _,k12,by simp [World.setRow,Array.getElem?_modify,m12],Rep.carry lz (by simp [World.setRow]) (fun _ _ _=>rfl) _ _ hsk⟩
   case late =>
    rintro a' w' ⟨x108,x109,x110,x111,x112,x113,x114,x115,x116,b12,an7,cn7,ai7,ci7,an8,cn8,ai8,ci8,rfl,hF⟩
    obtain ⟨-,hb,k12,m12,hr⟩:=hF
    refine wpOp_step rfl fun K hK=>?_
    go_simp
    exact hK _ _ ⟨x108,x109,x110,x111,x112,x113,x114,x115,_,b12,an7,cn7,ai7,ci7,an8,cn8,ai8,ci8,rfl,fun _=>rfl,hb,k12,m12,hr⟩
   case last =>
    rintro a' w' ⟨x108,x109,x110,x111,x112,x113,x114,x115,x116,b12,an7,cn7,ai7,ci7,an8,cn8,ai8,ci8,rfl,hF⟩
    obtain ⟨h71,hle,k12,m12,hr8⟩:=hF
    obtain rfl:=h71 trivial
    clear h71 HV
    have HLE:=Lh hle
    have HR8:=Lh hr8
    have HM12:=Lh m12
    clear hr8 hle m12
    have HBA:=Lh (HBJ.out.trans (HLE.out.mono HBJ.out.size))
    have HBX:=Lh (HB.out.trans (HBA.out.mono HB.out.size))
    obtain ⟨xW0,xW1,xW2,xW3,xW4⟩:=boxc5 HM12.out
    obtain ⟨xV0,xV1,xV2,xV3,xV4⟩:=boxc5 (HV8.out w' HBA.out).2
    go_upto_region 18 with fail
    have HCO:=Lh (withRolesJ RR J _ _ w' w6.heap.size wr.heap.size HLO.out HWR0.out HM.out HFJ.out.1 (HV8.out w' HBA.out).1 HR8.out)
    go_wp2_with fail
    refine HCO.out.mono ?_
    clear HCO xW0 xW1 xW2 xW3 xW4 xV0 xV1 xV2 xV3 xV4
    obtain ⟨K,hK⟩:∃K,K=withJ (rootJ RR) 3 true rolN J:=⟨_,rfl⟩
    have HJ2:=Lh HFJ.out.2.1
    rw [← hK] at HJ2 ⊢
    clear hK HR8
    rintro ee wx ⟨⟨wn2,wc2,wi2,wd2,rfl,hr,hb⟩,hJ1⟩
    have HBB:=Lh (HBA.out.trans (hb.mono HBA.out.size))
    have HK1:=Lh hJ1
    have HKR:=Lh hr
    have HWR2:=Lh (show 0<w'.heap.size from Nat.lt_of_lt_of_le HZ0.out HBX.out.size)
    clear hr hb hJ1
    obtain ⟨bW,hbW⟩:∃bW,bW=wx.heap.size:=⟨_,rfl⟩
    obtain ⟨wy,hwy⟩:∃wy,wy=wx.alloc (.cells #[.int .u8 5,.int .i64 0,.string ⟨#[]⟩,.slice wn2 K.names.length wc2,.slice wi2 K.items.length wd2] 25):=⟨_,rfl⟩
    have hxw:wy.heap[bW]?=some (.cells #[.int .u8 5,.int .i64 0,.string ⟨#[]⟩,.slice wn2 K.names.length wc2,.slice wi2 K.items.length wd2] 25 (0,0)):=heap_new_at hwy hbW
    have hbb:Below wx.heap.size wx wy:=by rw [hwy];exact (Below.refl _ _).alloc lz _
    have HBC:=Lh (HBB.out.trans (hbb.mono HBB.out.size))
    replace HKR:=Lh (HKR.out.below hbb lz lz hbb.size)
    have HBY:=Lh (HB.out.trans (HBC.out.mono HB.out.size))
    obtain ⟨xW0,xW1,xW2,xW3,xW4⟩:=boxc5 hxw
    clear hbb hxw
    have HWB:=Lh (And.intro hwy hbW)
    clear hwy hbW
    go_upto_region 19 with fail
    rw [← HWB.out.1,← HWB.out.2]
    clear HWB
    have HCO:=Lh (of22 K _ wy w'.heap.size HWR2.out HK1.out HKR.out (HTB.out wy HBY.out).1 (HTB.out wy HBY.out).2.1 (HTB.out wy HBY.out).2.2.2)
    rw [HJ2.out] at HCO
    go_wp2_with fail
    refine HCO.out.mono ?_
    clear HCO xW0 xW1 xW2 xW3 xW4
    rintro ee wd ⟨z0,z1,z2,z3,z4,n0,n1,n2,n3,y0,y1,y2,y3,m0,m1,m2,m3,h4,hb⟩
    subst h4
    have HBD:=Lh ((HBC.out.trans (hb.mono HBC.out.size)).alloc (Nat.le_trans HBC.out.size hb.size) (.cells #[.int .i64 z0,.int .i64 z1,.slice y0 n0 m0,.int .i64 z2,.slice y1 n1 m1,.int .i64 z3,.slice y2 n2 m2,.int .i64 z4,.slice y3 n3 m3] 32))
    clear hb
    go_wp2
    exact ⟨⟨j+1,by omega,by go_num,HBD.out⟩,by simp [intOf];omega⟩
  case neg =>
   obtain rfl:j=3:=by omega
   clear hlt hj
   go_upto_if 104 with fail
   clear xQ0 xQ1 xQ2 xQ3 xQ4
   have HB8:=Lh (HB.out.trans (HBJ.out.mono HB.out.size))
   replace HV:=Lh (HV8.out wr HBJ.out).1
   replace HXV:=Lh (HV8.out wr HBJ.out).2
   replace HQ:=Lh (HQ8.out wr HBJ.out).1
   replace HXQ:=Lh (HQ8.out wr HBJ.out).2
   replace HXX:=Lh ((HBJ.out.block _ (heap_lt HXX.out)).trans HXX.out)
   replace HU:=Lh (HU.out.below HBJ.out lz lz HBJ.out.size)
   replace HB:=HB8
   go_step
   go_step
   go_step
   go_step
   go_step
   go_step
   exact lawNothC RR n u uan uai ucn uci t w w6 wr an ai cn ci bX bV w9 qn qi qc qd bQ _ _ _ _ _ _ _ _ _ _ _ _ _ _ _ _ _ _ _ _ _ _ _ _ _ _ _ _ _ _ _ _ _ _ _ _ _ _ _ _ _ _ _ _ _ _ _ _ _ _ _ _ _ _ _ _ _ _ _ _ _ _ _ _ _ _ _ _ _ _ _ _ _ _ _ _ _ _ _ _ _ _ _ _ _ _ _ _ _ _ _ _ _ _ _ _ _ _ _ _ _ _ _ _ _ _ _ _ _ _ _ _ _ _ _ _ _ _ _ _ _ _ _ _ _ _ _ _ _ _ _ _ _ _ _ _ _ _ _ _ _ _ _ _ _ _ _ _ _ _ _ _ _ _ _ _ _ _ _ _ _ _ _ _ _ _ _ _ _ _ _ _ _ _ _ _ _ _ _ _ _ _ _ _ _ _ _ _ _ _ _ _ _ _ _ _ _ _ _ _ _ _ _ _ _ _ _ _ _ _ _ _ _ _ _ _ _ _ _ _ _ _ _ _ _ _ _ _ _ _ _ _ _ _ _ _ _ _ _ _ _ _ _ _ _ _ HTB.out HB.out HZ0.out HLO.out HM.out HWU.out HNS.out HTS.out HU.out HV.out HXX.out HXV.out HLQ.out HQ.out HXQ.out
end Go.Proofs.YtnlgmcapbbgelaaGreatDoor
