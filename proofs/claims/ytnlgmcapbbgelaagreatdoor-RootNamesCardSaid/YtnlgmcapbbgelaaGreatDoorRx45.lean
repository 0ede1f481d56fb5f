/- legatelaw22.awake returns true. Printed by genawake22.py. -/
import Derived.Test.YtnlgmcapbbgelaaGreatDoorRx44

namespace Go.Proofs.YtnlgmcapbbgelaaGreatDoor
open Go.RowKit Go.Shelf Go.Sort
set_option maxHeartbeats 8000000 in
set_option maxRecDepth 100000 in
theorem m8 (w:World) (hT:Tabs w) (hTW:TabW w) (hP:zo w) (hTP:TopsW w):Calls Tryz.prog 11 #[] w fun e w'=>e=.returned (.bool true)∧Below w.heap.size w w':=by
 have HTB:=Lh (show ∀w':World,Below w.heap.size w w'→Tabs w'∧TabW w'∧zo w'∧TopsW w' from fun w' h=>⟨hT.below h,hTW.below h,hP.below h,hTP.below h⟩)
 have HB:=Lh (Below.refl w.heap.size w)
 have HZ0:=Lh (show 0<w.heap.size from Nat.lt_of_le_of_lt (Nat.zero_le _) hTP.lt)
 clear hT hTW hP hTP
 go_enter Tryz.func11,Tryz.ntmps11
 go_wp2_with fail
 refine (cG w).mono ?_
 rintro ee w1 ⟨ia,ib,ic,rfl,hI,hb⟩
 replace HB:=Lh (HB.out.trans (hb.mono HB.out.size))
 have HI:=Lh (hI.carry (Nat.zero_le _) lz (fun _ _ _=>rfl))
 clear hI hb
 go_wp2_with fail
 refine (cH ia ib ic w1 HI.out (HTB.out w1 HB.out).1 (HTB.out w1 HB.out).2.1 (HTB.out w1 HB.out).2.2.1 (HTB.out w1 HB.out).2.2.2).mono ?_
 rintro ee w2 ⟨an,cn,ai,ci,rfl,hr,hb⟩
 have HLO:=Lh (show 0<w1.heap.size from Nat.lt_of_lt_of_le HZ0.out HB.out.size)
 have HZ7:=Lh (Nat.le_refl w1.heap.size)
 replace HB:=Lh (HB.out.trans (hb.mono HB.out.size))
 replace HZ7:=Lh (Nat.le_trans HZ7.out hb.size)
 have HV:=Lh hr
 clear hr hb HI
 obtain ⟨bV,hbV⟩:∃bV,bV=w2.heap.size:=⟨_,rfl⟩
 obtain ⟨w3,hw3⟩:∃w3,w3=w2.alloc (.cells #[.int .u8 5,.int .i64 0,.string ⟨#[]⟩,.slice an 5 cn,.slice ai 5 ci] 25):=⟨_,rfl⟩
 have hbx:Below w2.heap.size w2 w3:=by rw [hw3];exact (Below.refl _ _).alloc lz _
 have HXV:=Lh (show w3.heap[bV]?=some (.cells #[.int .u8 5,.int .i64 0,.string ⟨#[]⟩,.slice an 5 cn,.slice ai 5 ci] 25 (0,0)) by rw [hw3,hbV];exact heap_alloc_new w2 _)
 replace HB:=Lh (HB.out.trans (hbx.mono HB.out.size))
 replace HV:=Lh (HV.out.below hbx lz lz hbx.size)
 replace HZ7:=Lh (Nat.le_trans HZ7.out hbx.size)
 have Hw3:=Lh (And.intro hw3 hbV)
 clear hbx hw3 hbV
 go_upto_region 2 with fail
 rw [← Hw3.out.1,← Hw3.out.2]
 clear Hw3
 obtain ⟨xV0,xV1,xV2,xV3,xV4⟩:=bx5 HXV.out
 go_wp2_with fail
 refine (af _ w3 w1.heap.size HLO.out HV.out (HTB.out w3 HB.out).1 (HTB.out w3 HB.out).2.1 (HTB.out w3 HB.out).2.2.1 (HTB.out w3 HB.out).2.2.2).mono ?_
 clear xV0 xV1 xV2 xV3 xV4
 rintro ee w4 ⟨ka,kc,j1,c1,j2,c2,j3,c3,rfl,hI,hb⟩
 replace HB:=Lh (HB.out.trans (hb.mono HB.out.size))
 replace HXV:=Lh ((hb.block _ (qz HXV.out)).trans HXV.out)
 replace HV:=Lh (HV.out.below hb lz lz hb.size)
 replace HZ7:=Lh (Nat.le_trans HZ7.out hb.size)
 have HI:=Lh (hI.carry (Nat.zero_le _) lz (fun _ _ _=>rfl))
 clear hI hb
 obtain ⟨bR,hbR⟩:∃bR,bR=w4.heap.size:=⟨_,rfl⟩
 obtain ⟨w5,hw5⟩:∃w5,w5=w4.alloc (.cells #[.int .i64 1,.int .i64 9,.slice ka 0 kc,.int .i64 1,.slice j1 1 c1,.int .i64 1,.slice j2 1 c2,.int .i64 1,.slice j3 1 c3] 32):=⟨_,rfl⟩
 have hbx:Below w4.heap.size w4 w5:=by rw [hw5];exact (Below.refl _ _).alloc lz _
 have HXR:=Lh (show w5.heap[bR]?=some (.cells #[.int .i64 1,.int .i64 9,.slice ka 0 kc,.int .i64 1,.slice j1 1 c1,.int .i64 1,.slice j2 1 c2,.int .i64 1,.slice j3 1 c3] 32 (0,0)) by rw [hw5,hbR];exact heap_alloc_new w4 _)
 replace HB:=Lh (HB.out.trans (hbx.mono HB.out.size))
 replace HXV:=Lh ((hbx.block _ (qz HXV.out)).trans HXV.out)
 replace HV:=Lh (HV.out.below hbx lz lz hbx.size)
 replace HI:=Lh (HI.out.below hbx lz lz hbx.size)
 replace HZ7:=Lh (Nat.le_trans HZ7.out hbx.size)
 have Hw5:=Lh (And.intro hw5 hbR)
 clear hbx hw5 hbR
 go_upto_region 3 with fail
 rw [← Hw5.out.1,← Hw5.out.2]
 clear Hw5
 obtain ⟨xV0,xV1,xV2,xV3,xV4⟩:=bx5 HXV.out
 go_wp2_with fail
 refine (sk _ w5 w1.heap.size HLO.out HV.out).mono ?_
 clear xV0 xV1 xV2 xV3 xV4
 rintro ee w6 ⟨gn,gc,gi,gd,rfl,hb⟩
 replace HB:=Lh (HB.out.trans (hb.mono HB.out.size))
 replace HXV:=Lh ((hb.block _ (qz HXV.out)).trans HXV.out)
 replace HXR:=Lh ((hb.block _ (qz HXR.out)).trans HXR.out)
 replace HV:=Lh (HV.out.below hb lz lz hb.size)
 replace HI:=Lh (HI.out.below hb lz lz hb.size)
 replace HZ7:=Lh (Nat.le_trans HZ7.out hb.size)
 clear hb
 obtain ⟨bT,hbT⟩:∃bT,bT=w6.heap.size:=⟨_,rfl⟩
 obtain ⟨w7,hw7⟩:∃w7,w7=w6.alloc (.cells #[.int .u8 3,.int .i64 0,.string ⟨#[49,57,55,48,45,48,49,45,48,49,84,48,48,58,48,48,58,48,57,90]⟩,.slice gn 0 gc,.slice gi 0 gd] 25):=⟨_,rfl⟩
 have hbx:Below w6.heap.size w6 w7:=by rw [hw7];exact (Below.refl _ _).alloc lz _
 have HXT:=Lh (show w7.heap[bT]?=some (.cells #[.int .u8 3,.int .i64 0,.string ⟨#[49,57,55,48,45,48,49,45,48,49,84,48,48,58,48,48,58,48,57,90]⟩,.slice gn 0 gc,.slice gi 0 gd] 25 (0,0)) by rw [hw7,hbT];exact heap_alloc_new w6 _)
 replace HB:=Lh (HB.out.trans (hbx.mono HB.out.size))
 replace HXV:=Lh ((hbx.block _ (qz HXV.out)).trans HXV.out)
 replace HXR:=Lh ((hbx.block _ (qz HXR.out)).trans HXR.out)
 replace HV:=Lh (HV.out.below hbx lz lz hbx.size)
 replace HI:=Lh (HI.out.below hbx lz lz hbx.size)
 replace HZ7:=Lh (Nat.le_trans HZ7.out hbx.size)
 have Hw7:=Lh (And.intro hw7 hbT)
 clear hbx hw7 hbT
 go_upto_region 4 with fail
 rw [← Hw7.out.1,← Hw7.out.2]
 clear Hw7
 have HZ8:=Lh HZ7.out
 obtain ⟨xV0,xV1,xV2,xV3,xV4⟩:=bx5 HXV.out
 go_wp2_with fail
 refine (rO _ w7 w1.heap.size HLO.out HV.out).mono ?_
 clear xV0 xV1 xV2 xV3 xV4
 rintro ee w8 ⟨hn,hc,hi,hd,rfl,hr,hb⟩
 replace HB:=Lh (HB.out.trans (hb.mono HB.out.size))
 replace HXV:=Lh ((hb.block _ (qz HXV.out)).trans HXV.out)
 replace HXR:=Lh ((hb.block _ (qz HXR.out)).trans HXR.out)
 replace HXT:=Lh ((hb.block _ (qz HXT.out)).trans HXT.out)
 replace HV:=Lh (HV.out.below hb lz lz hb.size)
 replace HI:=Lh (HI.out.below hb lz lz hb.size)
 replace HZ7:=Lh (Nat.le_trans HZ7.out hb.size)
 have HW:=Lh (hr.carry (lo':=w1.heap.size) (HZ8.out) lz (fun _ _ _=>rfl))
 clear hr hb
 obtain ⟨bW,hbW⟩:∃bW,bW=w8.heap.size:=⟨_,rfl⟩
 obtain ⟨w9,hw9⟩:∃w9,w9=w8.alloc (.cells #[.int .u8 5,.int .i64 0,.string ⟨#[]⟩,.slice hn 5 hc,.slice hi 5 hd] 25):=⟨_,rfl⟩
 have hbx:Below w8.heap.size w8 w9:=by rw [hw9];exact (Below.refl _ _).alloc lz _
 have HXW:=Lh (show w9.heap[bW]?=some (.cells #[.int .u8 5,.int .i64 0,.string ⟨#[]⟩,.slice hn 5 hc,.slice hi 5 hd] 25 (0,0)) by rw [hw9,hbW];exact heap_alloc_new w8 _)
 replace HB:=Lh (HB.out.trans (hbx.mono HB.out.size))
 replace HXV:=Lh ((hbx.block _ (qz HXV.out)).trans HXV.out)
 replace HXR:=Lh ((hbx.block _ (qz HXR.out)).trans HXR.out)
 replace HXT:=Lh ((hbx.block _ (qz HXT.out)).trans HXT.out)
 replace HV:=Lh (HV.out.below hbx lz lz hbx.size)
 replace HI:=Lh (HI.out.below hbx lz lz hbx.size)
 replace HW:=Lh (HW.out.below hbx lz lz hbx.size)
 replace HZ7:=Lh (Nat.le_trans HZ7.out hbx.size)
 have Hw9:=Lh (And.intro hw9 hbW)
 clear hbx hw9 hbW
 go_upto_region 5 with fail
 rw [← Hw9.out.1,← Hw9.out.2]
 clear Hw9
 obtain ⟨xW0,xW1,xW2,xW3,xW4⟩:=bx5 HXW.out
 go_wp2_with fail
 refine (sj cF 13 _ w9 w1.heap.size HLO.out rI rT HW.out (HTB.out w9 HB.out).1 (HTB.out w9 HB.out).2.1 (HTB.out w9 HB.out).2.2.1 (HTB.out w9 HB.out).2.2.2).mono ?_
 clear xW0 xW1 xW2 xW3 xW4
 rintro ee w10 ⟨za,zb,z1,y1,z2,y2,z3,y3,rfl,hb⟩
 replace HB:=Lh (HB.out.trans (hb.mono HB.out.size))
 replace HXV:=Lh ((hb.block _ (qz HXV.out)).trans HXV.out)
 replace HXR:=Lh ((hb.block _ (qz HXR.out)).trans HXR.out)
 replace HXT:=Lh ((hb.block _ (qz HXT.out)).trans HXT.out)
 replace HXW:=Lh ((hb.block _ (qz HXW.out)).trans HXW.out)
 replace HV:=Lh (HV.out.below hb lz lz hb.size)
 replace HI:=Lh (HI.out.below hb lz lz hb.size)
 replace HW:=Lh (HW.out.below hb lz lz hb.size)
 replace HZ7:=Lh (Nat.le_trans HZ7.out hb.size)
 clear hb HW HXW
 obtain ⟨bZ,hbZ⟩:∃bZ,bZ=w10.heap.size:=⟨_,rfl⟩
 obtain ⟨w11,hw11⟩:∃w11,w11=w10.alloc (.cells #[.int .i64 0,.int .i64 0,.slice za 0 zb,.int .i64 0,.slice z1 0 y1,.int .i64 0,.slice z2 0 y2,.int .i64 0,.slice z3 0 y3] 32):=⟨_,rfl⟩
 have hbx:Below w10.heap.size w10 w11:=by rw [hw11];exact (Below.refl _ _).alloc lz _
 have HXZ:=Lh (show w11.heap[bZ]?=some (.cells #[.int .i64 0,.int .i64 0,.slice za 0 zb,.int .i64 0,.slice z1 0 y1,.int .i64 0,.slice z2 0 y2,.int .i64 0,.slice z3 0 y3] 32 (0,0)) by rw [hw11,hbZ];exact heap_alloc_new w10 _)
 replace HB:=Lh (HB.out.trans (hbx.mono HB.out.size))
 replace HXV:=Lh ((hbx.block _ (qz HXV.out)).trans HXV.out)
 replace HXR:=Lh ((hbx.block _ (qz HXR.out)).trans HXR.out)
 replace HXT:=Lh ((hbx.block _ (qz HXT.out)).trans HXT.out)
 replace HV:=Lh (HV.out.below hbx lz lz hbx.size)
 replace HI:=Lh (HI.out.below hbx lz lz hbx.size)
 replace HZ7:=Lh (Nat.le_trans HZ7.out hbx.size)
 have Hw11:=Lh (And.intro hw11 hbZ)
 clear hbx hw11 hbZ
 go_upto_region 6 with fail
 rw [← Hw11.out.1,← Hw11.out.2]
 clear Hw11
 obtain ⟨xR0,xR1,xR2,xR3,xR4,xR5,xR6,xR7,xR8⟩:=bx9 HXR.out
 go_wp2_with fail
 refine (rE ka j1 j2 j3 kc c1 c2 c3 w11 HI.out (HTB.out w11 HB.out).2.2.2).mono ?_
 clear xR0 xR1 xR2 xR3 xR4 xR5 xR6 xR7 xR8
 rintro ee w12 ⟨ja,jc,rfl,hs,hb⟩
 replace HB:=Lh (HB.out.trans (hb.mono HB.out.size))
 replace HXV:=Lh ((hb.block _ (qz HXV.out)).trans HXV.out)
 replace HXR:=Lh ((hb.block _ (qz HXR.out)).trans HXR.out)
 replace HXT:=Lh ((hb.block _ (qz HXT.out)).trans HXT.out)
 replace HV:=Lh (HV.out.below hb lz lz hb.size)
 replace HI:=Lh (HI.out.below hb lz lz hb.size)
 replace HZ7:=Lh (Nat.le_trans HZ7.out hb.size)
 have HS:=Lh (hs.carry (Nat.zero_le _) lz (fun _ _ _=>rfl))
 clear hs hb HXZ
 obtain ⟨bA,hbA⟩:∃bA,bA=w12.heap.size:=⟨_,rfl⟩
 obtain ⟨w13,hw13⟩:∃w13,w13=w12.alloc (.cells #[.int .i64 1,.slice ja 1 jc] 30):=⟨_,rfl⟩
 have hbx:Below w12.heap.size w12 w13:=by rw [hw13];exact (Below.refl _ _).alloc lz _
 have HXA:=Lh (show w13.heap[bA]?=some (.cells #[.int .i64 1,.slice ja 1 jc] 30 (0,0)) by rw [hw13,hbA];exact heap_alloc_new w12 _)
 replace HB:=Lh (HB.out.trans (hbx.mono HB.out.size))
 replace HXV:=Lh ((hbx.block _ (qz HXV.out)).trans HXV.out)
 replace HXR:=Lh ((hbx.block _ (qz HXR.out)).trans HXR.out)
 replace HXT:=Lh ((hbx.block _ (qz HXT.out)).trans HXT.out)
 replace HV:=Lh (HV.out.below hbx lz lz hbx.size)
 replace HI:=Lh (HI.out.below hbx lz lz hbx.size)
 replace HS:=Lh (HS.out.below hbx lz lz hbx.size)
 replace HZ7:=Lh (Nat.le_trans HZ7.out hbx.size)
 have Hw13:=Lh (And.intro hw13 hbA)
 clear hbx hw13 hbA
 go_upto_region 7 with fail
 rw [← Hw13.out.1,← Hw13.out.2]
 clear Hw13
 obtain ⟨xR0,xR1,xR2,xR3,xR4,xR5,xR6,xR7,xR8⟩:=bx9 HXR.out
 go_wp2_with fail
 refine (ac ka j1 j2 j3 kc c1 c2 c3 w13 HI.out (HTB.out w13 HB.out).2.2.2).mono ?_
 clear xR0 xR1 xR2 xR3 xR4 xR5 xR6 xR7 xR8
 rintro ee w14 ⟨jb,jd,rfl,hb⟩
 replace HB:=Lh (HB.out.trans (hb.mono HB.out.size))
 replace HXV:=Lh ((hb.block _ (qz HXV.out)).trans HXV.out)
 replace HXR:=Lh ((hb.block _ (qz HXR.out)).trans HXR.out)
 replace HXT:=Lh ((hb.block _ (qz HXT.out)).trans HXT.out)
 replace HXA:=Lh ((hb.block _ (qz HXA.out)).trans HXA.out)
 replace HV:=Lh (HV.out.below hb lz lz hb.size)
 replace HI:=Lh (HI.out.below hb lz lz hb.size)
 replace HS:=Lh (HS.out.below hb lz lz hb.size)
 replace HZ7:=Lh (Nat.le_trans HZ7.out hb.size)
 clear hb
 obtain ⟨bN,hbN⟩:∃bN,bN=w14.heap.size:=⟨_,rfl⟩
 obtain ⟨w15,hw15⟩:∃w15,w15=w14.alloc (.cells #[.int .i64 0,.slice jb 0 jd] 30):=⟨_,rfl⟩
 have hbx:Below w14.heap.size w14 w15:=by rw [hw15];exact (Below.refl _ _).alloc lz _
 have HXN:=Lh (show w15.heap[bN]?=some (.cells #[.int .i64 0,.slice jb 0 jd] 30 (0,0)) by rw [hw15,hbN];exact heap_alloc_new w14 _)
 replace HB:=Lh (HB.out.trans (hbx.mono HB.out.size))
 replace HXV:=Lh ((hbx.block _ (qz HXV.out)).trans HXV.out)
 replace HXR:=Lh ((hbx.block _ (qz HXR.out)).trans HXR.out)
 replace HXT:=Lh ((hbx.block _ (qz HXT.out)).trans HXT.out)
 replace HXA:=Lh ((hbx.block _ (qz HXA.out)).trans HXA.out)
 replace HV:=Lh (HV.out.below hbx lz lz hbx.size)
 replace HI:=Lh (HI.out.below hbx lz lz hbx.size)
 replace HS:=Lh (HS.out.below hbx lz lz hbx.size)
 replace HZ7:=Lh (Nat.le_trans HZ7.out hbx.size)
 have Hw15:=Lh (And.intro hw15 hbN)
 clear hbx hw15 hbN
 go_upto_region 8 with fail
 rw [← Hw15.out.1,← Hw15.out.2]
 clear Hw15
 have HC:=Lh (show ∀w':World,Below w15.heap.size w15 w'→(w'.cell? ⟨bT,2,none⟩=some (.string ⟨#[49,57,55,48,45,48,49,45,48,49,84,48,48,58,48,48,58,48,57,90]⟩)∧w'.cell? ⟨bV,3,none⟩=some (.slice an 5 cn)∧w'.cell? ⟨bA,0,none⟩=some (.int .i64 1)∧w'.cell? ⟨bA,1,none⟩=some (.slice ja 1 jc))∧(w'.cell? ⟨bR,0,none⟩=some (.int .i64 1)∧w'.cell? ⟨bR,1,none⟩=some (.int .i64 9)∧w'.cell? ⟨bR,2,none⟩=some (.slice ka 0 kc)∧w'.cell? ⟨bR,3,none⟩=some (.int .i64 1)∧w'.cell? ⟨bR,4,none⟩=some (.slice j1 1 c1)∧w'.cell? ⟨bR,5,none⟩=some (.int .i64 1)∧w'.cell? ⟨bR,6,none⟩=some (.slice j2 1 c2)∧w'.cell? ⟨bR,7,none⟩=some (.int .i64 1)∧w'.cell? ⟨bR,8,none⟩=some (.slice j3 1 c3)) from fun w' h=>by
  have y1:=(h.block _ (qz HXT.out)).trans HXT.out
  have y2:=(h.block _ (qz HXV.out)).trans HXV.out
  have y3:=(h.block _ (qz HXA.out)).trans HXA.out
  have y4:=(h.block _ (qz HXR.out)).trans HXR.out
  exact ⟨⟨qq y1 rfl,qq y2 rfl,qq y3 rfl,qq y3 rfl⟩,qq y4 rfl,qq y4 rfl,qq y4 rfl,qq y4 rfl,qq y4 rfl,qq y4 rfl,qq y4 rfl,qq y4 rfl,qq y4 rfl⟩)
 have HSM:=Lh (show ∀(w':World) (ia ib ic:Option Addr),Below w15.heap.size w15 w'→RootIn w' 0 w'.heap.size exR none ia ib ic→Calls Tryz.prog 14 #[.agg #[.int .i64 1,.int .i64 9,.slice ka 0 kc,.int .i64 1,.slice j1 1 c1,.int .i64 1,.slice j2 1 c2,.int .i64 1,.slice j3 1 c3],.agg #[.int .i64 1,.int .i64 9,.slice none 0 0,.int .i64 1,.slice ia 1 1,.int .i64 1,.slice ib 1 1,.int .i64 1,.slice ic 1 1]] w' (fun e w''=>e=.returned (.bool true)∧Below w'.heap.size w' w'') from fun w' ia ib ic h hj=>r9 ka j1 j2 j3 ia ib ic kc c1 c2 c3 w' (HI.out.below h lz lz h.size) hj)
 have HSA:=Lh (show ∀(w':World) (ga:Option Addr),Below w15.heap.size w15 w'→qk w' 0 w'.heap.size ga [qG 98]→Calls Tryz.prog 31 #[.agg #[.int .i64 1,.slice ja 1 jc],.agg #[.int .i64 1,.slice ga 1 1]] w' (fun e w''=>e=.returned (.bool true)∧Below w'.heap.size w' w'') from fun w' ga h hj=>lh ja ga jc w' (HS.out.below h lz lz h.size) hj)
 obtain ⟨V,hV⟩:∃V:List MP,V=[.con (.int .i64 0),.con (.bool true),.con (.bool true),.con (.int .i64 0),.con (.bool true),.con (.bool true),.con (.bool true),.con (.agg #[.int .i64 1,.int .i64 9,.slice ka 0 kc,.int .i64 1,.slice j1 1 c1,.int .i64 1,.slice j2 1 c2,.int .i64 1,.slice j3 1 c3]),MP.ex 0,.con (.bool true),.con (.bool true),.con (.bool true),.con (.bool true),.con (.bool true),.con (.bool true),.con (.pointer (some ⟨bT,2,none⟩)),.con (.string ⟨#[49,57,55,48,45,48,49,45,48,49,84,48,48,58,48,48,58,48,57,90]⟩),.con (.bool true),.con (.bool true),.con (.bool true),.con (.int .i64 0),.con (.bool true),.con (.bool true),.con (.bool true),.con (.int .i64 13),.con (.bool true),.con (.bool true),.con (.bool true),.con (.bool true),.con (.bool true),.con (.bool true),.con (.bool false),.con (.bool true),.con (.bool true),.con (.bool true),.con (.agg #[.int .i64 1,.slice ja 1 jc]),MP.who 98 0,.con (.bool true),.con (.bool true),.con (.bool true),.con (.pointer (some ⟨bV,3,none⟩)),.con (.slice an 5 cn),.con (.int .i64 5),.con (.bool true),.con (.bool true)]:=⟨_,rfl⟩
 have HV:=Lh hV
 clear hV
 refine xJ 45 (fun d a' w'=>∃x51 x52 x53 x54 x55 x56 x57 x58 x59 x60 x61 x62 x63 x64 x65 x66 x67 x68 x69 x70 x71 x72 x73 x74 x75 x76 x77 x78 x79 x80 x81 x82 x83 x84 x85 x86 x87 x88 x89 x90 x91 x92 x93 x94 x95,a'=⟨#[Value.bool false,Value.pointer (some { block:=bV,off:=0 }),Value.int IntKind.i64 0,Value.pointer (some { block:=bR,off:=0 }),Value.int IntKind.i64 0,Value.pointer (some { block:=bT,off:=0 }),Value.bool true,Value.pointer (some { block:=bW,off:=0 }),Value.int IntKind.i64 0,Value.pointer (some { block:=bZ,off:=0 }),Value.int IntKind.i64 13,Value.pointer (some { block:=bA,off:=0 }),Value.bool true,Value.pointer (some { block:=bN,off:=0 }),Value.bool false,Value.tuple #[Value.agg #[Value.int IntKind.u8 5,Value.int IntKind.i64 0,Value.string ⟨#[]⟩,Value.slice an 5 cn,Value.slice ai 5 ci],Value.int IntKind.i64 0],Value.agg #[Value.int IntKind.i64 1,Value.int IntKind.i64 9,Value.slice none 0 0,Value.int IntKind.i64 1,Value.slice ia 1 1,Value.int IntKind.i64 1,Value.slice ib 1 1,Value.int IntKind.i64 1,Value.slice ic 1 1],Value.tuple #[Value.agg #[Value.int IntKind.u8 5,Value.int IntKind.i64 0,Value.string ⟨#[]⟩,Value.slice an 5 cn,Value.slice ai 5 ci],Value.int IntKind.i64 0],Value.agg #[Value.int IntKind.u8 5,Value.int IntKind.i64 0,Value.string ⟨#[]⟩,Value.slice an 5 cn,Value.slice ai 5 ci],Value.int IntKind.i64 0,Value.tuple #[Value.agg #[Value.int IntKind.i64 1,Value.int IntKind.i64 9,Value.slice ka 0 kc,Value.int IntKind.i64 1,Value.slice j1 1 c1,Value.int IntKind.i64 1,Value.slice j2 1 c2,Value.int IntKind.i64 1,Value.slice j3 1 c3],Value.int IntKind.i64 0],Value.agg #[Value.int IntKind.u8 5,Value.int IntKind.i64 0,Value.string ⟨#[]⟩,Value.slice an 5 cn,Value.slice ai 5 ci],Value.tuple #[Value.agg #[Value.int IntKind.i64 1,Value.int IntKind.i64 9,Value.slice ka 0 kc,Value.int IntKind.i64 1,Value.slice j1 1 c1,Value.int IntKind.i64 1,Value.slice j2 1 c2,Value.int IntKind.i64 1,Value.slice j3 1 c3],Value.int IntKind.i64 0],Value.agg #[Value.int IntKind.i64 1,Value.int IntKind.i64 9,Value.slice ka 0 kc,Value.int IntKind.i64 1,Value.slice j1 1 c1,Value.int IntKind.i64 1,Value.slice j2 1 c2,Value.int IntKind.i64 1,Value.slice j3 1 c3],Value.int IntKind.i64 0,Value.tuple #[Value.agg #[Value.int IntKind.u8 3,Value.int IntKind.i64 0,Value.string ⟨#[49,57,55,48,45,48,49,45,48,49,84,48,48,58,48,48,58,48,57,90]⟩,Value.slice gn 0 gc,Value.slice gi 0 gd],Value.bool true],Value.agg #[Value.int IntKind.u8 5,Value.int IntKind.i64 0,Value.string ⟨#[]⟩,Value.slice an 5 cn,Value.slice ai 5 ci],Value.tuple #[Value.agg #[Value.int IntKind.u8 3,Value.int IntKind.i64 0,Value.string ⟨#[49,57,55,48,45,48,49,45,48,49,84,48,48,58,48,48,58,48,57,90]⟩,Value.slice gn 0 gc,Value.slice gi 0 gd],Value.bool true],Value.agg #[Value.int IntKind.u8 3,Value.int IntKind.i64 0,Value.string ⟨#[49,57,55,48,45,48,49,45,48,49,84,48,48,58,48,48,58,48,57,90]⟩,Value.slice gn 0 gc,Value.slice gi 0 gd],Value.bool true,Value.tuple #[Value.agg #[Value.int IntKind.u8 5,Value.int IntKind.i64 0,Value.string ⟨#[]⟩,Value.slice hn 5 hc,Value.slice hi 5 hd],Value.int IntKind.i64 0],Value.agg #[Value.int IntKind.u8 5,Value.int IntKind.i64 0,Value.string ⟨#[]⟩,Value.slice an 5 cn,Value.slice ai 5 ci],Value.agg #[Value.int IntKind.u8 3,Value.int IntKind.i64 0,Value.string ⟨#[115,110,97,112,115,104,111,116]⟩,Value.slice none 0 0,Value.slice none 0 0],Value.tuple #[Value.agg #[Value.int IntKind.u8 5,Value.int IntKind.i64 0,Value.string ⟨#[]⟩,Value.slice hn 5 hc,Value.slice hi 5 hd],Value.int IntKind.i64 0],Value.agg #[Value.int IntKind.u8 5,Value.int IntKind.i64 0,Value.string ⟨#[]⟩,Value.slice hn 5 hc,Value.slice hi 5 hd],Value.int IntKind.i64 0,Value.tuple #[Value.agg #[Value.int IntKind.i64 0,Value.int IntKind.i64 0,Value.slice za 0 zb,Value.int IntKind.i64 0,Value.slice z1 0 y1,Value.int IntKind.i64 0,Value.slice z2 0 y2,Value.int IntKind.i64 0,Value.slice z3 0 y3],Value.int IntKind.i64 13],Value.agg #[Value.int IntKind.u8 5,Value.int IntKind.i64 0,Value.string ⟨#[]⟩,Value.slice hn 5 hc,Value.slice hi 5 hd],Value.tuple #[Value.agg #[Value.int IntKind.i64 0,Value.int IntKind.i64 0,Value.slice za 0 zb,Value.int IntKind.i64 0,Value.slice z1 0 y1,Value.int IntKind.i64 0,Value.slice z2 0 y2,Value.int IntKind.i64 0,Value.slice z3 0 y3],Value.int IntKind.i64 13],Value.agg #[Value.int IntKind.i64 0,Value.int IntKind.i64 0,Value.slice za 0 zb,Value.int IntKind.i64 0,Value.slice z1 0 y1,Value.int IntKind.i64 0,Value.slice z2 0 y2,Value.int IntKind.i64 0,Value.slice z3 0 y3],Value.int IntKind.i64 13,Value.tuple #[Value.agg #[Value.int IntKind.i64 1,Value.slice ja 1 jc],Value.bool true],Value.agg #[Value.int IntKind.i64 1,Value.int IntKind.i64 9,Value.slice ka 0 kc,Value.int IntKind.i64 1,Value.slice j1 1 c1,Value.int IntKind.i64 1,Value.slice j2 1 c2,Value.int IntKind.i64 1,Value.slice j3 1 c3],Value.tuple #[Value.agg #[Value.int IntKind.i64 1,Value.slice ja 1 jc],Value.bool true],Value.agg #[Value.int IntKind.i64 1,Value.slice ja 1 jc],Value.bool true,Value.tuple #[Value.agg #[Value.int IntKind.i64 0,Value.slice jb 0 jd],Value.bool false],Value.agg #[Value.int IntKind.i64 1,Value.int IntKind.i64 9,Value.slice ka 0 kc,Value.int IntKind.i64 1,Value.slice j1 1 c1,Value.int IntKind.i64 1,Value.slice j2 1 c2,Value.int IntKind.i64 1,Value.slice j3 1 c3],Value.tuple #[Value.agg #[Value.int IntKind.i64 0,Value.slice jb 0 jd],Value.bool false],Value.agg #[Value.int IntKind.i64 0,Value.slice jb 0 jd],Value.bool false,x51,x52,x53,x54,x55,x56,x57,x58,x59,x60,x61,x62,x63,x64,x65,x66,x67,x68,x69,x70,x71,x72,x73,x74,x75,x76,x77,x78,x79,x80,x81,x82,x83,x84,x85,x86,x87,x88,x89,x90,x91,x92,x93,x94,x95],[]⟩∧xm w15 V d w' [x51,x52,x53,x54,x55,x56,x57,x58,x59,x60,x61,x62,x63,x64,x65,x66,x67,x68,x69,x70,x71,x72,x73,x74,x75,x76,x77,x78,x79,x80,x81,x82,x83,x84,x85,x86,x87,x88,x89,x90,x91,x92,x93,x94,x95]) (by kernel_rfl) (by kernel_rfl) ?first ?step ?last
 case first=>exact ⟨_,_,_,_,_,_,_,_,_,_,_,_,_,_,_,_,_,_,_,_,_,_,_,_,_,_,_,_,_,_,_,_,_,_,_,_,_,_,_,_,_,_,_,_,_,rfl,xm.first _ _ _ (by rw [HV.out];rfl)⟩
 case step =>
  rintro d a' w' ⟨x51,x52,x53,x54,x55,x56,x57,x58,x59,x60,x61,x62,x63,x64,x65,x66,x67,x68,x69,x70,x71,x72,x73,x74,x75,x76,x77,x78,x79,x80,x81,x82,x83,x84,x85,x86,x87,x88,x89,x90,x91,x92,x93,x94,x95,rfl,h⟩ q hq hn hw
  rcases q with _|_|_|_|_|_|_|_|_|_|_|_|_|_|_|_|_|_|_|_|_|_|_|_|_|_|_|_|_|_|_|_|_|_|_|_|_|_|_|_|_|_|_|_|_|q
  · refine wpOp_step rfl fun K hK=>?_
    go_simp
    exact hK _ _ ⟨_,x52,x53,x54,x55,x56,x57,x58,x59,x60,x61,x62,x63,x64,x65,x66,x67,x68,x69,x70,x71,x72,x73,x74,x75,x76,x77,x78,x79,x80,x81,x82,x83,x84,x85,x86,x87,x88,x89,x90,x91,x92,x93,x94,x95,rfl,h.sameC 0 _ HV rfl⟩
  · obtain rfl:=h.con 0 (hw _ rfl ⟨0,.data⟩ (by simp) rfl) HV rfl rfl
    refine wpOp_step rfl fun K hK=>?_
    go_simp
    exact hK _ _ ⟨_,_,x53,x54,x55,x56,x57,x58,x59,x60,x61,x62,x63,x64,x65,x66,x67,x68,x69,x70,x71,x72,x73,x74,x75,x76,x77,x78,x79,x80,x81,x82,x83,x84,x85,x86,x87,x88,x89,x90,x91,x92,x93,x94,x95,rfl,h.sameC 1 _ HV rfl⟩
  · obtain rfl:=h.con 1 (hw _ rfl ⟨1,.data⟩ (by simp) rfl) HV rfl rfl
    refine wpOp_step rfl fun K hK=>?_
    go_simp
    exact hK _ _ ⟨x51,_,_,x54,x55,x56,x57,x58,x59,x60,x61,x62,x63,x64,x65,x66,x67,x68,x69,x70,x71,x72,x73,x74,x75,x76,x77,x78,x79,x80,x81,x82,x83,x84,x85,x86,x87,x88,x89,x90,x91,x92,x93,x94,x95,rfl,h.sameC 2 _ HV rfl⟩
  · obtain rfl:=h.con 2 (hw _ rfl ⟨2,.guard⟩ (by simp) rfl) HV rfl rfl
    refine wpOp_step rfl fun K hK=>?_
    go_simp
    exact hK _ _ ⟨x51,x52,_,_,x55,x56,x57,x58,x59,x60,x61,x62,x63,x64,x65,x66,x67,x68,x69,x70,x71,x72,x73,x74,x75,x76,x77,x78,x79,x80,x81,x82,x83,x84,x85,x86,x87,x88,x89,x90,x91,x92,x93,x94,x95,rfl,h.sameC 3 _ HV rfl⟩
  · obtain rfl:=h.con 2 (hw _ rfl ⟨2,.guard⟩ (by simp) rfl) HV rfl rfl
    obtain rfl:=h.con 3 (hw _ rfl ⟨3,.data⟩ (by simp) rfl) HV rfl rfl
    refine wpOp_step rfl fun K hK=>?_
    go_simp
    exact hK _ _ ⟨x51,x52,_,_,_,x56,x57,x58,x59,x60,x61,x62,x63,x64,x65,x66,x67,x68,x69,x70,x71,x72,x73,x74,x75,x76,x77,x78,x79,x80,x81,x82,x83,x84,x85,x86,x87,x88,x89,x90,x91,x92,x93,x94,x95,rfl,h.sameC 4 _ HV rfl⟩
  · obtain rfl:=h.con 2 (hw _ rfl ⟨2,.data⟩ (by simp) rfl) HV rfl rfl
    obtain rfl:=h.con 4 (hw _ rfl ⟨4,.data⟩ (by simp) rfl) HV rfl rfl
    refine wpOp_step rfl fun K hK=>?_
    go_simp
    exact hK _ _ ⟨x51,x52,_,x54,_,_,x57,x58,x59,x60,x61,x62,x63,x64,x65,x66,x67,x68,x69,x70,x71,x72,x73,x74,x75,x76,x77,x78,x79,x80,x81,x82,x83,x84,x85,x86,x87,x88,x89,x90,x91,x92,x93,x94,x95,rfl,h.sameC 5 _ HV rfl⟩
  · obtain rfl:=h.con 5 (hw _ rfl ⟨5,.data⟩ (by simp) rfl) HV rfl rfl
    refine wpOp_step rfl fun K hK=>?_
    go_simp
    exact hK _ _ ⟨x51,x52,x53,x54,x55,_,_,x58,x59,x60,x61,x62,x63,x64,x65,x66,x67,x68,x69,x70,x71,x72,x73,x74,x75,x76,x77,x78,x79,x80,x81,x82,x83,x84,x85,x86,x87,x88,x89,x90,x91,x92,x93,x94,x95,rfl,h.sameC 6 _ HV rfl⟩
  · obtain rfl:=h.con 6 (hw _ rfl ⟨6,.guard⟩ (by simp) rfl) HV rfl rfl
    obtain ⟨⟨q0,q1,q2,q3⟩,r0,r1,r2,r3,r4,r5,r6,r7,r8⟩:=HC.out w' h.1
    refine wpOp_step rfl fun K hK=>?_
    go_simp
    exact hK _ _ ⟨x51,x52,x53,x54,x55,x56,_,_,x59,x60,x61,x62,x63,x64,x65,x66,x67,x68,x69,x70,x71,x72,x73,x74,x75,x76,x77,x78,x79,x80,x81,x82,x83,x84,x85,x86,x87,x88,x89,x90,x91,x92,x93,x94,x95,rfl,h.sameC 7 _ HV rfl⟩
  · obtain rfl:=h.con 6 (hw _ rfl ⟨6,.chain⟩ (by simp) rfl) HV rfl rfl
    obtain ⟨⟨q0,q1,q2,q3⟩,r0,r1,r2,r3,r4,r5,r6,r7,r8⟩:=HC.out w' h.1
    refine wpOp_step rfl fun K hK=>?_
    go_simp
    refine (yf w').mono ?_
    rintro e w2 ⟨y,rfl,hy,hb2⟩
    exact hK _ _ ⟨x51,x52,x53,x54,x55,x56,_,x58,_,x60,x61,x62,x63,x64,x65,x66,x67,x68,x69,x70,x71,x72,x73,x74,x75,x76,x77,x78,x79,x80,x81,x82,x83,x84,x85,x86,x87,x88,x89,x90,x91,x92,x93,x94,x95,rfl,h.did hb2 8 _ (MP.ex 0) (by rw [HV.out];rfl) hy⟩
  · obtain rfl:=h.con 6 (hw _ rfl ⟨6,.guard⟩ (by simp) rfl) HV rfl rfl
    obtain rfl:=h.con 7 (hw _ rfl ⟨7,.data⟩ (by simp) rfl) HV rfl rfl
    have hs59:=h.get 8 (hw _ rfl ⟨8,.data⟩ (by simp) rfl) (MP.ex 0) (by rw [HV.out];rfl) _ rfl
    obtain ⟨ia2,ib2,ic2,rfl,hj2⟩:=hs59
    obtain ⟨⟨q0,q1,q2,q3⟩,r0,r1,r2,r3,r4,r5,r6,r7,r8⟩:=HC.out w' h.1
    refine wpOp_step rfl fun K hK=>?_
    go_simp
    refine (HSM.out w' ia2 ib2 ic2 h.1 hj2).mono ?_
    rintro e w2 ⟨rfl,hb2⟩
    exact hK _ _ ⟨x51,x52,x53,x54,x55,x56,_,_,_,_,x61,x62,x63,x64,x65,x66,x67,x68,x69,x70,x71,x72,x73,x74,x75,x76,x77,x78,x79,x80,x81,x82,x83,x84,x85,x86,x87,x88,x89,x90,x91,x92,x93,x94,x95,rfl,h.didC hb2 9 _ HV rfl⟩
  · obtain rfl:=h.con 6 (hw _ rfl ⟨6,.data⟩ (by simp) rfl) HV rfl rfl
    obtain rfl:=h.con 9 (hw _ rfl ⟨9,.data⟩ (by simp) rfl) HV rfl rfl
    refine wpOp_step rfl fun K hK=>?_
    go_simp
    exact hK _ _ ⟨x51,x52,x53,x54,x55,x56,_,x58,x59,_,_,x62,x63,x64,x65,x66,x67,x68,x69,x70,x71,x72,x73,x74,x75,x76,x77,x78,x79,x80,x81,x82,x83,x84,x85,x86,x87,x88,x89,x90,x91,x92,x93,x94,x95,rfl,h.sameC 10 _ HV rfl⟩
  · obtain rfl:=h.con 10 (hw _ rfl ⟨10,.data⟩ (by simp) rfl) HV rfl rfl
    refine wpOp_step rfl fun K hK=>?_
    go_simp
    exact hK _ _ ⟨x51,x52,x53,x54,x55,x56,x57,x58,x59,x60,_,_,x63,x64,x65,x66,x67,x68,x69,x70,x71,x72,x73,x74,x75,x76,x77,x78,x79,x80,x81,x82,x83,x84,x85,x86,x87,x88,x89,x90,x91,x92,x93,x94,x95,rfl,h.sameC 11 _ HV rfl⟩
  · obtain rfl:=h.con 11 (hw _ rfl ⟨11,.guard⟩ (by simp) rfl) HV rfl rfl
    refine wpOp_step rfl fun K hK=>?_
    go_simp
    exact hK _ _ ⟨x51,x52,x53,x54,x55,x56,x57,x58,x59,x60,x61,_,_,x64,x65,x66,x67,x68,x69,x70,x71,x72,x73,x74,x75,x76,x77,x78,x79,x80,x81,x82,x83,x84,x85,x86,x87,x88,x89,x90,x91,x92,x93,x94,x95,rfl,h.sameC 12 _ HV rfl⟩
  · obtain rfl:=h.con 11 (hw _ rfl ⟨11,.data⟩ (by simp) rfl) HV rfl rfl
    obtain rfl:=h.con 12 (hw _ rfl ⟨12,.data⟩ (by simp) rfl) HV rfl rfl
    refine wpOp_step rfl fun K hK=>?_
    go_simp
    exact hK _ _ ⟨x51,x52,x53,x54,x55,x56,x57,x58,x59,x60,x61,_,_,_,x65,x66,x67,x68,x69,x70,x71,x72,x73,x74,x75,x76,x77,x78,x79,x80,x81,x82,x83,x84,x85,x86,x87,x88,x89,x90,x91,x92,x93,x94,x95,rfl,h.sameC 13 _ HV rfl⟩
  · obtain rfl:=h.con 13 (hw _ rfl ⟨13,.data⟩ (by simp) rfl) HV rfl rfl
    refine wpOp_step rfl fun K hK=>?_
    go_simp
    exact hK _ _ ⟨x51,x52,x53,x54,x55,x56,x57,x58,x59,x60,x61,x62,x63,_,_,x66,x67,x68,x69,x70,x71,x72,x73,x74,x75,x76,x77,x78,x79,x80,x81,x82,x83,x84,x85,x86,x87,x88,x89,x90,x91,x92,x93,x94,x95,rfl,h.sameC 14 _ HV rfl⟩
  · obtain rfl:=h.con 14 (hw _ rfl ⟨14,.guard⟩ (by simp) rfl) HV rfl rfl
    refine wpOp_step rfl fun K hK=>?_
    go_simp
    exact hK _ _ ⟨x51,x52,x53,x54,x55,x56,x57,x58,x59,x60,x61,x62,x63,x64,_,_,x67,x68,x69,x70,x71,x72,x73,x74,x75,x76,x77,x78,x79,x80,x81,x82,x83,x84,x85,x86,x87,x88,x89,x90,x91,x92,x93,x94,x95,rfl,h.sameC 15 _ HV rfl⟩
  · obtain rfl:=h.con 14 (hw _ rfl ⟨14,.guard⟩ (by simp) rfl) HV rfl rfl
    obtain rfl:=h.con 15 (hw _ rfl ⟨15,.data⟩ (by simp) rfl) HV rfl rfl
    obtain ⟨⟨q0,q1,q2,q3⟩,r0,r1,r2,r3,r4,r5,r6,r7,r8⟩:=HC.out w' h.1
    refine wpOp_step rfl fun K hK=>?_
    go_simp
    exact hK _ _ ⟨x51,x52,x53,x54,x55,x56,x57,x58,x59,x60,x61,x62,x63,x64,_,_,_,x68,x69,x70,x71,x72,x73,x74,x75,x76,x77,x78,x79,x80,x81,x82,x83,x84,x85,x86,x87,x88,x89,x90,x91,x92,x93,x94,x95,rfl,h.sameC 16 _ HV rfl⟩
  · obtain rfl:=h.con 14 (hw _ rfl ⟨14,.guard⟩ (by simp) rfl) HV rfl rfl
    obtain rfl:=h.con 16 (hw _ rfl ⟨16,.data⟩ (by simp) rfl) HV rfl rfl
    refine wpOp_step rfl fun K hK=>?_
    go_simp
    exact hK _ _ ⟨x51,x52,x53,x54,x55,x56,x57,x58,x59,x60,x61,x62,x63,x64,_,x66,_,_,x69,x70,x71,x72,x73,x74,x75,x76,x77,x78,x79,x80,x81,x82,x83,x84,x85,x86,x87,x88,x89,x90,x91,x92,x93,x94,x95,rfl,h.sameC 17 _ HV rfl⟩
  · obtain rfl:=h.con 14 (hw _ rfl ⟨14,.data⟩ (by simp) rfl) HV rfl rfl
    obtain rfl:=h.con 17 (hw _ rfl ⟨17,.data⟩ (by simp) rfl) HV rfl rfl
    refine wpOp_step rfl fun K hK=>?_
    go_simp
    exact hK _ _ ⟨x51,x52,x53,x54,x55,x56,x57,x58,x59,x60,x61,x62,x63,x64,_,x66,x67,_,_,x70,x71,x72,x73,x74,x75,x76,x77,x78,x79,x80,x81,x82,x83,x84,x85,x86,x87,x88,x89,x90,x91,x92,x93,x94,x95,rfl,h.sameC 18 _ HV rfl⟩
  · obtain rfl:=h.con 18 (hw _ rfl ⟨18,.data⟩ (by simp) rfl) HV rfl rfl
    refine wpOp_step rfl fun K hK=>?_
    go_simp
    exact hK _ _ ⟨x51,x52,x53,x54,x55,x56,x57,x58,x59,x60,x61,x62,x63,x64,x65,x66,x67,x68,_,_,x71,x72,x73,x74,x75,x76,x77,x78,x79,x80,x81,x82,x83,x84,x85,x86,x87,x88,x89,x90,x91,x92,x93,x94,x95,rfl,h.sameC 19 _ HV rfl⟩
  · obtain rfl:=h.con 19 (hw _ rfl ⟨19,.guard⟩ (by simp) rfl) HV rfl rfl
    refine wpOp_step rfl fun K hK=>?_
    go_simp
    exact hK _ _ ⟨x51,x52,x53,x54,x55,x56,x57,x58,x59,x60,x61,x62,x63,x64,x65,x66,x67,x68,x69,_,_,x72,x73,x74,x75,x76,x77,x78,x79,x80,x81,x82,x83,x84,x85,x86,x87,x88,x89,x90,x91,x92,x93,x94,x95,rfl,h.sameC 20 _ HV rfl⟩
  · obtain rfl:=h.con 19 (hw _ rfl ⟨19,.guard⟩ (by simp) rfl) HV rfl rfl
    obtain rfl:=h.con 20 (hw _ rfl ⟨20,.data⟩ (by simp) rfl) HV rfl rfl
    refine wpOp_step rfl fun K hK=>?_
    go_simp
    exact hK _ _ ⟨x51,x52,x53,x54,x55,x56,x57,x58,x59,x60,x61,x62,x63,x64,x65,x66,x67,x68,x69,_,_,_,x73,x74,x75,x76,x77,x78,x79,x80,x81,x82,x83,x84,x85,x86,x87,x88,x89,x90,x91,x92,x93,x94,x95,rfl,h.sameC 21 _ HV rfl⟩
  · obtain rfl:=h.con 19 (hw _ rfl ⟨19,.data⟩ (by simp) rfl) HV rfl rfl
    obtain rfl:=h.con 21 (hw _ rfl ⟨21,.data⟩ (by simp) rfl) HV rfl rfl
    refine wpOp_step rfl fun K hK=>?_
    go_simp
    exact hK _ _ ⟨x51,x52,x53,x54,x55,x56,x57,x58,x59,x60,x61,x62,x63,x64,x65,x66,x67,x68,x69,_,x71,_,_,x74,x75,x76,x77,x78,x79,x80,x81,x82,x83,x84,x85,x86,x87,x88,x89,x90,x91,x92,x93,x94,x95,rfl,h.sameC 22 _ HV rfl⟩
  · obtain rfl:=h.con 22 (hw _ rfl ⟨22,.data⟩ (by simp) rfl) HV rfl rfl
    refine wpOp_step rfl fun K hK=>?_
    go_simp
    exact hK _ _ ⟨x51,x52,x53,x54,x55,x56,x57,x58,x59,x60,x61,x62,x63,x64,x65,x66,x67,x68,x69,x70,x71,x72,_,_,x75,x76,x77,x78,x79,x80,x81,x82,x83,x84,x85,x86,x87,x88,x89,x90,x91,x92,x93,x94,x95,rfl,h.sameC 23 _ HV rfl⟩
  · obtain rfl:=h.con 23 (hw _ rfl ⟨23,.guard⟩ (by simp) rfl) HV rfl rfl
    refine wpOp_step rfl fun K hK=>?_
    go_simp
    exact hK _ _ ⟨x51,x52,x53,x54,x55,x56,x57,x58,x59,x60,x61,x62,x63,x64,x65,x66,x67,x68,x69,x70,x71,x72,x73,_,_,x76,x77,x78,x79,x80,x81,x82,x83,x84,x85,x86,x87,x88,x89,x90,x91,x92,x93,x94,x95,rfl,h.sameC 24 _ HV rfl⟩
  · obtain rfl:=h.con 23 (hw _ rfl ⟨23,.guard⟩ (by simp) rfl) HV rfl rfl
    obtain rfl:=h.con 24 (hw _ rfl ⟨24,.data⟩ (by simp) rfl) HV rfl rfl
    refine wpOp_step rfl fun K hK=>?_
    go_simp
    exact hK _ _ ⟨x51,x52,x53,x54,x55,x56,x57,x58,x59,x60,x61,x62,x63,x64,x65,x66,x67,x68,x69,x70,x71,x72,x73,_,_,_,x77,x78,x79,x80,x81,x82,x83,x84,x85,x86,x87,x88,x89,x90,x91,x92,x93,x94,x95,rfl,h.sameC 25 _ HV rfl⟩
  · obtain rfl:=h.con 23 (hw _ rfl ⟨23,.data⟩ (by simp) rfl) HV rfl rfl
    obtain rfl:=h.con 25 (hw _ rfl ⟨25,.data⟩ (by simp) rfl) HV rfl rfl
    refine wpOp_step rfl fun K hK=>?_
    go_simp
    exact hK _ _ ⟨x51,x52,x53,x54,x55,x56,x57,x58,x59,x60,x61,x62,x63,x64,x65,x66,x67,x68,x69,x70,x71,x72,x73,_,x75,_,_,x78,x79,x80,x81,x82,x83,x84,x85,x86,x87,x88,x89,x90,x91,x92,x93,x94,x95,rfl,h.sameC 26 _ HV rfl⟩
  · obtain rfl:=h.con 26 (hw _ rfl ⟨26,.data⟩ (by simp) rfl) HV rfl rfl
    refine wpOp_step rfl fun K hK=>?_
    go_simp
    exact hK _ _ ⟨x51,x52,x53,x54,x55,x56,x57,x58,x59,x60,x61,x62,x63,x64,x65,x66,x67,x68,x69,x70,x71,x72,x73,x74,x75,x76,_,_,x79,x80,x81,x82,x83,x84,x85,x86,x87,x88,x89,x90,x91,x92,x93,x94,x95,rfl,h.sameC 27 _ HV rfl⟩
  · obtain rfl:=h.con 27 (hw _ rfl ⟨27,.guard⟩ (by simp) rfl) HV rfl rfl
    refine wpOp_step rfl fun K hK=>?_
    go_simp
    exact hK _ _ ⟨x51,x52,x53,x54,x55,x56,x57,x58,x59,x60,x61,x62,x63,x64,x65,x66,x67,x68,x69,x70,x71,x72,x73,x74,x75,x76,x77,_,_,x80,x81,x82,x83,x84,x85,x86,x87,x88,x89,x90,x91,x92,x93,x94,x95,rfl,h.sameC 28 _ HV rfl⟩
  · obtain rfl:=h.con 27 (hw _ rfl ⟨27,.data⟩ (by simp) rfl) HV rfl rfl
    obtain rfl:=h.con 28 (hw _ rfl ⟨28,.data⟩ (by simp) rfl) HV rfl rfl
    refine wpOp_step rfl fun K hK=>?_
    go_simp
    exact hK _ _ ⟨x51,x52,x53,x54,x55,x56,x57,x58,x59,x60,x61,x62,x63,x64,x65,x66,x67,x68,x69,x70,x71,x72,x73,x74,x75,x76,x77,_,_,_,x81,x82,x83,x84,x85,x86,x87,x88,x89,x90,x91,x92,x93,x94,x95,rfl,h.sameC 29 _ HV rfl⟩
  · obtain rfl:=h.con 29 (hw _ rfl ⟨29,.data⟩ (by simp) rfl) HV rfl rfl
    refine wpOp_step rfl fun K hK=>?_
    go_simp
    exact hK _ _ ⟨x51,x52,x53,x54,x55,x56,x57,x58,x59,x60,x61,x62,x63,x64,x65,x66,x67,x68,x69,x70,x71,x72,x73,x74,x75,x76,x77,x78,x79,_,_,x82,x83,x84,x85,x86,x87,x88,x89,x90,x91,x92,x93,x94,x95,rfl,h.sameC 30 _ HV rfl⟩
  · obtain rfl:=h.con 30 (hw _ rfl ⟨30,.guard⟩ (by simp) rfl) HV rfl rfl
    refine wpOp_step rfl fun K hK=>?_
    go_simp
    exact hK _ _ ⟨x51,x52,x53,x54,x55,x56,x57,x58,x59,x60,x61,x62,x63,x64,x65,x66,x67,x68,x69,x70,x71,x72,x73,x74,x75,x76,x77,x78,x79,x80,_,_,x83,x84,x85,x86,x87,x88,x89,x90,x91,x92,x93,x94,x95,rfl,h.sameC 31 _ HV rfl⟩
  · obtain rfl:=h.con 30 (hw _ rfl ⟨30,.guard⟩ (by simp) rfl) HV rfl rfl
    obtain rfl:=h.con 31 (hw _ rfl ⟨31,.data⟩ (by simp) rfl) HV rfl rfl
    refine wpOp_step rfl fun K hK=>?_
    go_simp
    exact hK _ _ ⟨x51,x52,x53,x54,x55,x56,x57,x58,x59,x60,x61,x62,x63,x64,x65,x66,x67,x68,x69,x70,x71,x72,x73,x74,x75,x76,x77,x78,x79,x80,_,_,_,x84,x85,x86,x87,x88,x89,x90,x91,x92,x93,x94,x95,rfl,h.sameC 32 _ HV rfl⟩
  · obtain rfl:=h.con 30 (hw _ rfl ⟨30,.data⟩ (by simp) rfl) HV rfl rfl
    obtain rfl:=h.con 32 (hw _ rfl ⟨32,.data⟩ (by simp) rfl) HV rfl rfl
    refine wpOp_step rfl fun K hK=>?_
    go_simp
    exact hK _ _ ⟨x51,x52,x53,x54,x55,x56,x57,x58,x59,x60,x61,x62,x63,x64,x65,x66,x67,x68,x69,x70,x71,x72,x73,x74,x75,x76,x77,x78,x79,x80,_,x82,_,_,x85,x86,x87,x88,x89,x90,x91,x92,x93,x94,x95,rfl,h.sameC 33 _ HV rfl⟩
  · obtain rfl:=h.con 33 (hw _ rfl ⟨33,.data⟩ (by simp) rfl) HV rfl rfl
    refine wpOp_step rfl fun K hK=>?_
    go_simp
    exact hK _ _ ⟨x51,x52,x53,x54,x55,x56,x57,x58,x59,x60,x61,x62,x63,x64,x65,x66,x67,x68,x69,x70,x71,x72,x73,x74,x75,x76,x77,x78,x79,x80,x81,x82,x83,_,_,x86,x87,x88,x89,x90,x91,x92,x93,x94,x95,rfl,h.sameC 34 _ HV rfl⟩
  · obtain rfl:=h.con 34 (hw _ rfl ⟨34,.guard⟩ (by simp) rfl) HV rfl rfl
    obtain ⟨⟨q0,q1,q2,q3⟩,r0,r1,r2,r3,r4,r5,r6,r7,r8⟩:=HC.out w' h.1
    refine wpOp_step rfl fun K hK=>?_
    go_simp
    exact hK _ _ ⟨x51,x52,x53,x54,x55,x56,x57,x58,x59,x60,x61,x62,x63,x64,x65,x66,x67,x68,x69,x70,x71,x72,x73,x74,x75,x76,x77,x78,x79,x80,x81,x82,x83,x84,_,_,x87,x88,x89,x90,x91,x92,x93,x94,x95,rfl,h.sameC 35 _ HV rfl⟩
  · obtain rfl:=h.con 34 (hw _ rfl ⟨34,.chain⟩ (by simp) rfl) HV rfl rfl
    obtain ⟨⟨q0,q1,q2,q3⟩,r0,r1,r2,r3,r4,r5,r6,r7,r8⟩:=HC.out w' h.1
    refine wpOp_step rfl fun K hK=>?_
    go_simp
    refine (sv 98 w').mono ?_
    rintro e w2 ⟨y,rfl,hy,hb2⟩
    exact hK _ _ ⟨x51,x52,x53,x54,x55,x56,x57,x58,x59,x60,x61,x62,x63,x64,x65,x66,x67,x68,x69,x70,x71,x72,x73,x74,x75,x76,x77,x78,x79,x80,x81,x82,x83,x84,_,x86,_,x88,x89,x90,x91,x92,x93,x94,x95,rfl,h.did hb2 36 _ (MP.who 98 0) (by rw [HV.out];rfl) hy⟩
  · obtain rfl:=h.con 34 (hw _ rfl ⟨34,.guard⟩ (by simp) rfl) HV rfl rfl
    obtain rfl:=h.con 35 (hw _ rfl ⟨35,.data⟩ (by simp) rfl) HV rfl rfl
    have hs87:=h.get 36 (hw _ rfl ⟨36,.data⟩ (by simp) rfl) (MP.who 98 0) (by rw [HV.out];rfl) _ rfl
    obtain ⟨ga2,rfl,hj3⟩:=hs87
    obtain ⟨⟨q0,q1,q2,q3⟩,r0,r1,r2,r3,r4,r5,r6,r7,r8⟩:=HC.out w' h.1
    refine wpOp_step rfl fun K hK=>?_
    go_simp
    refine (HSA.out w' ga2 h.1 hj3).mono ?_
    rintro e w2 ⟨rfl,hb2⟩
    exact hK _ _ ⟨x51,x52,x53,x54,x55,x56,x57,x58,x59,x60,x61,x62,x63,x64,x65,x66,x67,x68,x69,x70,x71,x72,x73,x74,x75,x76,x77,x78,x79,x80,x81,x82,x83,x84,_,_,_,_,x89,x90,x91,x92,x93,x94,x95,rfl,h.didC hb2 37 _ HV rfl⟩
  · obtain rfl:=h.con 34 (hw _ rfl ⟨34,.data⟩ (by simp) rfl) HV rfl rfl
    obtain rfl:=h.con 37 (hw _ rfl ⟨37,.data⟩ (by simp) rfl) HV rfl rfl
    refine wpOp_step rfl fun K hK=>?_
    go_simp
    exact hK _ _ ⟨x51,x52,x53,x54,x55,x56,x57,x58,x59,x60,x61,x62,x63,x64,x65,x66,x67,x68,x69,x70,x71,x72,x73,x74,x75,x76,x77,x78,x79,x80,x81,x82,x83,x84,_,x86,x87,_,_,x90,x91,x92,x93,x94,x95,rfl,h.sameC 38 _ HV rfl⟩
  · obtain rfl:=h.con 38 (hw _ rfl ⟨38,.data⟩ (by simp) rfl) HV rfl rfl
    refine wpOp_step rfl fun K hK=>?_
    go_simp
    exact hK _ _ ⟨x51,x52,x53,x54,x55,x56,x57,x58,x59,x60,x61,x62,x63,x64,x65,x66,x67,x68,x69,x70,x71,x72,x73,x74,x75,x76,x77,x78,x79,x80,x81,x82,x83,x84,x85,x86,x87,x88,_,_,x91,x92,x93,x94,x95,rfl,h.sameC 39 _ HV rfl⟩
  · obtain rfl:=h.con 39 (hw _ rfl ⟨39,.guard⟩ (by simp) rfl) HV rfl rfl
    refine wpOp_step rfl fun K hK=>?_
    go_simp
    exact hK _ _ ⟨x51,x52,x53,x54,x55,x56,x57,x58,x59,x60,x61,x62,x63,x64,x65,x66,x67,x68,x69,x70,x71,x72,x73,x74,x75,x76,x77,x78,x79,x80,x81,x82,x83,x84,x85,x86,x87,x88,x89,_,_,x92,x93,x94,x95,rfl,h.sameC 40 _ HV rfl⟩
  · obtain rfl:=h.con 39 (hw _ rfl ⟨39,.guard⟩ (by simp) rfl) HV rfl rfl
    obtain rfl:=h.con 40 (hw _ rfl ⟨40,.data⟩ (by simp) rfl) HV rfl rfl
    obtain ⟨⟨q0,q1,q2,q3⟩,r0,r1,r2,r3,r4,r5,r6,r7,r8⟩:=HC.out w' h.1
    refine wpOp_step rfl fun K hK=>?_
    go_simp
    exact hK _ _ ⟨x51,x52,x53,x54,x55,x56,x57,x58,x59,x60,x61,x62,x63,x64,x65,x66,x67,x68,x69,x70,x71,x72,x73,x74,x75,x76,x77,x78,x79,x80,x81,x82,x83,x84,x85,x86,x87,x88,x89,_,_,_,x93,x94,x95,rfl,h.sameC 41 _ HV rfl⟩
  · obtain rfl:=h.con 39 (hw _ rfl ⟨39,.guard⟩ (by simp) rfl) HV rfl rfl
    obtain rfl:=h.con 41 (hw _ rfl ⟨41,.data⟩ (by simp) rfl) HV rfl rfl
    refine wpOp_step rfl fun K hK=>?_
    go_simp
    exact hK _ _ ⟨x51,x52,x53,x54,x55,x56,x57,x58,x59,x60,x61,x62,x63,x64,x65,x66,x67,x68,x69,x70,x71,x72,x73,x74,x75,x76,x77,x78,x79,x80,x81,x82,x83,x84,x85,x86,x87,x88,x89,_,x91,_,_,x94,x95,rfl,h.sameC 42 _ HV rfl⟩
  · obtain rfl:=h.con 39 (hw _ rfl ⟨39,.guard⟩ (by simp) rfl) HV rfl rfl
    obtain rfl:=h.con 42 (hw _ rfl ⟨42,.data⟩ (by simp) rfl) HV rfl rfl
    refine wpOp_step rfl fun K hK=>?_
    go_simp
    exact hK _ _ ⟨x51,x52,x53,x54,x55,x56,x57,x58,x59,x60,x61,x62,x63,x64,x65,x66,x67,x68,x69,x70,x71,x72,x73,x74,x75,x76,x77,x78,x79,x80,x81,x82,x83,x84,x85,x86,x87,x88,x89,_,x91,x92,_,_,x95,rfl,h.sameC 43 _ HV rfl⟩
  · obtain rfl:=h.con 39 (hw _ rfl ⟨39,.data⟩ (by simp) rfl) HV rfl rfl
    obtain rfl:=h.con 43 (hw _ rfl ⟨43,.data⟩ (by simp) rfl) HV rfl rfl
    refine wpOp_step rfl fun K hK=>?_
    go_simp
    exact hK _ _ ⟨x51,x52,x53,x54,x55,x56,x57,x58,x59,x60,x61,x62,x63,x64,x65,x66,x67,x68,x69,x70,x71,x72,x73,x74,x75,x76,x77,x78,x79,x80,x81,x82,x83,x84,x85,x86,x87,x88,x89,_,x91,x92,x93,_,_,rfl,h.sameC 44 _ HV rfl⟩
  · omega
 case last =>
  rintro d a' w' hall ⟨x51,x52,x53,x54,x55,x56,x57,x58,x59,x60,x61,x62,x63,x64,x65,x66,x67,x68,x69,x70,x71,x72,x73,x74,x75,x76,x77,x78,x79,x80,x81,x82,x83,x84,x85,x86,x87,x88,x89,x90,x91,x92,x93,x94,x95,rfl,h⟩
  have hle:=h.1
  obtain rfl:=h.con 44 (hall _ (by omega)) HV rfl rfl
  have HLE:=Lh hle
  clear h hall hle HV
  have hb:=HLE.out
  have HBF:=Lh (HB.out.trans (hb.mono HB.out.size))
  clear hb
  go_wp2
  go_ret
  exact ⟨rfl,HBF.out⟩
end Go.Proofs.YtnlgmcapbbgelaaGreatDoor
