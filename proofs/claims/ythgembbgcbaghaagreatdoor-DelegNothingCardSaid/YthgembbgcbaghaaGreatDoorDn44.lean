/- The law DelegNothing: the call returns true. Printed by gendelegnoth.py. -/
import Derived.Test.YthgembbgcbaghaaGreatDoorDn40
import Derived.Test.YthgembbgcbaghaaGreatDoorDn26
import Derived.Test.YthgembbgcbaghaaGreatDoorDn42
import Derived.Test.YthgembbgcbaghaaGreatDoorDn43

namespace Go.Proofs.YthgembbgcbaghaaGreatDoor
open Go.RowKit Go.Shelf Go.Sort
theorem cQ {r:DelegsV} (h:qP r=true):jt r=(qy r,0):=by unfold jt;rw [if_pos h]
theorem gh {d:DelegsV} (h:d.bins.bits≠0):qS d.bins=false:=by
 unfold qS
 exact decide_eq_false fun e=>h e.1
theorem dL {n:ByteArray} {l:List UInt8} {m:ByteArray} (h:m.toList=l) (e:(n.toList == l)=false):n≠m:=fun e'=>by
 rw [e',h] at e
 simp at e
theorem dR:qt.toList=[107,101,121,115]:=by rw [ByteArray.toList_eq];rfl
theorem nV:zX.toList=[114,111,108,101,115]:=by rw [ByteArray.toList_eq];rfl
theorem nW:zl.toList=[115,117,99,99,105,110,99,116,95,114,111,108,101,115]:=by rw [ByteArray.toList_eq];rfl
theorem qE {w n:World} {b:Nat} {o:Obj} (h:n=w.alloc o) (hb:b=w.heap.size):n.heap[b]?=some o:=by rw [h,hb];exact heap_alloc_new w _
theorem xU {w:World} {b T:Nat} {a0 a1 a2 a3 a4:Value} (h:w.heap[b]?=some (.cells #[a0,a1,a2,a3,a4] T (0,0))):w.cell? ⟨b,0,none⟩=some a0∧w.cell? ⟨b,1,none⟩=some a1∧w.cell? ⟨b,2,none⟩=some a2∧w.cell? ⟨b,3,none⟩=some a3∧w.cell? ⟨b,4,none⟩=some a4:=⟨qq h rfl,qq h rfl,qq h rfl,qq h rfl,qq h rfl⟩
theorem fS {w:World} {b T:Nat} {a0 a1 a2 a3 a4 a5:Value} (h:w.heap[b]?=some (.cells #[a0,a1,a2,a3,a4,a5] T (0,0))):w.cell? ⟨b,0,none⟩=some a0∧w.cell? ⟨b,1,none⟩=some a1∧w.cell? ⟨b,2,none⟩=some a2∧w.cell? ⟨b,3,none⟩=some a3∧w.cell? ⟨b,4,none⟩=some a4∧w.cell? ⟨b,5,none⟩=some a5:=⟨qq h rfl,qq h rfl,qq h rfl,qq h rfl,qq h rfl,qq h rfl⟩
set_option maxHeartbeats 8000000 in
set_option maxRecDepth 100000 in
theorem g8 (l:List Key2) (rs:List DelegV) (t bits:Int) (ids:List ByteArray) (pre:ByteArray) (ka ra ba:Option Addr) (kc rc bc:Nat) (n:ByteArray) (u:JV) (uan uai:Option Addr) (ucn uci:Nat) (w:World) (G:DelegsGot w ⟨l,rs,⟨bits,pre,⟨t,ids⟩⟩⟩ ka ra ba kc rc bc)
 (hU:Rep w 0 w.heap.size u (.agg #[.int .u8 u.kind,.int .i64 u.n,.string u.t,.slice uan u.names.length ucn,.slice uai u.items.length uci])) (hT:Tabs w) :
 Calls Tryz.prog 12 #[.agg #[.slice ka l.length kc,.slice ra rs.length rc,.int .i64 t,.slice ba ids.length bc,.int .i64 bits,.string pre],.string n,.agg #[.int .u8 u.kind,.int .i64 u.n,.string u.t,.slice uan u.names.length ucn,.slice uai u.items.length uci]] w fun e w'=>e=.returned (.bool true)∧Below w.heap.size w w':=by
 have HTB:=Lh (show ∀w':World,Below w.heap.size w w'→Tabs w' from fun w' h=>hT.below h)
 have HB:=Lh (Below.refl w.heap.size w)
 have HZ0:=Lh (show 0<w.heap.size from Nat.lt_of_le_of_lt (Nat.zero_le _) hT.l1)
 have HI:=Lh G.rows
 have HU:=Lh hU
 have HRC:=Lh (show rs.length≤rc from G.cr)
 have HFT:=Lh (show NotLongD ⟨l,rs,⟨bits,pre,⟨t,ids⟩⟩⟩→DelegsFits ⟨l,rs,⟨bits,pre,⟨t,ids⟩⟩⟩ from fun h=>gE h G.bits G.thr (fun x hx=>(G.each x hx).1))
 have HGL:=Lh (show l.length≤9223372036854775807∧rs.length≤9223372036854775807∧(∀x ∈ rs,Lens x)∧ids.length≤9223372036854775807 from ⟨G.lk,G.lr,(fun x hx=>⟨(G.each x hx).2.2.1,(G.each x hx).2.2.2.1,(G.each x hx).2.2.2.2⟩),G.lb⟩)
 clear hT G hU
 go_enter Tryz.func12,Tryz.ntmps12
 obtain ⟨bR,hbR⟩:∃bR,bR=w.heap.size:=⟨_,rfl⟩
 obtain ⟨w1,hw1⟩:∃w1,w1=w.alloc (.cells #[.slice ka l.length kc,.slice ra rs.length rc,.int .i64 t,.slice ba ids.length bc,.int .i64 bits,.string pre] 35):=⟨_,rfl⟩
 have hbx:Below w.heap.size w w1:=by rw [hw1];exact (Below.refl _ _).alloc lz _
 have HXR:=Lh (qE hw1 hbR)
 replace HB:=Lh (HB.out.trans (hbx.mono HB.out.size))
 replace HI:=Lh (HI.out.below hbx lz lz hbx.size)
 replace HU:=Lh (HU.out.below hbx lz lz hbx.size)
 have Hw1:=Lh (And.intro hw1 hbR)
 clear hbx hw1 hbR
 obtain ⟨bX,hbX⟩:∃bX,bX=w1.heap.size:=⟨_,rfl⟩
 obtain ⟨w2,hw2⟩:∃w2,w2=w1.alloc (.cells #[.int .u8 u.kind,.int .i64 u.n,.string u.t,.slice uan u.names.length ucn,.slice uai u.items.length uci] 25):=⟨_,rfl⟩
 have hbx:Below w1.heap.size w1 w2:=by rw [hw2];exact (Below.refl _ _).alloc lz _
 have HXX:=Lh (qE hw2 hbX)
 replace HB:=Lh (HB.out.trans (hbx.mono HB.out.size))
 replace HXR:=Lh ((hbx.block _ (qz HXR.out)).trans HXR.out)
 replace HI:=Lh (HI.out.below hbx lz lz hbx.size)
 replace HU:=Lh (HU.out.below hbx lz lz hbx.size)
 have Hw2:=Lh (And.intro hw2 hbX)
 clear hbx hw2 hbX
 go_upto_region 1 with fail
 rw [← Hw1.out.1,← Hw2.out.1,← Hw1.out.2,show bR+1=bX by rw [Hw2.out.2,Hw1.out.1,Hw1.out.2];simp]
 clear Hw1 Hw2
 obtain ⟨xR0,xR1,xR2,xR3,xR4,xR5⟩:=fS HXR.out
 go_wp2_with fail
 refine (rW l rs t bits ids pre ka ra ba kc rc bc w2 HI.out HGL.out.1 HGL.out.2.1 HGL.out.2.2.1 HGL.out.2.2.2).mono ?_
 clear xR0 xR1 xR2 xR3 xR4 xR5
 rintro ee w3 ⟨b,rfl,hn,hb⟩
 replace HB:=Lh (HB.out.trans (hb.mono HB.out.size))
 replace HXR:=Lh ((hb.block _ (qz HXR.out)).trans HXR.out)
 replace HXX:=Lh ((hb.block _ (qz HXX.out)).trans HXX.out)
 replace HI:=Lh (HI.out.below hb lz lz hb.size)
 replace HU:=Lh (HU.out.below hb lz lz hb.size)
 have HN:=Lh hn
 clear hn hb
 cases b
 case true =>
  go_wp2_with fail
  refine (yX w3 (HTB.out w3 HB.out)).mono ?_
  rintro ee wz ⟨rfl,hz⟩
  have HBZ:=Lh (HB.out.trans (hz.mono HB.out.size))
  clear hz
  go_wp2
  go_ret
  exact ⟨rfl,HBZ.out⟩
 case false =>
  have HF:=Lh (HFT.out (HN.out rfl))
  clear HN HFT HGL
  obtain ⟨xX0,xX1,xX2,xX3,xX4⟩:=xU HXX.out
  go_wp2_with fail
  clear xX0 xX1 xX2 xX3 xX4
  obtain ⟨bL,hbL⟩:∃bL,bL=w3.heap.size:=⟨_,rfl⟩
  obtain ⟨w4,hw4⟩:∃w4,w4=w3.alloc (.cells #[.int .u8 u.kind,.int .i64 u.n,.string u.t,.slice uan u.names.length ucn,.slice uai u.items.length uci] 25):=⟨_,rfl⟩
  have hbx:Below w3.heap.size w3 w4:=by rw [hw4];exact (Below.refl _ _).alloc lz _
  have HXL:=Lh (qE hw4 hbL)
  replace HB:=Lh (HB.out.trans (hbx.mono HB.out.size))
  replace HXR:=Lh ((hbx.block _ (qz HXR.out)).trans HXR.out)
  replace HXX:=Lh ((hbx.block _ (qz HXX.out)).trans HXX.out)
  replace HI:=Lh (HI.out.below hbx lz lz hbx.size)
  replace HU:=Lh (HU.out.below hbx lz lz hbx.size)
  have Hw4:=Lh (And.intro hw4 hbL)
  clear hbx hw4 hbL
  rw [← Hw4.out.1,← Hw4.out.2]
  clear Hw4
  refine (im [u] (some ⟨bL,0,none⟩) 1 w4 (nI HXL.out (qz HXL.out) HU.out)).mono ?_
  rintro r wq ⟨b,rfl,hn,hq⟩
  subst hq
  have HN:=Lh hn
  clear hn HXL
  cases b
  case true =>
   go_wp2_with fail
   refine (yX w4 (HTB.out w4 HB.out)).mono ?_
   rintro ee wz ⟨rfl,hz⟩
   have HBZ:=Lh (HB.out.trans (hz.mono HB.out.size))
   clear hz
   go_wp2
   go_ret
   exact ⟨rfl,HBZ.out⟩
  case false =>
   have HWU:=Lh (show u.wt≤20000 by have:=HN.out rfl;simp [JV.wts] at this;omega)
   clear HN
   by_cases hns:300<n.size
   case pos =>
    have a1:decide ((300:Int)<n.size)=true:=decide_eq_true (by omega)
    go_wp2_with fail
    refine (yX w4 (HTB.out w4 HB.out)).mono ?_
    rintro ee wz ⟨rfl,hz⟩
    have HBZ:=Lh (HB.out.trans (hz.mono HB.out.size))
    clear hz
    go_wp2
    go_ret
    exact ⟨rfl,HBZ.out⟩
   case neg =>
    have a1:decide ((300:Int)<n.size)=false:=decide_eq_false (by omega)
    have HNS:=Lh (Nat.le_of_not_lt hns)
    clear hns
    obtain ⟨mb,hmb⟩:∃mb,mb=qP ⟨l,rs,⟨bits,pre,⟨t,ids⟩⟩⟩:=⟨_,rfl⟩
    have HMC:=Lh (pY l rs t bits ids pre ka ra ba kc rc bc w4 HI.out HF.out HRC.out (HTB.out w4 HB.out))
    rw [← hmb] at HMC
    have HMB:=Lh hmb
    clear hmb
    obtain ⟨xR0,xR1,xR2,xR3,xR4,xR5⟩:=fS HXR.out
    go_wp2_with fail
    refine (HMC.out).mono ?_
    clear xR0 xR1 xR2 xR3 xR4 xR5
    rintro ee w5 ⟨rfl,hb⟩
    replace HB:=Lh (HB.out.trans (hb.mono HB.out.size))
    replace HXR:=Lh ((hb.block _ (qz HXR.out)).trans HXR.out)
    replace HXX:=Lh ((hb.block _ (qz HXX.out)).trans HXX.out)
    replace HI:=Lh (HI.out.below hb lz lz hb.size)
    replace HU:=Lh (HU.out.below hb lz lz hb.size)
    clear hb HMC
    cases mb
    case false =>
     go_wp2_with fail
     refine (yX w5 (HTB.out w5 HB.out)).mono ?_
     rintro ee wz ⟨rfl,hz⟩
     have HBZ:=Lh (HB.out.trans (hz.mono HB.out.size))
     clear hz
     go_wp2
     go_ret
     exact ⟨rfl,HBZ.out⟩
    case true =>
     go_wp2_with fail
     refine (yX w5 (HTB.out w5 HB.out)).mono ?_
     rintro ee w6 ⟨rfl,hb⟩
     replace HB:=Lh (HB.out.trans (hb.mono HB.out.size))
     replace HXR:=Lh ((hb.block _ (qz HXR.out)).trans HXR.out)
     replace HXX:=Lh ((hb.block _ (qz HXX.out)).trans HXX.out)
     replace HI:=Lh (HI.out.below hb lz lz hb.size)
     replace HU:=Lh (HU.out.below hb lz lz hb.size)
     clear hb a1
     go_upto_region 3 with fail
     have HR0:=Lh (cQ HMB.out.symm)
     obtain ⟨xR0,xR1,xR2,xR3,xR4,xR5⟩:=fS HXR.out
     go_wp2_with fail
     refine (pG l rs t bits ids pre ka ra ba kc rc bc w6 HI.out HF.out HRC.out (HTB.out w6 HB.out)).mono ?_
     clear xR0 xR1 xR2 xR3 xR4 xR5
     rintro ee w7 ⟨an,cn,ai,ci,h4,hr,hb⟩
     rw [HR0.out] at h4 hr
     dsimp only at h4 hr
     obtain ⟨J,hJ⟩:∃J,J=qy ⟨l,rs,⟨bits,pre,⟨t,ids⟩⟩⟩:=⟨_,rfl⟩
     rw [← hJ] at h4 hr
     have HJE:=Lh hJ
     clear hJ HR0
     subst h4
     have HLO:=Lh (show 0<w6.heap.size from Nat.lt_of_lt_of_le HZ0.out HB.out.size)
     replace HB:=Lh (HB.out.trans (hb.mono HB.out.size))
     replace HXR:=Lh ((hb.block _ (qz HXR.out)).trans HXR.out)
     replace HXX:=Lh ((hb.block _ (qz HXX.out)).trans HXX.out)
     replace HI:=Lh (HI.out.below hb lz lz hb.size)
     replace HU:=Lh (HU.out.below hb lz lz hb.size)
     have HV:=Lh hr
     clear hr hb
     obtain ⟨bV,hbV⟩:∃bV,bV=w7.heap.size:=⟨_,rfl⟩
     obtain ⟨w8,hw8⟩:∃w8,w8=w7.alloc (.cells #[.int .u8 J.kind,.int .i64 J.n,.string J.t,.slice an J.names.length cn,.slice ai J.items.length ci] 25):=⟨_,rfl⟩
     have hbx:Below w7.heap.size w7 w8:=by rw [hw8];exact (Below.refl _ _).alloc lz _
     have HXV:=Lh (qE hw8 hbV)
     replace HB:=Lh (HB.out.trans (hbx.mono HB.out.size))
     replace HXR:=Lh ((hbx.block _ (qz HXR.out)).trans HXR.out)
     replace HXX:=Lh ((hbx.block _ (qz HXX.out)).trans HXX.out)
     replace HI:=Lh (HI.out.below hbx lz lz hbx.size)
     replace HU:=Lh (HU.out.below hbx lz lz hbx.size)
     replace HV:=Lh (HV.out.below hbx lz lz hbx.size)
     have Hw8:=Lh (And.intro hw8 hbV)
     clear hbx hw8 hbV
     go_upto_region 6 with fail
     rw [← Hw8.out.1,← Hw8.out.2]
     clear Hw8
     have HLO8:=Lh (show 0<w8.heap.size from Nat.lt_of_lt_of_le HZ0.out HB.out.size)
     obtain ⟨xV0,xV1,xV2,xV3,xV4⟩:=xU HXV.out
     go_wp2_with fail
     refine (nX ⟨l,rs,⟨bits,pre,⟨t,ids⟩⟩⟩ _ w8 w6.heap.size HLO.out HMB.out.symm (by rw [← HJE.out];exact HV.out)).mono ?_
     clear xV0 xV1 xV2 xV3 xV4
     rintro ee w9 ⟨J2,⟨dn,dc,di,dd,h4,hr,hb⟩,hw2,hof⟩
     subst h4
     replace HB:=Lh (HB.out.trans (hb.mono HB.out.size))
     replace HXR:=Lh ((hb.block _ (qz HXR.out)).trans HXR.out)
     replace HXX:=Lh ((hb.block _ (qz HXX.out)).trans HXX.out)
     replace HXV:=Lh ((hb.block _ (qz HXV.out)).trans HXV.out)
     replace HI:=Lh (HI.out.below hb lz lz hb.size)
     replace HU:=Lh (HU.out.below hb lz lz hb.size)
     replace HV:=Lh (HV.out.below hb lz lz hb.size)
     have HK:=Lh hr
     have HW2:=Lh hw2
     have HOF:=Lh hof
     clear hr hb hw2 hof
     obtain ⟨bK,hbK⟩:∃bK,bK=w9.heap.size:=⟨_,rfl⟩
     obtain ⟨w10,hw10⟩:∃w10,w10=w9.alloc (.cells #[.int .u8 5,.int .i64 0,.string ⟨#[]⟩,.slice dn J2.names.length dc,.slice di J2.items.length dd] 25):=⟨_,rfl⟩
     have hbx:Below w9.heap.size w9 w10:=by rw [hw10];exact (Below.refl _ _).alloc lz _
     have HXK:=Lh (qE hw10 hbK)
     replace HB:=Lh (HB.out.trans (hbx.mono HB.out.size))
     replace HXR:=Lh ((hbx.block _ (qz HXR.out)).trans HXR.out)
     replace HXX:=Lh ((hbx.block _ (qz HXX.out)).trans HXX.out)
     replace HXV:=Lh ((hbx.block _ (qz HXV.out)).trans HXV.out)
     replace HI:=Lh (HI.out.below hbx lz lz hbx.size)
     replace HU:=Lh (HU.out.below hbx lz lz hbx.size)
     replace HV:=Lh (HV.out.below hbx lz lz hbx.size)
     replace HK:=Lh (HK.out.below hbx lz lz hbx.size)
     have Hw10:=Lh (And.intro hw10 hbK)
     clear hbx hw10 hbK
     go_upto_region 7 with fail
     rw [← Hw10.out.1,← Hw10.out.2]
     clear Hw10
     have HCO:=Lh (tq J2 _ w10 w8.heap.size HLO8.out HW2.out HK.out (HTB.out w10 HB.out))
     rw [HOF.out] at HCO
     obtain ⟨xK0,xK1,xK2,xK3,xK4⟩:=xU HXK.out
     go_wp2_with fail
     refine (HCO.out).mono ?_
     clear xK0 xK1 xK2 xK3 xK4
     rintro ee w11 ⟨z0,z1,s0,n0,n1,n2,y0,y1,y2,m0,m1,m2,h4,hb⟩
     subst h4
     clear HCO HOF HW2
     replace HB:=Lh (HB.out.trans (hb.mono HB.out.size))
     replace HXR:=Lh ((hb.block _ (qz HXR.out)).trans HXR.out)
     replace HXX:=Lh ((hb.block _ (qz HXX.out)).trans HXX.out)
     replace HXV:=Lh ((hb.block _ (qz HXV.out)).trans HXV.out)
     replace HXK:=Lh ((hb.block _ (qz HXK.out)).trans HXK.out)
     replace HI:=Lh (HI.out.below hb lz lz hb.size)
     replace HU:=Lh (HU.out.below hb lz lz hb.size)
     replace HV:=Lh (HV.out.below hb lz lz hb.size)
     replace HK:=Lh (HK.out.below hb lz lz hb.size)
     clear hb HK HXK
     obtain ⟨bZ,hbZ⟩:∃bZ,bZ=w11.heap.size:=⟨_,rfl⟩
     obtain ⟨w12,hw12⟩:∃w12,w12=w11.alloc (.cells #[.slice y0 n0 m0,.slice y1 n1 m1,.int .i64 z0,.slice y2 n2 m2,.int .i64 z1,.string s0] 35):=⟨_,rfl⟩
     have hbx:Below w11.heap.size w11 w12:=by rw [hw12];exact (Below.refl _ _).alloc lz _
     have HXZ:=Lh (qE hw12 hbZ)
     replace HB:=Lh (HB.out.trans (hbx.mono HB.out.size))
     replace HXR:=Lh ((hbx.block _ (qz HXR.out)).trans HXR.out)
     replace HXX:=Lh ((hbx.block _ (qz HXX.out)).trans HXX.out)
     replace HXV:=Lh ((hbx.block _ (qz HXV.out)).trans HXV.out)
     replace HI:=Lh (HI.out.below hbx lz lz hbx.size)
     replace HU:=Lh (HU.out.below hbx lz lz hbx.size)
     replace HV:=Lh (HV.out.below hbx lz lz hbx.size)
     have Hw12:=Lh (And.intro hw12 hbZ)
     clear hbx hw12 hbZ
     go_upto_region 8 with fail
     rw [← Hw12.out.1,← Hw12.out.2]
     clear Hw12
     clear HXZ
     cases b1:(n.toList == [107,101,121,115])
     case false =>
      cases b2:(n.toList == [114,111,108,101,115])
      case false =>
       cases b3:(n.toList == [115,117,99,99,105,110,99,116,95,114,111,108,101,115])
       case false =>
        have HNN:=Lh (show n≠qt∧n≠zl∧(n=zX→qS (⟨l,rs,⟨bits,pre,⟨t,ids⟩⟩⟩:DelegsV).bins=false) from ⟨dL dR b1,dL nW b3,fun e=>absurd e (dL nV b2)⟩)
        go_upto_region 14 with fail
        have HLT:=Lh (show 0<w12.heap.size from Nat.lt_of_lt_of_le HZ0.out HB.out.size)
        have HWC:=Lh (vE ⟨l,rs,⟨bits,pre,⟨t,ids⟩⟩⟩ n u _ _ w12 w6.heap.size HLO.out HMB.out.symm HWU.out HNS.out HNN.out (by rw [← HJE.out];exact HV.out) HU.out)
        obtain ⟨xV0,xV1,xV2,xV3,xV4⟩:=xU HXV.out
        obtain ⟨xX0,xX1,xX2,xX3,xX4⟩:=xU HXX.out
        go_wp2_with fail
        refine (HWC.out).mono ?_
        clear xV0 xV1 xV2 xV3 xV4
        clear xX0 xX1 xX2 xX3 xX4
        rintro ee wb ⟨J3,⟨en,ec,ei,ed,h4,hr,hb⟩,hw3,hof⟩
        subst h4
        clear HWC
        replace HB:=Lh (HB.out.trans (hb.mono HB.out.size))
        replace HXR:=Lh ((hb.block _ (qz HXR.out)).trans HXR.out)
        replace HXX:=Lh ((hb.block _ (qz HXX.out)).trans HXX.out)
        replace HXV:=Lh ((hb.block _ (qz HXV.out)).trans HXV.out)
        replace HI:=Lh (HI.out.below hb lz lz hb.size)
        replace HU:=Lh (HU.out.below hb lz lz hb.size)
        replace HV:=Lh (HV.out.below hb lz lz hb.size)
        have HE:=Lh hr
        have HW3:=Lh hw3
        have HOF:=Lh hof
        clear hr hb hw3 hof
        obtain ⟨bE,hbE⟩:∃bE,bE=wb.heap.size:=⟨_,rfl⟩
        obtain ⟨wc,hwc⟩:∃wc,wc=wb.alloc (.cells #[.int .u8 5,.int .i64 0,.string ⟨#[]⟩,.slice en J3.names.length ec,.slice ei J3.items.length ed] 25):=⟨_,rfl⟩
        have hbx:Below wb.heap.size wb wc:=by rw [hwc];exact (Below.refl _ _).alloc lz _
        have HXE:=Lh (qE hwc hbE)
        replace HB:=Lh (HB.out.trans (hbx.mono HB.out.size))
        replace HXR:=Lh ((hbx.block _ (qz HXR.out)).trans HXR.out)
        replace HXX:=Lh ((hbx.block _ (qz HXX.out)).trans HXX.out)
        replace HXV:=Lh ((hbx.block _ (qz HXV.out)).trans HXV.out)
        replace HI:=Lh (HI.out.below hbx lz lz hbx.size)
        replace HU:=Lh (HU.out.below hbx lz lz hbx.size)
        replace HV:=Lh (HV.out.below hbx lz lz hbx.size)
        replace HE:=Lh (HE.out.below hbx lz lz hbx.size)
        have Hwc:=Lh (And.intro hwc hbE)
        clear hbx hwc hbE
        go_upto_region 15 with fail
        rw [← Hwc.out.1,← Hwc.out.2]
        clear Hwc
        obtain ⟨er,her⟩:∃er,er=(qT J3).2:=⟨_,rfl⟩
        have HCO:=Lh (tq J3 _ wc w12.heap.size HLT.out HW3.out HE.out (HTB.out wc HB.out))
        rw [← her] at HCO HOF
        clear her
        obtain ⟨xE0,xE1,xE2,xE3,xE4⟩:=xU HXE.out
        go_wp2_with fail
        refine (HCO.out).mono ?_
        clear xE0 xE1 xE2 xE3 xE4
        rintro ee wd ⟨z0,z1,s0,n0,n1,n2,y0,y1,y2,m0,m1,m2,h4,hb⟩
        subst h4
        clear HCO
        replace HB:=Lh (HB.out.trans (hb.mono HB.out.size))
        replace HXR:=Lh ((hb.block _ (qz HXR.out)).trans HXR.out)
        replace HXX:=Lh ((hb.block _ (qz HXX.out)).trans HXX.out)
        replace HXV:=Lh ((hb.block _ (qz HXV.out)).trans HXV.out)
        replace HXE:=Lh ((hb.block _ (qz HXE.out)).trans HXE.out)
        replace HI:=Lh (HI.out.below hb lz lz hb.size)
        replace HU:=Lh (HU.out.below hb lz lz hb.size)
        replace HV:=Lh (HV.out.below hb lz lz hb.size)
        replace HE:=Lh (HE.out.below hb lz lz hb.size)
        clear hb
        obtain ⟨bY,hbY⟩:∃bY,bY=wd.heap.size:=⟨_,rfl⟩
        obtain ⟨we,hwe⟩:∃we,we=wd.alloc (.cells #[.slice y0 n0 m0,.slice y1 n1 m1,.int .i64 z0,.slice y2 n2 m2,.int .i64 z1,.string s0] 35):=⟨_,rfl⟩
        have hbx:Below wd.heap.size wd we:=by rw [hwe];exact (Below.refl _ _).alloc lz _
        have HXY:=Lh (qE hwe hbY)
        replace HB:=Lh (HB.out.trans (hbx.mono HB.out.size))
        replace HXR:=Lh ((hbx.block _ (qz HXR.out)).trans HXR.out)
        replace HXX:=Lh ((hbx.block _ (qz HXX.out)).trans HXX.out)
        replace HXV:=Lh ((hbx.block _ (qz HXV.out)).trans HXV.out)
        replace HXE:=Lh ((hbx.block _ (qz HXE.out)).trans HXE.out)
        replace HI:=Lh (HI.out.below hbx lz lz hbx.size)
        replace HU:=Lh (HU.out.below hbx lz lz hbx.size)
        replace HV:=Lh (HV.out.below hbx lz lz hbx.size)
        replace HE:=Lh (HE.out.below hbx lz lz hbx.size)
        have Hwe:=Lh (And.intro hwe hbY)
        clear hbx hwe hbY
        go_upto_region 16 with fail
        rw [← Hwe.out.1,← Hwe.out.2]
        clear Hwe
        clear HXY
        have hq:=HOF.out
        obtain ⟨my,hmy⟩:∃my,my=J3.mayB:=⟨_,rfl⟩
        have HVM:=Lh (xa J3 _ we HW3.out (HE.out.carry (Nat.zero_le _) lz (fun _ _ _=>rfl)))
        rw [← hmy] at hq HVM
        clear hmy HOF
        cases my
        case true =>
         obtain rfl:er=11:=hq
         go_wp2
         go_ret
         exact ⟨rfl,HB.out⟩
        case false =>
         obtain rfl:er=3:=hq
         obtain ⟨xE0,xE1,xE2,xE3,xE4⟩:=xU HXE.out
         go_wp2_with fail
         refine HVM.out.mono ?_
         rintro ee wx ⟨rfl,hb⟩
         have HBZ:=Lh (HB.out.trans (hb.mono HB.out.size))
         clear hb HVM
         clear xE0 xE1 xE2 xE3 xE4
         go_wp2
         go_ret
         exact ⟨rfl,HBZ.out⟩
       case true =>
        obtain ⟨xR0,xR1,xR2,xR3,xR4,xR5⟩:=fS HXR.out
        by_cases hz:bits=0
        case pos =>
         have b4:(bits == 0)=true:=by simpa using hz
         clear hz
         go_wp2
         go_ret
         exact ⟨rfl,HB.out⟩
        case neg =>
         have b4:(bits == 0)=false:=by simpa using hz
         have HNB:=Lh (gh (d:=⟨l,rs,⟨bits,pre,⟨t,ids⟩⟩⟩) hz)
         clear hz
         go_upto_region 14 with fail
         clear xR0 xR1 xR2 xR3 xR4 xR5
         have HLT:=Lh (show 0<w12.heap.size from Nat.lt_of_lt_of_le HZ0.out HB.out.size)
         have HWC:=Lh (vE ⟨l,rs,⟨bits,pre,⟨t,ids⟩⟩⟩ zX u _ _ w12 w6.heap.size HLO.out HMB.out.symm HWU.out (by decide) ⟨by decide,by decide,fun _=>HNB.out⟩ (by rw [← HJE.out];exact HV.out) HU.out)
         obtain ⟨xV0,xV1,xV2,xV3,xV4⟩:=xU HXV.out
         obtain ⟨xX0,xX1,xX2,xX3,xX4⟩:=xU HXX.out
         go_wp2_with fail
         refine (HWC.out).mono ?_
         clear xV0 xV1 xV2 xV3 xV4
         clear xX0 xX1 xX2 xX3 xX4
         rintro ee wb ⟨J3,⟨en,ec,ei,ed,h4,hr,hb⟩,hw3,hof⟩
         subst h4
         clear HWC
         replace HB:=Lh (HB.out.trans (hb.mono HB.out.size))
         replace HXR:=Lh ((hb.block _ (qz HXR.out)).trans HXR.out)
         replace HXX:=Lh ((hb.block _ (qz HXX.out)).trans HXX.out)
         replace HXV:=Lh ((hb.block _ (qz HXV.out)).trans HXV.out)
         replace HI:=Lh (HI.out.below hb lz lz hb.size)
         replace HU:=Lh (HU.out.below hb lz lz hb.size)
         replace HV:=Lh (HV.out.below hb lz lz hb.size)
         have HE:=Lh hr
         have HW3:=Lh hw3
         have HOF:=Lh hof
         clear hr hb hw3 hof
         obtain ⟨bE,hbE⟩:∃bE,bE=wb.heap.size:=⟨_,rfl⟩
         obtain ⟨wc,hwc⟩:∃wc,wc=wb.alloc (.cells #[.int .u8 5,.int .i64 0,.string ⟨#[]⟩,.slice en J3.names.length ec,.slice ei J3.items.length ed] 25):=⟨_,rfl⟩
         have hbx:Below wb.heap.size wb wc:=by rw [hwc];exact (Below.refl _ _).alloc lz _
         have HXE:=Lh (qE hwc hbE)
         replace HB:=Lh (HB.out.trans (hbx.mono HB.out.size))
         replace HXR:=Lh ((hbx.block _ (qz HXR.out)).trans HXR.out)
         replace HXX:=Lh ((hbx.block _ (qz HXX.out)).trans HXX.out)
         replace HXV:=Lh ((hbx.block _ (qz HXV.out)).trans HXV.out)
         replace HI:=Lh (HI.out.below hbx lz lz hbx.size)
         replace HU:=Lh (HU.out.below hbx lz lz hbx.size)
         replace HV:=Lh (HV.out.below hbx lz lz hbx.size)
         replace HE:=Lh (HE.out.below hbx lz lz hbx.size)
         have Hwc:=Lh (And.intro hwc hbE)
         clear hbx hwc hbE
         go_upto_region 15 with fail
         rw [← Hwc.out.1,← Hwc.out.2]
         clear Hwc
         obtain ⟨er,her⟩:∃er,er=(qT J3).2:=⟨_,rfl⟩
         have HCO:=Lh (tq J3 _ wc w12.heap.size HLT.out HW3.out HE.out (HTB.out wc HB.out))
         rw [← her] at HCO HOF
         clear her
         obtain ⟨xE0,xE1,xE2,xE3,xE4⟩:=xU HXE.out
         go_wp2_with fail
         refine (HCO.out).mono ?_
         clear xE0 xE1 xE2 xE3 xE4
         rintro ee wd ⟨z0,z1,s0,n0,n1,n2,y0,y1,y2,m0,m1,m2,h4,hb⟩
         subst h4
         clear HCO
         replace HB:=Lh (HB.out.trans (hb.mono HB.out.size))
         replace HXR:=Lh ((hb.block _ (qz HXR.out)).trans HXR.out)
         replace HXX:=Lh ((hb.block _ (qz HXX.out)).trans HXX.out)
         replace HXV:=Lh ((hb.block _ (qz HXV.out)).trans HXV.out)
         replace HXE:=Lh ((hb.block _ (qz HXE.out)).trans HXE.out)
         replace HI:=Lh (HI.out.below hb lz lz hb.size)
         replace HU:=Lh (HU.out.below hb lz lz hb.size)
         replace HV:=Lh (HV.out.below hb lz lz hb.size)
         replace HE:=Lh (HE.out.below hb lz lz hb.size)
         clear hb
         obtain ⟨bY,hbY⟩:∃bY,bY=wd.heap.size:=⟨_,rfl⟩
         obtain ⟨we,hwe⟩:∃we,we=wd.alloc (.cells #[.slice y0 n0 m0,.slice y1 n1 m1,.int .i64 z0,.slice y2 n2 m2,.int .i64 z1,.string s0] 35):=⟨_,rfl⟩
         have hbx:Below wd.heap.size wd we:=by rw [hwe];exact (Below.refl _ _).alloc lz _
         have HXY:=Lh (qE hwe hbY)
         replace HB:=Lh (HB.out.trans (hbx.mono HB.out.size))
         replace HXR:=Lh ((hbx.block _ (qz HXR.out)).trans HXR.out)
         replace HXX:=Lh ((hbx.block _ (qz HXX.out)).trans HXX.out)
         replace HXV:=Lh ((hbx.block _ (qz HXV.out)).trans HXV.out)
         replace HXE:=Lh ((hbx.block _ (qz HXE.out)).trans HXE.out)
         replace HI:=Lh (HI.out.below hbx lz lz hbx.size)
         replace HU:=Lh (HU.out.below hbx lz lz hbx.size)
         replace HV:=Lh (HV.out.below hbx lz lz hbx.size)
         replace HE:=Lh (HE.out.below hbx lz lz hbx.size)
         have Hwe:=Lh (And.intro hwe hbY)
         clear hbx hwe hbY
         go_upto_region 16 with fail
         rw [← Hwe.out.1,← Hwe.out.2]
         clear Hwe
         clear HXY
         have hq:=HOF.out
         obtain ⟨my,hmy⟩:∃my,my=J3.mayB:=⟨_,rfl⟩
         have HVM:=Lh (xa J3 _ we HW3.out (HE.out.carry (Nat.zero_le _) lz (fun _ _ _=>rfl)))
         rw [← hmy] at hq HVM
         clear hmy HOF
         cases my
         case true =>
          obtain rfl:er=11:=hq
          go_wp2
          go_ret
          exact ⟨rfl,HB.out⟩
         case false =>
          obtain rfl:er=3:=hq
          obtain ⟨xE0,xE1,xE2,xE3,xE4⟩:=xU HXE.out
          go_wp2_with fail
          refine HVM.out.mono ?_
          rintro ee wx ⟨rfl,hb⟩
          have HBZ:=Lh (HB.out.trans (hb.mono HB.out.size))
          clear hb HVM
          clear xE0 xE1 xE2 xE3 xE4
          go_wp2
          go_ret
          exact ⟨rfl,HBZ.out⟩
      case true =>
       obtain ⟨xR0,xR1,xR2,xR3,xR4,xR5⟩:=fS HXR.out
       by_cases hz:bits=0
       case pos =>
        have b4:(bits == 0)=true:=by simpa using hz
        clear hz
        go_wp2
        go_ret
        exact ⟨rfl,HB.out⟩
       case neg =>
        have b4:(bits == 0)=false:=by simpa using hz
        have HNB:=Lh (gh (d:=⟨l,rs,⟨bits,pre,⟨t,ids⟩⟩⟩) hz)
        clear hz
        go_upto_region 14 with fail
        clear xR0 xR1 xR2 xR3 xR4 xR5
        have HLT:=Lh (show 0<w12.heap.size from Nat.lt_of_lt_of_le HZ0.out HB.out.size)
        have HWC:=Lh (vE ⟨l,rs,⟨bits,pre,⟨t,ids⟩⟩⟩ zX u _ _ w12 w6.heap.size HLO.out HMB.out.symm HWU.out (by decide) ⟨by decide,by decide,fun _=>HNB.out⟩ (by rw [← HJE.out];exact HV.out) HU.out)
        obtain ⟨xV0,xV1,xV2,xV3,xV4⟩:=xU HXV.out
        obtain ⟨xX0,xX1,xX2,xX3,xX4⟩:=xU HXX.out
        go_wp2_with fail
        refine (HWC.out).mono ?_
        clear xV0 xV1 xV2 xV3 xV4
        clear xX0 xX1 xX2 xX3 xX4
        rintro ee wb ⟨J3,⟨en,ec,ei,ed,h4,hr,hb⟩,hw3,hof⟩
        subst h4
        clear HWC
        replace HB:=Lh (HB.out.trans (hb.mono HB.out.size))
        replace HXR:=Lh ((hb.block _ (qz HXR.out)).trans HXR.out)
        replace HXX:=Lh ((hb.block _ (qz HXX.out)).trans HXX.out)
        replace HXV:=Lh ((hb.block _ (qz HXV.out)).trans HXV.out)
        replace HI:=Lh (HI.out.below hb lz lz hb.size)
        replace HU:=Lh (HU.out.below hb lz lz hb.size)
        replace HV:=Lh (HV.out.below hb lz lz hb.size)
        have HE:=Lh hr
        have HW3:=Lh hw3
        have HOF:=Lh hof
        clear hr hb hw3 hof
        obtain ⟨bE,hbE⟩:∃bE,bE=wb.heap.size:=⟨_,rfl⟩
        obtain ⟨wc,hwc⟩:∃wc,wc=wb.alloc (.cells #[.int .u8 5,.int .i64 0,.string ⟨#[]⟩,.slice en J3.names.length ec,.slice ei J3.items.length ed] 25):=⟨_,rfl⟩
        have hbx:Below wb.heap.size wb wc:=by rw [hwc];exact (Below.refl _ _).alloc lz _
        have HXE:=Lh (qE hwc hbE)
        replace HB:=Lh (HB.out.trans (hbx.mono HB.out.size))
        replace HXR:=Lh ((hbx.block _ (qz HXR.out)).trans HXR.out)
        replace HXX:=Lh ((hbx.block _ (qz HXX.out)).trans HXX.out)
        replace HXV:=Lh ((hbx.block _ (qz HXV.out)).trans HXV.out)
        replace HI:=Lh (HI.out.below hbx lz lz hbx.size)
        replace HU:=Lh (HU.out.below hbx lz lz hbx.size)
        replace HV:=Lh (HV.out.below hbx lz lz hbx.size)
        replace HE:=Lh (HE.out.below hbx lz lz hbx.size)
        have Hwc:=Lh (And.intro hwc hbE)
        clear hbx hwc hbE
        go_upto_region 15 with fail
        rw [← Hwc.out.1,← Hwc.out.2]
        clear Hwc
        obtain ⟨er,her⟩:∃er,er=(qT J3).2:=⟨_,rfl⟩
        have HCO:=Lh (tq J3 _ wc w12.heap.size HLT.out HW3.out HE.out (HTB.out wc HB.out))
        rw [← her] at HCO HOF
        clear her
        obtain ⟨xE0,xE1,xE2,xE3,xE4⟩:=xU HXE.out
        go_wp2_with fail
        refine (HCO.out).mono ?_
        clear xE0 xE1 xE2 xE3 xE4
        rintro ee wd ⟨z0,z1,s0,n0,n1,n2,y0,y1,y2,m0,m1,m2,h4,hb⟩
        subst h4
        clear HCO
        replace HB:=Lh (HB.out.trans (hb.mono HB.out.size))
        replace HXR:=Lh ((hb.block _ (qz HXR.out)).trans HXR.out)
        replace HXX:=Lh ((hb.block _ (qz HXX.out)).trans HXX.out)
        replace HXV:=Lh ((hb.block _ (qz HXV.out)).trans HXV.out)
        replace HXE:=Lh ((hb.block _ (qz HXE.out)).trans HXE.out)
        replace HI:=Lh (HI.out.below hb lz lz hb.size)
        replace HU:=Lh (HU.out.below hb lz lz hb.size)
        replace HV:=Lh (HV.out.below hb lz lz hb.size)
        replace HE:=Lh (HE.out.below hb lz lz hb.size)
        clear hb
        obtain ⟨bY,hbY⟩:∃bY,bY=wd.heap.size:=⟨_,rfl⟩
        obtain ⟨we,hwe⟩:∃we,we=wd.alloc (.cells #[.slice y0 n0 m0,.slice y1 n1 m1,.int .i64 z0,.slice y2 n2 m2,.int .i64 z1,.string s0] 35):=⟨_,rfl⟩
        have hbx:Below wd.heap.size wd we:=by rw [hwe];exact (Below.refl _ _).alloc lz _
        have HXY:=Lh (qE hwe hbY)
        replace HB:=Lh (HB.out.trans (hbx.mono HB.out.size))
        replace HXR:=Lh ((hbx.block _ (qz HXR.out)).trans HXR.out)
        replace HXX:=Lh ((hbx.block _ (qz HXX.out)).trans HXX.out)
        replace HXV:=Lh ((hbx.block _ (qz HXV.out)).trans HXV.out)
        replace HXE:=Lh ((hbx.block _ (qz HXE.out)).trans HXE.out)
        replace HI:=Lh (HI.out.below hbx lz lz hbx.size)
        replace HU:=Lh (HU.out.below hbx lz lz hbx.size)
        replace HV:=Lh (HV.out.below hbx lz lz hbx.size)
        replace HE:=Lh (HE.out.below hbx lz lz hbx.size)
        have Hwe:=Lh (And.intro hwe hbY)
        clear hbx hwe hbY
        go_upto_region 16 with fail
        rw [← Hwe.out.1,← Hwe.out.2]
        clear Hwe
        clear HXY
        have hq:=HOF.out
        obtain ⟨my,hmy⟩:∃my,my=J3.mayB:=⟨_,rfl⟩
        have HVM:=Lh (xa J3 _ we HW3.out (HE.out.carry (Nat.zero_le _) lz (fun _ _ _=>rfl)))
        rw [← hmy] at hq HVM
        clear hmy HOF
        cases my
        case true =>
         obtain rfl:er=11:=hq
         go_wp2
         go_ret
         exact ⟨rfl,HB.out⟩
        case false =>
         obtain rfl:er=3:=hq
         obtain ⟨xE0,xE1,xE2,xE3,xE4⟩:=xU HXE.out
         go_wp2_with fail
         refine HVM.out.mono ?_
         rintro ee wx ⟨rfl,hb⟩
         have HBZ:=Lh (HB.out.trans (hb.mono HB.out.size))
         clear hb HVM
         clear xE0 xE1 xE2 xE3 xE4
         go_wp2
         go_ret
         exact ⟨rfl,HBZ.out⟩
     case true =>
      obtain ⟨xR0,xR1,xR2,xR3,xR4,xR5⟩:=fS HXR.out
      by_cases hz:bits=0
      case pos =>
       have b4:(bits == 0)=true:=by simpa using hz
       clear hz
       go_wp2
       go_ret
       exact ⟨rfl,HB.out⟩
      case neg =>
       have b4:(bits == 0)=false:=by simpa using hz
       have HNB:=Lh (gh (d:=⟨l,rs,⟨bits,pre,⟨t,ids⟩⟩⟩) hz)
       clear hz
       go_upto_region 14 with fail
       clear xR0 xR1 xR2 xR3 xR4 xR5
       have HLT:=Lh (show 0<w12.heap.size from Nat.lt_of_lt_of_le HZ0.out HB.out.size)
       have HWC:=Lh (vE ⟨l,rs,⟨bits,pre,⟨t,ids⟩⟩⟩ zX u _ _ w12 w6.heap.size HLO.out HMB.out.symm HWU.out (by decide) ⟨by decide,by decide,fun _=>HNB.out⟩ (by rw [← HJE.out];exact HV.out) HU.out)
       obtain ⟨xV0,xV1,xV2,xV3,xV4⟩:=xU HXV.out
       obtain ⟨xX0,xX1,xX2,xX3,xX4⟩:=xU HXX.out
       go_wp2_with fail
       refine (HWC.out).mono ?_
       clear xV0 xV1 xV2 xV3 xV4
       clear xX0 xX1 xX2 xX3 xX4
       rintro ee wb ⟨J3,⟨en,ec,ei,ed,h4,hr,hb⟩,hw3,hof⟩
       subst h4
       clear HWC
       replace HB:=Lh (HB.out.trans (hb.mono HB.out.size))
       replace HXR:=Lh ((hb.block _ (qz HXR.out)).trans HXR.out)
       replace HXX:=Lh ((hb.block _ (qz HXX.out)).trans HXX.out)
       replace HXV:=Lh ((hb.block _ (qz HXV.out)).trans HXV.out)
       replace HI:=Lh (HI.out.below hb lz lz hb.size)
       replace HU:=Lh (HU.out.below hb lz lz hb.size)
       replace HV:=Lh (HV.out.below hb lz lz hb.size)
       have HE:=Lh hr
       have HW3:=Lh hw3
       have HOF:=Lh hof
       clear hr hb hw3 hof
       obtain ⟨bE,hbE⟩:∃bE,bE=wb.heap.size:=⟨_,rfl⟩
       obtain ⟨wc,hwc⟩:∃wc,wc=wb.alloc (.cells #[.int .u8 5,.int .i64 0,.string ⟨#[]⟩,.slice en J3.names.length ec,.slice ei J3.items.length ed] 25):=⟨_,rfl⟩
       have hbx:Below wb.heap.size wb wc:=by rw [hwc];exact (Below.refl _ _).alloc lz _
       have HXE:=Lh (qE hwc hbE)
       replace HB:=Lh (HB.out.trans (hbx.mono HB.out.size))
       replace HXR:=Lh ((hbx.block _ (qz HXR.out)).trans HXR.out)
       replace HXX:=Lh ((hbx.block _ (qz HXX.out)).trans HXX.out)
       replace HXV:=Lh ((hbx.block _ (qz HXV.out)).trans HXV.out)
       replace HI:=Lh (HI.out.below hbx lz lz hbx.size)
       replace HU:=Lh (HU.out.below hbx lz lz hbx.size)
       replace HV:=Lh (HV.out.below hbx lz lz hbx.size)
       replace HE:=Lh (HE.out.below hbx lz lz hbx.size)
       have Hwc:=Lh (And.intro hwc hbE)
       clear hbx hwc hbE
       go_upto_region 15 with fail
       rw [← Hwc.out.1,← Hwc.out.2]
       clear Hwc
       obtain ⟨er,her⟩:∃er,er=(qT J3).2:=⟨_,rfl⟩
       have HCO:=Lh (tq J3 _ wc w12.heap.size HLT.out HW3.out HE.out (HTB.out wc HB.out))
       rw [← her] at HCO HOF
       clear her
       obtain ⟨xE0,xE1,xE2,xE3,xE4⟩:=xU HXE.out
       go_wp2_with fail
       refine (HCO.out).mono ?_
       clear xE0 xE1 xE2 xE3 xE4
       rintro ee wd ⟨z0,z1,s0,n0,n1,n2,y0,y1,y2,m0,m1,m2,h4,hb⟩
       subst h4
       clear HCO
       replace HB:=Lh (HB.out.trans (hb.mono HB.out.size))
       replace HXR:=Lh ((hb.block _ (qz HXR.out)).trans HXR.out)
       replace HXX:=Lh ((hb.block _ (qz HXX.out)).trans HXX.out)
       replace HXV:=Lh ((hb.block _ (qz HXV.out)).trans HXV.out)
       replace HXE:=Lh ((hb.block _ (qz HXE.out)).trans HXE.out)
       replace HI:=Lh (HI.out.below hb lz lz hb.size)
       replace HU:=Lh (HU.out.below hb lz lz hb.size)
       replace HV:=Lh (HV.out.below hb lz lz hb.size)
       replace HE:=Lh (HE.out.below hb lz lz hb.size)
       clear hb
       obtain ⟨bY,hbY⟩:∃bY,bY=wd.heap.size:=⟨_,rfl⟩
       obtain ⟨we,hwe⟩:∃we,we=wd.alloc (.cells #[.slice y0 n0 m0,.slice y1 n1 m1,.int .i64 z0,.slice y2 n2 m2,.int .i64 z1,.string s0] 35):=⟨_,rfl⟩
       have hbx:Below wd.heap.size wd we:=by rw [hwe];exact (Below.refl _ _).alloc lz _
       have HXY:=Lh (qE hwe hbY)
       replace HB:=Lh (HB.out.trans (hbx.mono HB.out.size))
       replace HXR:=Lh ((hbx.block _ (qz HXR.out)).trans HXR.out)
       replace HXX:=Lh ((hbx.block _ (qz HXX.out)).trans HXX.out)
       replace HXV:=Lh ((hbx.block _ (qz HXV.out)).trans HXV.out)
       replace HXE:=Lh ((hbx.block _ (qz HXE.out)).trans HXE.out)
       replace HI:=Lh (HI.out.below hbx lz lz hbx.size)
       replace HU:=Lh (HU.out.below hbx lz lz hbx.size)
       replace HV:=Lh (HV.out.below hbx lz lz hbx.size)
       replace HE:=Lh (HE.out.below hbx lz lz hbx.size)
       have Hwe:=Lh (And.intro hwe hbY)
       clear hbx hwe hbY
       go_upto_region 16 with fail
       rw [← Hwe.out.1,← Hwe.out.2]
       clear Hwe
       clear HXY
       have hq:=HOF.out
       obtain ⟨my,hmy⟩:∃my,my=J3.mayB:=⟨_,rfl⟩
       have HVM:=Lh (xa J3 _ we HW3.out (HE.out.carry (Nat.zero_le _) lz (fun _ _ _=>rfl)))
       rw [← hmy] at hq HVM
       clear hmy HOF
       cases my
       case true =>
        obtain rfl:er=11:=hq
        go_wp2
        go_ret
        exact ⟨rfl,HB.out⟩
       case false =>
        obtain rfl:er=3:=hq
        obtain ⟨xE0,xE1,xE2,xE3,xE4⟩:=xU HXE.out
        go_wp2_with fail
        refine HVM.out.mono ?_
        rintro ee wx ⟨rfl,hb⟩
        have HBZ:=Lh (HB.out.trans (hb.mono HB.out.size))
        clear hb HVM
        clear xE0 xE1 xE2 xE3 xE4
        go_wp2
        go_ret
        exact ⟨rfl,HBZ.out⟩
end Go.Proofs.YthgembbgcbaghaaGreatDoor
