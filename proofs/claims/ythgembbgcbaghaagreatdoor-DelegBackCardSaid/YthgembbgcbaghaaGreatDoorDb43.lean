/- The law DelegBack: the call returns true. Printed by gendelegback.py. -/
import Derived.Test.YthgembbgcbaghaaGreatDoorDb41
import Derived.Test.YthgembbgcbaghaaGreatDoorDb26
import Derived.Test.YthgembbgcbaghaaGreatDoorDb42

namespace Go.Proofs.YthgembbgcbaghaaGreatDoor
open Go.RowKit Go.Shelf Go.Sort
theorem vL {r:DelegsV} (h:qU r=true):xT r=(qm r,0):=by unfold xT;rw [if_pos h]
theorem cX {r:DelegsV} (h:qU r=false):xT r=(qo,3):=by unfold xT;rw [if_neg (by rw [h];decide)]
theorem wY (w:World) (lo hi:Nat):DelegsIn w lo hi delegsZ none none none:=⟨.inl rfl,.inl rfl,.inl rfl⟩
theorem zJ {w n:World} {b:Nat} {o:Obj} (h:n=w.alloc o) (hb:b=w.heap.size):n.heap[b]?=some o:=by rw [h,hb];exact heap_alloc_new w _
theorem gA {w:World} {b T:Nat} {a0 a1 a2 a3 a4:Value} (h:w.heap[b]?=some (.cells #[a0,a1,a2,a3,a4] T (0,0))):w.cell? ⟨b,0,none⟩=some a0∧w.cell? ⟨b,1,none⟩=some a1∧w.cell? ⟨b,2,none⟩=some a2∧w.cell? ⟨b,3,none⟩=some a3∧w.cell? ⟨b,4,none⟩=some a4:=⟨qq h rfl,qq h rfl,qq h rfl,qq h rfl,qq h rfl⟩
theorem jE {w:World} {b T:Nat} {a0 a1 a2 a3 a4 a5:Value} (h:w.heap[b]?=some (.cells #[a0,a1,a2,a3,a4,a5] T (0,0))):w.cell? ⟨b,0,none⟩=some a0∧w.cell? ⟨b,1,none⟩=some a1∧w.cell? ⟨b,2,none⟩=some a2∧w.cell? ⟨b,3,none⟩=some a3∧w.cell? ⟨b,4,none⟩=some a4∧w.cell? ⟨b,5,none⟩=some a5:=⟨qq h rfl,qq h rfl,qq h rfl,qq h rfl,qq h rfl,qq h rfl⟩
set_option maxHeartbeats 8000000 in
set_option maxRecDepth 100000 in
theorem uW (l:List Key2) (rs:List DelegV) (t bits:Int) (ids:List ByteArray) (pre:ByteArray) (ka ra ba:Option Addr) (kc rc bc:Nat) (u:JV) (uan uai:Option Addr) (ucn uci:Nat) (w:World) (G:DelegsGot w ⟨l,rs,⟨bits,pre,⟨t,ids⟩⟩⟩ ka ra ba kc rc bc)
 (hU:Rep w 0 w.heap.size u (.agg #[.int .u8 u.kind,.int .i64 u.n,.string u.t,.slice uan u.names.length ucn,.slice uai u.items.length uci])) (hT:Tabs w) :
 Calls Tryz.prog 10 #[.agg #[.slice ka l.length kc,.slice ra rs.length rc,.int .i64 t,.slice ba ids.length bc,.int .i64 bits,.string pre],.agg #[.int .u8 u.kind,.int .i64 u.n,.string u.t,.slice uan u.names.length ucn,.slice uai u.items.length uci]] w fun e w'=>e=.returned (.bool true)∧Below w.heap.size w w':=by
 have HTB:=Lh (show ∀w':World,Below w.heap.size w w'→Tabs w' from fun w' h=>hT.below h)
 have HB:=Lh (Below.refl w.heap.size w)
 have HZ0:=Lh (show 0<w.heap.size from Nat.lt_of_le_of_lt (Nat.zero_le _) hT.l1)
 have HI:=Lh G.rows
 have HU:=Lh hU
 have HRC:=Lh (show rs.length≤rc from G.cr)
 have HFT:=Lh (show NotLongD ⟨l,rs,⟨bits,pre,⟨t,ids⟩⟩⟩→DelegsFits ⟨l,rs,⟨bits,pre,⟨t,ids⟩⟩⟩ from fun h=>g7 h G.bits G.thr (fun x hx=>(G.each x hx).1))
 have HGL:=Lh (show l.length≤9223372036854775807∧rs.length≤9223372036854775807∧(∀x ∈ rs,Lens x)∧ids.length≤9223372036854775807 from ⟨G.lk,G.lr,(fun x hx=>⟨(G.each x hx).2.2.1,(G.each x hx).2.2.2.1,(G.each x hx).2.2.2.2⟩),G.lb⟩)
 clear hT G hU
 go_enter Tryz.func10,Tryz.ntmps10
 obtain ⟨bR,hbR⟩:∃bR,bR=w.heap.size:=⟨_,rfl⟩
 obtain ⟨w1,hw1⟩:∃w1,w1=w.alloc (.cells #[.slice ka l.length kc,.slice ra rs.length rc,.int .i64 t,.slice ba ids.length bc,.int .i64 bits,.string pre] 35):=⟨_,rfl⟩
 have hbx:Below w.heap.size w w1:=by rw [hw1];exact (Below.refl _ _).alloc lz _
 have HXR:=Lh (zJ hw1 hbR)
 replace HB:=Lh (HB.out.trans (hbx.mono HB.out.size))
 replace HI:=Lh (HI.out.below hbx lz lz hbx.size)
 replace HU:=Lh (HU.out.below hbx lz lz hbx.size)
 have Hw1:=Lh (And.intro hw1 hbR)
 clear hbx hw1 hbR
 obtain ⟨bV,hbV⟩:∃bV,bV=w1.heap.size:=⟨_,rfl⟩
 obtain ⟨w2,hw2⟩:∃w2,w2=w1.alloc (.cells #[.int .u8 u.kind,.int .i64 u.n,.string u.t,.slice uan u.names.length ucn,.slice uai u.items.length uci] 25):=⟨_,rfl⟩
 have hbx:Below w1.heap.size w1 w2:=by rw [hw2];exact (Below.refl _ _).alloc lz _
 have HXV:=Lh (zJ hw2 hbV)
 replace HB:=Lh (HB.out.trans (hbx.mono HB.out.size))
 replace HXR:=Lh ((hbx.block _ (qx HXR.out)).trans HXR.out)
 replace HI:=Lh (HI.out.below hbx lz lz hbx.size)
 replace HU:=Lh (HU.out.below hbx lz lz hbx.size)
 have Hw2:=Lh (And.intro hw2 hbV)
 clear hbx hw2 hbV
 go_upto_region 1 with fail
 rw [← Hw1.out.1,← Hw2.out.1,← Hw1.out.2,show bR+1=bV by rw [Hw2.out.2,Hw1.out.1,Hw1.out.2];simp]
 clear Hw1 Hw2
 obtain ⟨xR0,xR1,xR2,xR3,xR4,xR5⟩:=jE HXR.out
 go_wp2_with fail
 refine (rZ l rs t bits ids pre ka ra ba kc rc bc w2 HI.out HGL.out.1 HGL.out.2.1 HGL.out.2.2.1 HGL.out.2.2.2).mono ?_
 clear xR0 xR1 xR2 xR3 xR4 xR5
 rintro ee w3 ⟨b,rfl,hn,hb⟩
 replace HB:=Lh (HB.out.trans (hb.mono HB.out.size))
 replace HXR:=Lh ((hb.block _ (qx HXR.out)).trans HXR.out)
 replace HXV:=Lh ((hb.block _ (qx HXV.out)).trans HXV.out)
 replace HI:=Lh (HI.out.below hb lz lz hb.size)
 replace HU:=Lh (HU.out.below hb lz lz hb.size)
 have HN:=Lh hn
 clear hn hb
 cases b
 case true =>
  go_wp2_with fail
  refine (uV w3 (HTB.out w3 HB.out)).mono ?_
  rintro ee wz ⟨rfl,hz⟩
  have HBZ:=Lh (HB.out.trans (hz.mono HB.out.size))
  clear hz
  go_wp2
  go_ret
  exact ⟨rfl,HBZ.out⟩
 case false =>
  have HF:=Lh (HFT.out (HN.out rfl))
  clear HN HFT HGL
  obtain ⟨xV0,xV1,xV2,xV3,xV4⟩:=gA HXV.out
  go_wp2_with fail
  clear xV0 xV1 xV2 xV3 xV4
  obtain ⟨bL,hbL⟩:∃bL,bL=w3.heap.size:=⟨_,rfl⟩
  obtain ⟨w4,hw4⟩:∃w4,w4=w3.alloc (.cells #[.int .u8 u.kind,.int .i64 u.n,.string u.t,.slice uan u.names.length ucn,.slice uai u.items.length uci] 25):=⟨_,rfl⟩
  have hbx:Below w3.heap.size w3 w4:=by rw [hw4];exact (Below.refl _ _).alloc lz _
  have HXL:=Lh (zJ hw4 hbL)
  replace HB:=Lh (HB.out.trans (hbx.mono HB.out.size))
  replace HXR:=Lh ((hbx.block _ (qx HXR.out)).trans HXR.out)
  replace HXV:=Lh ((hbx.block _ (qx HXV.out)).trans HXV.out)
  replace HI:=Lh (HI.out.below hbx lz lz hbx.size)
  replace HU:=Lh (HU.out.below hbx lz lz hbx.size)
  have Hw4:=Lh (And.intro hw4 hbL)
  clear hbx hw4 hbL
  rw [← Hw4.out.1,← Hw4.out.2]
  clear Hw4
  refine (tE [u] (some ⟨bL,0,none⟩) 1 w4 (nU HXL.out (qx HXL.out) HU.out)).mono ?_
  rintro r wq ⟨b,rfl,hn,hq⟩
  subst hq
  have HN:=Lh hn
  clear hn HXL
  cases b
  case true =>
   go_wp2_with fail
   refine (uV w4 (HTB.out w4 HB.out)).mono ?_
   rintro ee wz ⟨rfl,hz⟩
   have HBZ:=Lh (HB.out.trans (hz.mono HB.out.size))
   clear hz
   go_wp2
   go_ret
   exact ⟨rfl,HBZ.out⟩
  case false =>
   have HWU:=Lh (show u.wt≤4294967296 by have:=HN.out rfl;simp [JV.wts] at this;omega)
   clear HN
   go_wp2_with fail
   refine (uV w4 (HTB.out w4 HB.out)).mono ?_
   rintro ee w5 ⟨rfl,hb⟩
   replace HB:=Lh (HB.out.trans (hb.mono HB.out.size))
   replace HXR:=Lh ((hb.block _ (qx HXR.out)).trans HXR.out)
   replace HXV:=Lh ((hb.block _ (qx HXV.out)).trans HXV.out)
   replace HI:=Lh (HI.out.below hb lz lz hb.size)
   replace HU:=Lh (HU.out.below hb lz lz hb.size)
   clear hb
   obtain ⟨mb,hmb⟩:∃mb,mb=qU ⟨l,rs,⟨bits,pre,⟨t,ids⟩⟩⟩:=⟨_,rfl⟩
   have HMB:=Lh hmb
   clear hmb
   cases mb
   case false =>
    have HR0:=Lh (cX HMB.out.symm)
    obtain ⟨xR0,xR1,xR2,xR3,xR4,xR5⟩:=jE HXR.out
    go_wp2_with fail
    refine (jI l rs t bits ids pre ka ra ba kc rc bc w5 HI.out HF.out HRC.out (HTB.out w5 HB.out)).mono ?_
    clear xR0 xR1 xR2 xR3 xR4 xR5
    rintro ee w6 ⟨an,cn,ai,ci,h4,hr,hb⟩
    rw [HR0.out] at h4
    dsimp only [qo,JV.kind,JV.n,JV.t,JV.names,JV.items,List.length_nil] at h4
    clear hr HR0
    subst h4
    replace HB:=Lh (HB.out.trans (hb.mono HB.out.size))
    replace HXR:=Lh ((hb.block _ (qx HXR.out)).trans HXR.out)
    replace HXV:=Lh ((hb.block _ (qx HXV.out)).trans HXV.out)
    replace HI:=Lh (HI.out.below hb lz lz hb.size)
    replace HU:=Lh (HU.out.below hb lz lz hb.size)
    clear hb
    obtain ⟨bW,hbW⟩:∃bW,bW=w6.heap.size:=⟨_,rfl⟩
    obtain ⟨w7,hw7⟩:∃w7,w7=w6.alloc (.cells #[.int .u8 0,.int .i64 0,.string ⟨#[]⟩,.slice an 0 cn,.slice ai 0 ci] 25):=⟨_,rfl⟩
    have hbx:Below w6.heap.size w6 w7:=by rw [hw7];exact (Below.refl _ _).alloc lz _
    have HXW:=Lh (zJ hw7 hbW)
    replace HB:=Lh (HB.out.trans (hbx.mono HB.out.size))
    replace HXR:=Lh ((hbx.block _ (qx HXR.out)).trans HXR.out)
    replace HXV:=Lh ((hbx.block _ (qx HXV.out)).trans HXV.out)
    replace HI:=Lh (HI.out.below hbx lz lz hbx.size)
    replace HU:=Lh (HU.out.below hbx lz lz hbx.size)
    have Hw7:=Lh (And.intro hw7 hbW)
    clear hbx hw7 hbW
    go_upto_region 4 with fail
    rw [← Hw7.out.1,← Hw7.out.2]
    clear Hw7
    have HMC:=Lh (kD l rs t bits ids pre ka ra ba kc rc bc w7 HI.out HF.out HRC.out (HTB.out w7 HB.out))
    rw [← HMB.out] at HMC
    obtain ⟨xR0,xR1,xR2,xR3,xR4,xR5⟩:=jE HXR.out
    go_wp2_with fail
    refine (HMC.out).mono ?_
    clear xR0 xR1 xR2 xR3 xR4 xR5
    rintro ee w8 ⟨rfl,hb⟩
    replace HB:=Lh (HB.out.trans (hb.mono HB.out.size))
    replace HXR:=Lh ((hb.block _ (qx HXR.out)).trans HXR.out)
    replace HXV:=Lh ((hb.block _ (qx HXV.out)).trans HXV.out)
    replace HI:=Lh (HI.out.below hb lz lz hb.size)
    replace HU:=Lh (HU.out.below hb lz lz hb.size)
    clear hb HMC HXW
    obtain ⟨xV0,xV1,xV2,xV3,xV4⟩:=gA HXV.out
    go_wp2_with fail
    refine (pF u _ w8 HWU.out HU.out (HTB.out w8 HB.out)).mono ?_
    clear xV0 xV1 xV2 xV3 xV4
    rintro ee wa ⟨⟨l2,rs2,⟨bits2,pre2,⟨t2,ids2⟩⟩⟩,er,⟨kb,kd,rb,rd,bb,bd,h4,hrd,hi,hb⟩,hz0,hz1⟩
    dsimp only at h4 hrd
    subst h4
    replace HB:=Lh (HB.out.trans (hb.mono HB.out.size))
    replace HXR:=Lh ((hb.block _ (qx HXR.out)).trans HXR.out)
    replace HXV:=Lh ((hb.block _ (qx HXV.out)).trans HXV.out)
    replace HI:=Lh (HI.out.below hb lz lz hb.size)
    replace HU:=Lh (HU.out.below hb lz lz hb.size)
    have HJ:=Lh (hi.carry (Nat.zero_le _) lz (fun _ _ _=>rfl))
    have HE0:=Lh hz0
    have HE1:=Lh hz1
    have HRD:=Lh hrd
    clear hi hb hz0 hz1 hrd
    obtain ⟨rx,hrx⟩:∃rx:DelegsV,rx=⟨l2,rs2,⟨bits2,pre2,⟨t2,ids2⟩⟩⟩:=⟨_,rfl⟩
    dsimp only at HJ
    obtain ⟨bX,hbX⟩:∃bX,bX=wa.heap.size:=⟨_,rfl⟩
    obtain ⟨wb,hwb⟩:∃wb,wb=wa.alloc (.cells #[.slice kb l2.length kd,.slice rb rs2.length rd,.int .i64 t2,.slice bb ids2.length bd,.int .i64 bits2,.string pre2] 35):=⟨_,rfl⟩
    have hbx:Below wa.heap.size wa wb:=by rw [hwb];exact (Below.refl _ _).alloc lz _
    have HXX:=Lh (zJ hwb hbX)
    replace HB:=Lh (HB.out.trans (hbx.mono HB.out.size))
    replace HXR:=Lh ((hbx.block _ (qx HXR.out)).trans HXR.out)
    replace HXV:=Lh ((hbx.block _ (qx HXV.out)).trans HXV.out)
    replace HI:=Lh (HI.out.below hbx lz lz hbx.size)
    replace HU:=Lh (HU.out.below hbx lz lz hbx.size)
    replace HJ:=Lh (HJ.out.below hbx lz lz hbx.size)
    have Hwb:=Lh (And.intro hwb hbX)
    clear hbx hwb hbX
    go_upto_region 11 with fail
    rw [← Hwb.out.1,← Hwb.out.2]
    clear Hwb
    by_cases hr0:er=0
    case pos =>
     subst hr0
     obtain ⟨hu,hmx⟩:=HE0.out rfl
     have HMX:=Lh hmx
     have HUE:=Lh hu
     have HFX:=Lh (vD hmx)
     clear hu hmx HE0 HE1 hrx
     obtain ⟨xX0,xX1,xX2,xX3,xX4,xX5⟩:=jE HXX.out
     go_wp2_with fail
     refine (jI l2 rs2 t2 bits2 ids2 pre2 kb rb bb kd rd bd wb HJ.out HFX.out HRD.out (HTB.out wb HB.out)).mono ?_
     clear xX0 xX1 xX2 xX3 xX4 xX5
     rintro ee wc ⟨an2,cn2,ai2,ci2,h4,hr,hb⟩
     rw [vL HMX.out] at h4 hr
     dsimp only at h4 hr
     rw [← HUE.out] at h4 hr
     subst h4
     replace HB:=Lh (HB.out.trans (hb.mono HB.out.size))
     replace HXR:=Lh ((hb.block _ (qx HXR.out)).trans HXR.out)
     replace HXV:=Lh ((hb.block _ (qx HXV.out)).trans HXV.out)
     replace HXX:=Lh ((hb.block _ (qx HXX.out)).trans HXX.out)
     replace HI:=Lh (HI.out.below hb lz lz hb.size)
     replace HU:=Lh (HU.out.below hb lz lz hb.size)
     replace HJ:=Lh (HJ.out.below hb lz lz hb.size)
     have HUU:=Lh (hr.carry (Nat.zero_le _) lz (fun _ _ _=>rfl))
     clear hr hb
     obtain ⟨bU,hbU⟩:∃bU,bU=wc.heap.size:=⟨_,rfl⟩
     obtain ⟨wd,hwd⟩:∃wd,wd=wc.alloc (.cells #[.int .u8 u.kind,.int .i64 u.n,.string u.t,.slice an2 u.names.length cn2,.slice ai2 u.items.length ci2] 25):=⟨_,rfl⟩
     have hbx:Below wc.heap.size wc wd:=by rw [hwd];exact (Below.refl _ _).alloc lz _
     have HXU:=Lh (zJ hwd hbU)
     replace HB:=Lh (HB.out.trans (hbx.mono HB.out.size))
     replace HXR:=Lh ((hbx.block _ (qx HXR.out)).trans HXR.out)
     replace HXV:=Lh ((hbx.block _ (qx HXV.out)).trans HXV.out)
     replace HXX:=Lh ((hbx.block _ (qx HXX.out)).trans HXX.out)
     replace HI:=Lh (HI.out.below hbx lz lz hbx.size)
     replace HU:=Lh (HU.out.below hbx lz lz hbx.size)
     replace HJ:=Lh (HJ.out.below hbx lz lz hbx.size)
     replace HUU:=Lh (HUU.out.below hbx lz lz hbx.size)
     have Hwd:=Lh (And.intro hwd hbU)
     clear hbx hwd hbU
     go_upto_region 14 with fail
     rw [← Hwd.out.1,← Hwd.out.2]
     clear Hwd
     have HMC:=Lh (kD l2 rs2 t2 bits2 ids2 pre2 kb rb bb kd rd bd wd HJ.out HFX.out HRD.out (HTB.out wd HB.out))
     rw [HMX.out] at HMC
     obtain ⟨xX0,xX1,xX2,xX3,xX4,xX5⟩:=jE HXX.out
     go_wp2_with fail
     refine (HMC.out).mono ?_
     clear xX0 xX1 xX2 xX3 xX4 xX5
     rintro ee we ⟨rfl,hb⟩
     replace HB:=Lh (HB.out.trans (hb.mono HB.out.size))
     replace HXR:=Lh ((hb.block _ (qx HXR.out)).trans HXR.out)
     replace HXV:=Lh ((hb.block _ (qx HXV.out)).trans HXV.out)
     replace HXX:=Lh ((hb.block _ (qx HXX.out)).trans HXX.out)
     replace HXU:=Lh ((hb.block _ (qx HXU.out)).trans HXU.out)
     replace HI:=Lh (HI.out.below hb lz lz hb.size)
     replace HU:=Lh (HU.out.below hb lz lz hb.size)
     replace HJ:=Lh (HJ.out.below hb lz lz hb.size)
     replace HUU:=Lh (HUU.out.below hb lz lz hb.size)
     clear hb HMC
     have HSC:=Lh (dI 4294967296 u u _ _ 0 we.heap.size we HWU.out HWU.out lz lz HUU.out HU.out)
     rw [(JV.sameB_iff u u).2 rfl] at HSC
     obtain ⟨xU0,xU1,xU2,xU3,xU4⟩:=gA HXU.out
     obtain ⟨xV0,xV1,xV2,xV3,xV4⟩:=gA HXV.out
     go_wp2_with fail
     refine (HSC.out).mono ?_
     clear xU0 xU1 xU2 xU3 xU4
     clear xV0 xV1 xV2 xV3 xV4
     rintro ee wf ⟨rfl,hb⟩
     replace HB:=Lh (HB.out.trans (hb.mono HB.out.size))
     replace HXR:=Lh ((hb.block _ (qx HXR.out)).trans HXR.out)
     replace HXV:=Lh ((hb.block _ (qx HXV.out)).trans HXV.out)
     replace HXX:=Lh ((hb.block _ (qx HXX.out)).trans HXX.out)
     replace HXU:=Lh ((hb.block _ (qx HXU.out)).trans HXU.out)
     replace HI:=Lh (HI.out.below hb lz lz hb.size)
     replace HU:=Lh (HU.out.below hb lz lz hb.size)
     replace HJ:=Lh (HJ.out.below hb lz lz hb.size)
     replace HUU:=Lh (HUU.out.below hb lz lz hb.size)
     clear hb HSC
     have HBZ:=Lh (HB.out)
     go_wp2
     go_ret
     exact ⟨rfl,HBZ.out⟩
    case neg =>
     have hd:(er != 0)=true:=bne_iff_ne.2 hr0
     have hzz:=HE1.out hr0
     clear HE0 HE1 hrx
     obtain ⟨rfl,rfl,⟨rfl,rfl,⟨rfl,rfl⟩⟩⟩:l2=[]∧rs2=[]∧(bits2=0∧pre2=⟨#[]⟩∧(t2=0∧ids2=[])):=by simpa [delegsZ,binsZ,authZ] using hzz
     clear hzz
     dsimp only [List.length_nil] at HXX ⊢
     have HSC:=Lh (wy [] [] 0 0 [] ⟨#[]⟩ kb rb bb kd rd bd [] [] 0 0 [] ⟨#[]⟩ none none none 0 0 0 wb HJ.out (wY _ _ _) xV xV)
     rw [decide_eq_true rfl] at HSC
     obtain ⟨xX0,xX1,xX2,xX3,xX4,xX5⟩:=jE HXX.out
     go_wp2_with fail
     refine (HSC.out).mono ?_
     clear xX0 xX1 xX2 xX3 xX4 xX5
     rintro ee wc ⟨rfl,hb⟩
     replace HB:=Lh (HB.out.trans (hb.mono HB.out.size))
     replace HXR:=Lh ((hb.block _ (qx HXR.out)).trans HXR.out)
     replace HXV:=Lh ((hb.block _ (qx HXV.out)).trans HXV.out)
     replace HXX:=Lh ((hb.block _ (qx HXX.out)).trans HXX.out)
     replace HI:=Lh (HI.out.below hb lz lz hb.size)
     replace HU:=Lh (HU.out.below hb lz lz hb.size)
     replace HJ:=Lh (HJ.out.below hb lz lz hb.size)
     clear hb HSC
     have HBZ:=Lh (HB.out)
     go_wp2
     go_ret
     exact ⟨rfl,HBZ.out⟩
   case true =>
    have HR0:=Lh (vL HMB.out.symm)
    obtain ⟨xR0,xR1,xR2,xR3,xR4,xR5⟩:=jE HXR.out
    go_wp2_with fail
    refine (jI l rs t bits ids pre ka ra ba kc rc bc w5 HI.out HF.out HRC.out (HTB.out w5 HB.out)).mono ?_
    clear xR0 xR1 xR2 xR3 xR4 xR5
    rintro ee w6 ⟨an,cn,ai,ci,h4,hr,hb⟩
    rw [HR0.out] at h4 hr
    dsimp only at h4 hr
    obtain ⟨J,hJ⟩:∃J,J=qm ⟨l,rs,⟨bits,pre,⟨t,ids⟩⟩⟩:=⟨_,rfl⟩
    rw [← hJ] at h4 hr
    have HJE:=Lh hJ
    clear hJ HR0
    subst h4
    have HLO:=Lh (show 0<w5.heap.size from Nat.lt_of_lt_of_le HZ0.out HB.out.size)
    replace HB:=Lh (HB.out.trans (hb.mono HB.out.size))
    replace HXR:=Lh ((hb.block _ (qx HXR.out)).trans HXR.out)
    replace HXV:=Lh ((hb.block _ (qx HXV.out)).trans HXV.out)
    replace HI:=Lh (HI.out.below hb lz lz hb.size)
    replace HU:=Lh (HU.out.below hb lz lz hb.size)
    have HV:=Lh hr
    clear hr hb
    obtain ⟨bW,hbW⟩:∃bW,bW=w6.heap.size:=⟨_,rfl⟩
    obtain ⟨w7,hw7⟩:∃w7,w7=w6.alloc (.cells #[.int .u8 J.kind,.int .i64 J.n,.string J.t,.slice an J.names.length cn,.slice ai J.items.length ci] 25):=⟨_,rfl⟩
    have hbx:Below w6.heap.size w6 w7:=by rw [hw7];exact (Below.refl _ _).alloc lz _
    have HXW:=Lh (zJ hw7 hbW)
    replace HB:=Lh (HB.out.trans (hbx.mono HB.out.size))
    replace HXR:=Lh ((hbx.block _ (qx HXR.out)).trans HXR.out)
    replace HXV:=Lh ((hbx.block _ (qx HXV.out)).trans HXV.out)
    replace HI:=Lh (HI.out.below hbx lz lz hbx.size)
    replace HU:=Lh (HU.out.below hbx lz lz hbx.size)
    replace HV:=Lh (HV.out.below hbx lz lz hbx.size)
    have Hw7:=Lh (And.intro hw7 hbW)
    clear hbx hw7 hbW
    go_upto_region 4 with fail
    rw [← Hw7.out.1,← Hw7.out.2]
    clear Hw7
    have HMC:=Lh (kD l rs t bits ids pre ka ra ba kc rc bc w7 HI.out HF.out HRC.out (HTB.out w7 HB.out))
    rw [← HMB.out] at HMC
    obtain ⟨xR0,xR1,xR2,xR3,xR4,xR5⟩:=jE HXR.out
    go_wp2_with fail
    refine (HMC.out).mono ?_
    clear xR0 xR1 xR2 xR3 xR4 xR5
    rintro ee w8 ⟨rfl,hb⟩
    replace HB:=Lh (HB.out.trans (hb.mono HB.out.size))
    replace HXR:=Lh ((hb.block _ (qx HXR.out)).trans HXR.out)
    replace HXV:=Lh ((hb.block _ (qx HXV.out)).trans HXV.out)
    replace HXW:=Lh ((hb.block _ (qx HXW.out)).trans HXW.out)
    replace HI:=Lh (HI.out.below hb lz lz hb.size)
    replace HU:=Lh (HU.out.below hb lz lz hb.size)
    replace HV:=Lh (HV.out.below hb lz lz hb.size)
    clear hb HMC
    have HOF:=Lh (gS J _ w8 w5.heap.size HLO.out (by rw [HJE.out];exact wT (by rw [← zQ];exact HMB.out.symm)) HV.out (HTB.out w8 HB.out))
    rw [HJE.out,gP HMB.out.symm,← HJE.out] at HOF
    obtain ⟨xW0,xW1,xW2,xW3,xW4⟩:=gA HXW.out
    go_wp2_with fail
    refine (HOF.out).mono ?_
    clear xW0 xW1 xW2 xW3 xW4
    rintro ee w9 ⟨kb,kd,rb,rd,bb,bd,h4,hrd,hi,hb⟩
    dsimp only at h4 hi hrd
    subst h4
    clear HOF hrd
    replace HB:=Lh (HB.out.trans (hb.mono HB.out.size))
    replace HXR:=Lh ((hb.block _ (qx HXR.out)).trans HXR.out)
    replace HXV:=Lh ((hb.block _ (qx HXV.out)).trans HXV.out)
    replace HXW:=Lh ((hb.block _ (qx HXW.out)).trans HXW.out)
    replace HI:=Lh (HI.out.below hb lz lz hb.size)
    replace HU:=Lh (HU.out.below hb lz lz hb.size)
    replace HV:=Lh (HV.out.below hb lz lz hb.size)
    have HY:=Lh (hi.carry (Nat.zero_le _) lz (fun _ _ _=>rfl))
    clear hi hb
    obtain ⟨bY,hbY⟩:∃bY,bY=w9.heap.size:=⟨_,rfl⟩
    obtain ⟨w10,hw10⟩:∃w10,w10=w9.alloc (.cells #[.slice kb l.length kd,.slice rb rs.length rd,.int .i64 t,.slice bb ids.length bd,.int .i64 bits,.string pre] 35):=⟨_,rfl⟩
    have hbx:Below w9.heap.size w9 w10:=by rw [hw10];exact (Below.refl _ _).alloc lz _
    have HXY:=Lh (zJ hw10 hbY)
    replace HB:=Lh (HB.out.trans (hbx.mono HB.out.size))
    replace HXR:=Lh ((hbx.block _ (qx HXR.out)).trans HXR.out)
    replace HXV:=Lh ((hbx.block _ (qx HXV.out)).trans HXV.out)
    replace HXW:=Lh ((hbx.block _ (qx HXW.out)).trans HXW.out)
    replace HI:=Lh (HI.out.below hbx lz lz hbx.size)
    replace HU:=Lh (HU.out.below hbx lz lz hbx.size)
    replace HV:=Lh (HV.out.below hbx lz lz hbx.size)
    replace HY:=Lh (HY.out.below hbx lz lz hbx.size)
    have Hw10:=Lh (And.intro hw10 hbY)
    clear hbx hw10 hbY
    go_upto_region 8 with fail
    rw [← Hw10.out.1,← Hw10.out.2]
    clear Hw10
    have HSC:=Lh (nl l rs t bits ids pre kb rb bb kd rd bd l rs t bits ids pre ka ra ba kc rc bc w10 HY.out HI.out HF.out HF.out)
    rw [decide_eq_true rfl] at HSC
    obtain ⟨xY0,xY1,xY2,xY3,xY4,xY5⟩:=jE HXY.out
    obtain ⟨xR0,xR1,xR2,xR3,xR4,xR5⟩:=jE HXR.out
    go_wp2_with fail
    refine (HSC.out).mono ?_
    clear xY0 xY1 xY2 xY3 xY4 xY5
    clear xR0 xR1 xR2 xR3 xR4 xR5
    rintro ee w11 ⟨rfl,hb⟩
    replace HB:=Lh (HB.out.trans (hb.mono HB.out.size))
    replace HXR:=Lh ((hb.block _ (qx HXR.out)).trans HXR.out)
    replace HXV:=Lh ((hb.block _ (qx HXV.out)).trans HXV.out)
    replace HXW:=Lh ((hb.block _ (qx HXW.out)).trans HXW.out)
    replace HXY:=Lh ((hb.block _ (qx HXY.out)).trans HXY.out)
    replace HI:=Lh (HI.out.below hb lz lz hb.size)
    replace HU:=Lh (HU.out.below hb lz lz hb.size)
    replace HV:=Lh (HV.out.below hb lz lz hb.size)
    replace HY:=Lh (HY.out.below hb lz lz hb.size)
    clear hb HSC
    have HSC:=Lh (wy l rs t bits ids pre kb rb bb kd rd bd l rs t bits ids pre ka ra ba kc rc bc w11 HY.out HI.out HF.out HF.out)
    rw [decide_eq_true rfl] at HSC
    obtain ⟨xY0,xY1,xY2,xY3,xY4,xY5⟩:=jE HXY.out
    obtain ⟨xR0,xR1,xR2,xR3,xR4,xR5⟩:=jE HXR.out
    go_wp2_with fail
    refine (HSC.out).mono ?_
    clear xY0 xY1 xY2 xY3 xY4 xY5
    clear xR0 xR1 xR2 xR3 xR4 xR5
    rintro ee w12 ⟨rfl,hb⟩
    replace HB:=Lh (HB.out.trans (hb.mono HB.out.size))
    replace HXR:=Lh ((hb.block _ (qx HXR.out)).trans HXR.out)
    replace HXV:=Lh ((hb.block _ (qx HXV.out)).trans HXV.out)
    replace HXW:=Lh ((hb.block _ (qx HXW.out)).trans HXW.out)
    replace HXY:=Lh ((hb.block _ (qx HXY.out)).trans HXY.out)
    replace HI:=Lh (HI.out.below hb lz lz hb.size)
    replace HU:=Lh (HU.out.below hb lz lz hb.size)
    replace HV:=Lh (HV.out.below hb lz lz hb.size)
    replace HY:=Lh (HY.out.below hb lz lz hb.size)
    clear hb HSC HY HXY HV HXW
    obtain ⟨xV0,xV1,xV2,xV3,xV4⟩:=gA HXV.out
    go_wp2_with fail
    refine (pF u _ w12 HWU.out HU.out (HTB.out w12 HB.out)).mono ?_
    clear xV0 xV1 xV2 xV3 xV4
    rintro ee wa ⟨⟨l2,rs2,⟨bits2,pre2,⟨t2,ids2⟩⟩⟩,er,⟨kb,kd,rb,rd,bb,bd,h4,hrd,hi,hb⟩,hz0,hz1⟩
    dsimp only at h4 hrd
    subst h4
    replace HB:=Lh (HB.out.trans (hb.mono HB.out.size))
    replace HXR:=Lh ((hb.block _ (qx HXR.out)).trans HXR.out)
    replace HXV:=Lh ((hb.block _ (qx HXV.out)).trans HXV.out)
    replace HI:=Lh (HI.out.below hb lz lz hb.size)
    replace HU:=Lh (HU.out.below hb lz lz hb.size)
    have HJ:=Lh (hi.carry (Nat.zero_le _) lz (fun _ _ _=>rfl))
    have HE0:=Lh hz0
    have HE1:=Lh hz1
    have HRD:=Lh hrd
    clear hi hb hz0 hz1 hrd
    obtain ⟨rx,hrx⟩:∃rx:DelegsV,rx=⟨l2,rs2,⟨bits2,pre2,⟨t2,ids2⟩⟩⟩:=⟨_,rfl⟩
    dsimp only at HJ
    obtain ⟨bX,hbX⟩:∃bX,bX=wa.heap.size:=⟨_,rfl⟩
    obtain ⟨wb,hwb⟩:∃wb,wb=wa.alloc (.cells #[.slice kb l2.length kd,.slice rb rs2.length rd,.int .i64 t2,.slice bb ids2.length bd,.int .i64 bits2,.string pre2] 35):=⟨_,rfl⟩
    have hbx:Below wa.heap.size wa wb:=by rw [hwb];exact (Below.refl _ _).alloc lz _
    have HXX:=Lh (zJ hwb hbX)
    replace HB:=Lh (HB.out.trans (hbx.mono HB.out.size))
    replace HXR:=Lh ((hbx.block _ (qx HXR.out)).trans HXR.out)
    replace HXV:=Lh ((hbx.block _ (qx HXV.out)).trans HXV.out)
    replace HI:=Lh (HI.out.below hbx lz lz hbx.size)
    replace HU:=Lh (HU.out.below hbx lz lz hbx.size)
    replace HJ:=Lh (HJ.out.below hbx lz lz hbx.size)
    have Hwb:=Lh (And.intro hwb hbX)
    clear hbx hwb hbX
    go_upto_region 11 with fail
    rw [← Hwb.out.1,← Hwb.out.2]
    clear Hwb
    by_cases hr0:er=0
    case pos =>
     subst hr0
     obtain ⟨hu,hmx⟩:=HE0.out rfl
     have HMX:=Lh hmx
     have HUE:=Lh hu
     have HFX:=Lh (vD hmx)
     clear hu hmx HE0 HE1 hrx
     obtain ⟨xX0,xX1,xX2,xX3,xX4,xX5⟩:=jE HXX.out
     go_wp2_with fail
     refine (jI l2 rs2 t2 bits2 ids2 pre2 kb rb bb kd rd bd wb HJ.out HFX.out HRD.out (HTB.out wb HB.out)).mono ?_
     clear xX0 xX1 xX2 xX3 xX4 xX5
     rintro ee wc ⟨an2,cn2,ai2,ci2,h4,hr,hb⟩
     rw [vL HMX.out] at h4 hr
     dsimp only at h4 hr
     rw [← HUE.out] at h4 hr
     subst h4
     replace HB:=Lh (HB.out.trans (hb.mono HB.out.size))
     replace HXR:=Lh ((hb.block _ (qx HXR.out)).trans HXR.out)
     replace HXV:=Lh ((hb.block _ (qx HXV.out)).trans HXV.out)
     replace HXX:=Lh ((hb.block _ (qx HXX.out)).trans HXX.out)
     replace HI:=Lh (HI.out.below hb lz lz hb.size)
     replace HU:=Lh (HU.out.below hb lz lz hb.size)
     replace HJ:=Lh (HJ.out.below hb lz lz hb.size)
     have HUU:=Lh (hr.carry (Nat.zero_le _) lz (fun _ _ _=>rfl))
     clear hr hb
     obtain ⟨bU,hbU⟩:∃bU,bU=wc.heap.size:=⟨_,rfl⟩
     obtain ⟨wd,hwd⟩:∃wd,wd=wc.alloc (.cells #[.int .u8 u.kind,.int .i64 u.n,.string u.t,.slice an2 u.names.length cn2,.slice ai2 u.items.length ci2] 25):=⟨_,rfl⟩
     have hbx:Below wc.heap.size wc wd:=by rw [hwd];exact (Below.refl _ _).alloc lz _
     have HXU:=Lh (zJ hwd hbU)
     replace HB:=Lh (HB.out.trans (hbx.mono HB.out.size))
     replace HXR:=Lh ((hbx.block _ (qx HXR.out)).trans HXR.out)
     replace HXV:=Lh ((hbx.block _ (qx HXV.out)).trans HXV.out)
     replace HXX:=Lh ((hbx.block _ (qx HXX.out)).trans HXX.out)
     replace HI:=Lh (HI.out.below hbx lz lz hbx.size)
     replace HU:=Lh (HU.out.below hbx lz lz hbx.size)
     replace HJ:=Lh (HJ.out.below hbx lz lz hbx.size)
     replace HUU:=Lh (HUU.out.below hbx lz lz hbx.size)
     have Hwd:=Lh (And.intro hwd hbU)
     clear hbx hwd hbU
     go_upto_region 14 with fail
     rw [← Hwd.out.1,← Hwd.out.2]
     clear Hwd
     have HMC:=Lh (kD l2 rs2 t2 bits2 ids2 pre2 kb rb bb kd rd bd wd HJ.out HFX.out HRD.out (HTB.out wd HB.out))
     rw [HMX.out] at HMC
     obtain ⟨xX0,xX1,xX2,xX3,xX4,xX5⟩:=jE HXX.out
     go_wp2_with fail
     refine (HMC.out).mono ?_
     clear xX0 xX1 xX2 xX3 xX4 xX5
     rintro ee we ⟨rfl,hb⟩
     replace HB:=Lh (HB.out.trans (hb.mono HB.out.size))
     replace HXR:=Lh ((hb.block _ (qx HXR.out)).trans HXR.out)
     replace HXV:=Lh ((hb.block _ (qx HXV.out)).trans HXV.out)
     replace HXX:=Lh ((hb.block _ (qx HXX.out)).trans HXX.out)
     replace HXU:=Lh ((hb.block _ (qx HXU.out)).trans HXU.out)
     replace HI:=Lh (HI.out.below hb lz lz hb.size)
     replace HU:=Lh (HU.out.below hb lz lz hb.size)
     replace HJ:=Lh (HJ.out.below hb lz lz hb.size)
     replace HUU:=Lh (HUU.out.below hb lz lz hb.size)
     clear hb HMC
     have HSC:=Lh (dI 4294967296 u u _ _ 0 we.heap.size we HWU.out HWU.out lz lz HUU.out HU.out)
     rw [(JV.sameB_iff u u).2 rfl] at HSC
     obtain ⟨xU0,xU1,xU2,xU3,xU4⟩:=gA HXU.out
     obtain ⟨xV0,xV1,xV2,xV3,xV4⟩:=gA HXV.out
     go_wp2_with fail
     refine (HSC.out).mono ?_
     clear xU0 xU1 xU2 xU3 xU4
     clear xV0 xV1 xV2 xV3 xV4
     rintro ee wf ⟨rfl,hb⟩
     replace HB:=Lh (HB.out.trans (hb.mono HB.out.size))
     replace HXR:=Lh ((hb.block _ (qx HXR.out)).trans HXR.out)
     replace HXV:=Lh ((hb.block _ (qx HXV.out)).trans HXV.out)
     replace HXX:=Lh ((hb.block _ (qx HXX.out)).trans HXX.out)
     replace HXU:=Lh ((hb.block _ (qx HXU.out)).trans HXU.out)
     replace HI:=Lh (HI.out.below hb lz lz hb.size)
     replace HU:=Lh (HU.out.below hb lz lz hb.size)
     replace HJ:=Lh (HJ.out.below hb lz lz hb.size)
     replace HUU:=Lh (HUU.out.below hb lz lz hb.size)
     clear hb HSC
     have HBZ:=Lh (HB.out)
     go_wp2
     go_ret
     exact ⟨rfl,HBZ.out⟩
    case neg =>
     have hd:(er != 0)=true:=bne_iff_ne.2 hr0
     have hzz:=HE1.out hr0
     clear HE0 HE1 hrx
     obtain ⟨rfl,rfl,⟨rfl,rfl,⟨rfl,rfl⟩⟩⟩:l2=[]∧rs2=[]∧(bits2=0∧pre2=⟨#[]⟩∧(t2=0∧ids2=[])):=by simpa [delegsZ,binsZ,authZ] using hzz
     clear hzz
     dsimp only [List.length_nil] at HXX ⊢
     have HSC:=Lh (wy [] [] 0 0 [] ⟨#[]⟩ kb rb bb kd rd bd [] [] 0 0 [] ⟨#[]⟩ none none none 0 0 0 wb HJ.out (wY _ _ _) xV xV)
     rw [decide_eq_true rfl] at HSC
     obtain ⟨xX0,xX1,xX2,xX3,xX4,xX5⟩:=jE HXX.out
     go_wp2_with fail
     refine (HSC.out).mono ?_
     clear xX0 xX1 xX2 xX3 xX4 xX5
     rintro ee wc ⟨rfl,hb⟩
     replace HB:=Lh (HB.out.trans (hb.mono HB.out.size))
     replace HXR:=Lh ((hb.block _ (qx HXR.out)).trans HXR.out)
     replace HXV:=Lh ((hb.block _ (qx HXV.out)).trans HXV.out)
     replace HXX:=Lh ((hb.block _ (qx HXX.out)).trans HXX.out)
     replace HI:=Lh (HI.out.below hb lz lz hb.size)
     replace HU:=Lh (HU.out.below hb lz lz hb.size)
     replace HJ:=Lh (HJ.out.below hb lz lz hb.size)
     clear hb HSC
     have HBZ:=Lh (HB.out)
     go_wp2
     go_ret
     exact ⟨rfl,HBZ.out⟩
end Go.Proofs.YthgembbgcbaghaaGreatDoor
