/- The law RootTells: the call returns true. Printed by genroottells.py. -/
import Derived.Test.YtnlgmcapbbgelaaGreatDoorRt43
import Derived.Test.YtnlgmcapbbgelaaGreatDoorRt45

namespace Go.Proofs.YtnlgmcapbbgelaaGreatDoor
open Go.RowKit Go.Shelf Go.Sort
theorem iu {w:World} {b T:Nat} {a0 a1:Value} (h:w.heap[b]?=some (.cells #[a0,a1] T (0,0))):w.cell? ⟨b,0,none⟩=some a0∧w.cell? ⟨b,1,none⟩=some a1:=⟨qq h rfl,qq h rfl⟩
theorem im {w:World} {b T:Nat} {a0 a1 a2 a3 a4:Value} (h:w.heap[b]?=some (.cells #[a0,a1,a2,a3,a4] T (0,0))):w.cell? ⟨b,0,none⟩=some a0∧w.cell? ⟨b,1,none⟩=some a1∧w.cell? ⟨b,2,none⟩=some a2∧w.cell? ⟨b,3,none⟩=some a3∧w.cell? ⟨b,4,none⟩=some a4:=⟨qq h rfl,qq h rfl,qq h rfl,qq h rfl,qq h rfl⟩
theorem kr {w:World} {b T:Nat} {a0 a1 a2 a3 a4 a5 a6 a7 a8:Value} (h:w.heap[b]?=some (.cells #[a0,a1,a2,a3,a4,a5,a6,a7,a8] T (0,0))):w.cell? ⟨b,0,none⟩=some a0∧w.cell? ⟨b,1,none⟩=some a1∧w.cell? ⟨b,2,none⟩=some a2∧w.cell? ⟨b,3,none⟩=some a3∧w.cell? ⟨b,4,none⟩=some a4∧w.cell? ⟨b,5,none⟩=some a5∧w.cell? ⟨b,6,none⟩=some a6∧w.cell? ⟨b,7,none⟩=some a7∧w.cell? ⟨b,8,none⟩=some a8:=⟨qq h rfl,qq h rfl,qq h rfl,qq h rfl,qq h rfl,qq h rfl,qq h rfl,qq h rfl,qq h rfl⟩
theorem aC {r:RootV}:(kx r).1.wt≤4294967296:=by
 unfold kx
 split
 · rename_i h;exact Nat.le_trans (sB h) (by decide)
 · decide
theorem mz {r:RootV} (hf:RootFits r) (role:ByteArray):(zP r role).1.ids.length≤4294967296:=by
 unfold zP
 split
 · exact hf.a.2.1
 · split
   · exact hf.b.2.1
   · split
     · exact hf.c.2.1
     · exact Nat.zero_le _
set_option maxHeartbeats 8000000 in
set_option maxRecDepth 100000 in
theorem mx (v e:Int) (l:List Key2) (t1 t2 t3:Int) (d1 d2 d3:List ByteArray) (ka i1 i2 i3:Option Addr) (kc c1 c2 c3:Nat) (v2 e2:Int) (l2:List Key2) (u1 u2 u3:Int) (f1 f2 f3:List ByteArray) (kb h1 h2 h3:Option Addr) (kd g1 g2 g3:Nat) (role:ByteArray) (w:World) (hI:RootIn w 0 w.heap.size ⟨v,e,l,⟨⟨t1,d1⟩,⟨t2,d2⟩,⟨t3,d3⟩⟩⟩ ka i1 i2 i3) (hJ:RootIn w 0 w.heap.size ⟨v2,e2,l2,⟨⟨u1,f1⟩,⟨u2,f2⟩,⟨u3,f3⟩⟩⟩ kb h1 h2 h3)
 (hl:l.length≤9223372036854775807) (l1:d1.length≤9223372036854775807) (ll2:d2.length≤9223372036854775807) (l3:d3.length≤9223372036854775807) (hm:l2.length≤9223372036854775807) (m1:f1.length≤9223372036854775807) (m2:f2.length≤9223372036854775807) (m3:f3.length≤9223372036854775807)
 (hbd:(-9223372036854775808≤v∧v≤9223372036854775807)∧(-9223372036854775808≤e∧e≤9223372036854775807)∧(-9223372036854775808≤t1∧t1≤9223372036854775807)∧(-9223372036854775808≤t2∧t2≤9223372036854775807)∧(-9223372036854775808≤t3∧t3≤9223372036854775807)) (hbx:(-9223372036854775808≤v2∧v2≤9223372036854775807)∧(-9223372036854775808≤e2∧e2≤9223372036854775807)∧(-9223372036854775808≤u1∧u1≤9223372036854775807)∧(-9223372036854775808≤u2∧u2≤9223372036854775807)∧(-9223372036854775808≤u3∧u3≤9223372036854775807)) (hT:Tabs w) (hTW:TabW w) (hP:js w) (hTP:TopsW w) :
 Calls Tryz.prog 7 #[.agg #[.int .i64 v,.int .i64 e,.slice ka l.length kc,.int .i64 t1,.slice i1 d1.length c1,.int .i64 t2,.slice i2 d2.length c2,.int .i64 t3,.slice i3 d3.length c3],.agg #[.int .i64 v2,.int .i64 e2,.slice kb l2.length kd,.int .i64 u1,.slice h1 f1.length g1,.int .i64 u2,.slice h2 f2.length g2,.int .i64 u3,.slice h3 f3.length g3],.string role] w fun e w'=>e=.returned (.bool true)∧Below w.heap.size w w':=by
 have HTB:=Lh (show ∀w':World,Below w.heap.size w w'→Tabs w'∧TabW w'∧js w'∧TopsW w' from fun w' h=>⟨hT.below h,hTW.below h,hP.below h,hTP.below h⟩)
 have HB:=Lh (Below.refl w.heap.size w)
 have HI:=Lh hI
 have HJ:=Lh hJ
 have HBD:=Lh hbd
 have HBX:=Lh hbx
 clear hT hTW hP hTP hI hJ hbd hbx
 go_enter Tryz.func7,Tryz.ntmps7
 obtain ⟨bR,hbR⟩:∃bR,bR=w.heap.size:=⟨_,rfl⟩
 obtain ⟨w1,hw1⟩:∃w1,w1=w.alloc (.cells #[.int .i64 v,.int .i64 e,.slice ka l.length kc,.int .i64 t1,.slice i1 d1.length c1,.int .i64 t2,.slice i2 d2.length c2,.int .i64 t3,.slice i3 d3.length c3] 32):=⟨_,rfl⟩
 have hbx:Below w.heap.size w w1:=by rw [hw1];exact (Below.refl _ _).alloc lz _
 have HXR:=Lh (xA hw1 hbR)
 replace HB:=Lh (HB.out.trans (hbx.mono HB.out.size))
 replace HI:=Lh (HI.out.below hbx lz lz hbx.size)
 replace HJ:=Lh (HJ.out.below hbx lz lz hbx.size)
 have Hw1:=Lh (And.intro hw1 hbR)
 clear hbx hw1 hbR
 obtain ⟨bX,hbX⟩:∃bX,bX=w1.heap.size:=⟨_,rfl⟩
 obtain ⟨w2,hw2⟩:∃w2,w2=w1.alloc (.cells #[.int .i64 v2,.int .i64 e2,.slice kb l2.length kd,.int .i64 u1,.slice h1 f1.length g1,.int .i64 u2,.slice h2 f2.length g2,.int .i64 u3,.slice h3 f3.length g3] 32):=⟨_,rfl⟩
 have hbx:Below w1.heap.size w1 w2:=by rw [hw2];exact (Below.refl _ _).alloc lz _
 have HXX:=Lh (xA hw2 hbX)
 replace HB:=Lh (HB.out.trans (hbx.mono HB.out.size))
 replace HXR:=Lh ((hbx.block _ (qz HXR.out)).trans HXR.out)
 replace HI:=Lh (HI.out.below hbx lz lz hbx.size)
 replace HJ:=Lh (HJ.out.below hbx lz lz hbx.size)
 have Hw2:=Lh (And.intro hw2 hbX)
 clear hbx hw2 hbX
 go_upto_region 1 with fail
 rw [← Hw1.out.1,← Hw2.out.1,← Hw1.out.2,show bR+1=bX by rw [Hw2.out.2,Hw1.out.1,Hw1.out.2];simp]
 clear Hw1 Hw2
 obtain ⟨xR0,xR1,xR2,xR3,xR4,xR5,xR6,xR7,xR8⟩:=kr HXR.out
 go_wp2_with fail
 refine (fI v e l t1 t2 t3 d1 d2 d3 ka i1 i2 i3 kc c1 c2 c3 w2 HI.out hl l1 ll2 l3).mono ?_
 clear xR0 xR1 xR2 xR3 xR4 xR5 xR6 xR7 xR8
 rintro ee w3 ⟨b,rfl,hn,hb⟩
 replace HB:=Lh (HB.out.trans (hb.mono HB.out.size))
 replace HXR:=Lh ((hb.block _ (qz HXR.out)).trans HXR.out)
 replace HXX:=Lh ((hb.block _ (qz HXX.out)).trans HXX.out)
 replace HI:=Lh (HI.out.below hb lz lz hb.size)
 replace HJ:=Lh (HJ.out.below hb lz lz hb.size)
 have HN:=Lh hn
 clear hn hb
 cases b
 case true =>
  go_wp2_with fail
  refine (vu w3 (HTB.out w3 HB.out).1 (HTB.out w3 HB.out).2.1 (HTB.out w3 HB.out).2.2.1 (HTB.out w3 HB.out).2.2.2).mono ?_
  rintro ee wz ⟨rfl,hz⟩
  have HBZ:=Lh (HB.out.trans (hz.mono HB.out.size))
  clear hz
  go_wp2
  go_ret
  exact ⟨rfl,HBZ.out⟩
 case false =>
  have HF:=Lh (wK (HN.out rfl) HBD.out.1 HBD.out.2.1 HBD.out.2.2.1 HBD.out.2.2.2.1 HBD.out.2.2.2.2)
  clear HN
  obtain ⟨xX0,xX1,xX2,xX3,xX4,xX5,xX6,xX7,xX8⟩:=kr HXX.out
  go_wp2_with fail
  refine (fI v2 e2 l2 u1 u2 u3 f1 f2 f3 kb h1 h2 h3 kd g1 g2 g3 w3 HJ.out hm m1 m2 m3).mono ?_
  clear xX0 xX1 xX2 xX3 xX4 xX5 xX6 xX7 xX8
  rintro ee w4 ⟨b,rfl,hn,hb⟩
  replace HB:=Lh (HB.out.trans (hb.mono HB.out.size))
  replace HXR:=Lh ((hb.block _ (qz HXR.out)).trans HXR.out)
  replace HXX:=Lh ((hb.block _ (qz HXX.out)).trans HXX.out)
  replace HI:=Lh (HI.out.below hb lz lz hb.size)
  replace HJ:=Lh (HJ.out.below hb lz lz hb.size)
  have HN:=Lh hn
  clear hn hb
  cases b
  case true =>
   go_wp2_with fail
   refine (vu w4 (HTB.out w4 HB.out).1 (HTB.out w4 HB.out).2.1 (HTB.out w4 HB.out).2.2.1 (HTB.out w4 HB.out).2.2.2).mono ?_
   rintro ee wz ⟨rfl,hz⟩
   have HBZ:=Lh (HB.out.trans (hz.mono HB.out.size))
   clear hz
   go_wp2
   go_ret
   exact ⟨rfl,HBZ.out⟩
  case false =>
   have HG:=Lh (wK (HN.out rfl) HBX.out.1 HBX.out.2.1 HBX.out.2.2.1 HBX.out.2.2.2.1 HBX.out.2.2.2.2)
   clear HN HBD HBX
   by_cases hns:300<role.size
   case pos =>
    have a1:decide ((300:Int)<role.size)=true:=decide_eq_true (by omega)
    go_wp2_with fail
    refine (vu w4 (HTB.out w4 HB.out).1 (HTB.out w4 HB.out).2.1 (HTB.out w4 HB.out).2.2.1 (HTB.out w4 HB.out).2.2.2).mono ?_
    rintro ee wz ⟨rfl,hz⟩
    have HBZ:=Lh (HB.out.trans (hz.mono HB.out.size))
    clear hz
    go_wp2
    go_ret
    exact ⟨rfl,HBZ.out⟩
   case neg =>
    have a1:decide ((300:Int)<role.size)=false:=decide_eq_false (by omega)
    clear hns
    go_upto_region 3 with fail
    clear a1
    obtain ⟨r0,hr0⟩:∃r0,r0=kx ⟨v,e,l,⟨⟨t1,d1⟩,⟨t2,d2⟩,⟨t3,d3⟩⟩⟩:=⟨_,rfl⟩
    have HV1:=Lh (up v e l t1 t2 t3 d1 d2 d3 ka i1 i2 i3 kc c1 c2 c3 w4 HI.out HF.out (HTB.out w4 HB.out).1 (HTB.out w4 HB.out).2.1 (HTB.out w4 HB.out).2.2.1 (HTB.out w4 HB.out).2.2.2)
    have HV2:=Lh (show ∀w':World,Below w4.heap.size w4 w'→Calls Tryz.prog 34 #[.agg #[.int .i64 v,.int .i64 e,.slice ka l.length kc,.int .i64 t1,.slice i1 d1.length c1,.int .i64 t2,.slice i2 d2.length c2,.int .i64 t3,.slice i3 d3.length c3]] w' (fs r0 w') from fun w' h=>by rw [hr0];exact lw v e l t1 t2 t3 d1 d2 d3 ka i1 i2 i3 kc c1 c2 c3 w' (HI.out.below h lz lz h.size) HF.out)
    have HWT:=Lh (show r0.1.wt≤4294967296 by rw [hr0];exact aC)
    rw [← hr0] at HV1
    clear hr0
    obtain ⟨J,KE⟩:=r0
    obtain ⟨x0,hx0⟩:∃x0,x0=zP ⟨v,e,l,⟨⟨t1,d1⟩,⟨t2,d2⟩,⟨t3,d3⟩⟩⟩ role:=⟨_,rfl⟩
    have HA1:=Lh (show ∀w':World,Below w4.heap.size w4 w'→Calls Tryz.prog 30 #[.agg #[.int .i64 v,.int .i64 e,.slice ka l.length kc,.int .i64 t1,.slice i1 d1.length c1,.int .i64 t2,.slice i2 d2.length c2,.int .i64 t3,.slice i3 d3.length c3],.string role] w' (uq x0 w')∧Calls Tryz.prog 35 #[.agg #[.int .i64 v,.int .i64 e,.slice ka l.length kc,.int .i64 t1,.slice i1 d1.length c1,.int .i64 t2,.slice i2 d2.length c2,.int .i64 t3,.slice i3 d3.length c3],.string role] w' (uw x0 w') from fun w' h=>by
     have hi:=HI.out.below (lo':=0) (hi':=w'.heap.size) h lz lz h.size
     rw [hx0]
     exact ⟨gj v e l t1 t2 t3 d1 d2 d3 ka i1 i2 i3 kc c1 c2 c3 role w' hi HF.out (HTB.out w' (HB.out.trans (h.mono HB.out.size))).2.2.2,nK v e l t1 t2 t3 d1 d2 d3 ka i1 i2 i3 kc c1 c2 c3 role w' hi⟩)
    have HAL:=Lh (show x0.1.ids.length≤4294967296 by rw [hx0];exact mz HF.out role)
    clear hx0
    obtain ⟨AU,is⟩:=x0
    dsimp only at HAL
    have HB4:=Lh (Below.refl w4.heap.size w4)
    obtain ⟨xR0,xR1,xR2,xR3,xR4,xR5,xR6,xR7,xR8⟩:=kr HXR.out
    go_wp2_with fail
    refine (HV1.out).mono ?_
    clear xR0 xR1 xR2 xR3 xR4 xR5 xR6 xR7 xR8
    rintro ee w5 ⟨fan,fcn,fai,fci,rfl,hr,hb⟩
    dsimp only at hr ⊢
    replace HB:=Lh (HB.out.trans (hb.mono HB.out.size))
    replace HXR:=Lh ((hb.block _ (qz HXR.out)).trans HXR.out)
    replace HXX:=Lh ((hb.block _ (qz HXX.out)).trans HXX.out)
    replace HI:=Lh (HI.out.below hb lz lz hb.size)
    replace HJ:=Lh (HJ.out.below hb lz lz hb.size)
    replace HB4:=Lh (HB4.out.trans (hb.mono HB4.out.size))
    have HJ1:=Lh (hr.carry (Nat.zero_le _) lz (fun _ _ _=>rfl))
    clear hr hb HV1
    obtain ⟨bV,hbV⟩:∃bV,bV=w5.heap.size:=⟨_,rfl⟩
    obtain ⟨w6,hw6⟩:∃w6,w6=w5.alloc (.cells #[.int .u8 J.kind,.int .i64 J.n,.string J.t,.slice fan J.names.length fcn,.slice fai J.items.length fci] 25):=⟨_,rfl⟩
    have hbx:Below w5.heap.size w5 w6:=by rw [hw6];exact (Below.refl _ _).alloc lz _
    have HXV:=Lh (xA hw6 hbV)
    replace HB:=Lh (HB.out.trans (hbx.mono HB.out.size))
    replace HXR:=Lh ((hbx.block _ (qz HXR.out)).trans HXR.out)
    replace HXX:=Lh ((hbx.block _ (qz HXX.out)).trans HXX.out)
    replace HI:=Lh (HI.out.below hbx lz lz hbx.size)
    replace HJ:=Lh (HJ.out.below hbx lz lz hbx.size)
    replace HJ1:=Lh (HJ1.out.below hbx lz lz hbx.size)
    replace HB4:=Lh (HB4.out.trans (hbx.mono HB4.out.size))
    have Hw6:=Lh (And.intro hw6 hbV)
    clear hbx hw6 hbV
    go_upto_region 4 with fail
    rw [← Hw6.out.1,← Hw6.out.2]
    clear Hw6
    obtain ⟨xR0,xR1,xR2,xR3,xR4,xR5,xR6,xR7,xR8⟩:=kr HXR.out
    go_wp2_with fail
    refine (HV2.out w6 HB4.out).mono ?_
    clear xR0 xR1 xR2 xR3 xR4 xR5 xR6 xR7 xR8
    rintro ee w7 ⟨gan,gcn,gai,gci,rfl,hr,hb⟩
    dsimp only at hr ⊢
    replace HB:=Lh (HB.out.trans (hb.mono HB.out.size))
    replace HXR:=Lh ((hb.block _ (qz HXR.out)).trans HXR.out)
    replace HXX:=Lh ((hb.block _ (qz HXX.out)).trans HXX.out)
    replace HXV:=Lh ((hb.block _ (qz HXV.out)).trans HXV.out)
    replace HI:=Lh (HI.out.below hb lz lz hb.size)
    replace HJ:=Lh (HJ.out.below hb lz lz hb.size)
    replace HJ1:=Lh (HJ1.out.below hb lz lz hb.size)
    replace HB4:=Lh (HB4.out.trans (hb.mono HB4.out.size))
    have HJ2:=Lh (hr.carry (Nat.zero_le _) lz (fun _ _ _=>rfl))
    clear hr hb HV2
    obtain ⟨bW,hbW⟩:∃bW,bW=w7.heap.size:=⟨_,rfl⟩
    obtain ⟨w8,hw8⟩:∃w8,w8=w7.alloc (.cells #[.int .u8 J.kind,.int .i64 J.n,.string J.t,.slice gan J.names.length gcn,.slice gai J.items.length gci] 25):=⟨_,rfl⟩
    have hbx:Below w7.heap.size w7 w8:=by rw [hw8];exact (Below.refl _ _).alloc lz _
    have HXW:=Lh (xA hw8 hbW)
    replace HB:=Lh (HB.out.trans (hbx.mono HB.out.size))
    replace HXR:=Lh ((hbx.block _ (qz HXR.out)).trans HXR.out)
    replace HXX:=Lh ((hbx.block _ (qz HXX.out)).trans HXX.out)
    replace HXV:=Lh ((hbx.block _ (qz HXV.out)).trans HXV.out)
    replace HI:=Lh (HI.out.below hbx lz lz hbx.size)
    replace HJ:=Lh (HJ.out.below hbx lz lz hbx.size)
    replace HJ1:=Lh (HJ1.out.below hbx lz lz hbx.size)
    replace HJ2:=Lh (HJ2.out.below hbx lz lz hbx.size)
    replace HB4:=Lh (HB4.out.trans (hbx.mono HB4.out.size))
    have Hw8:=Lh (And.intro hw8 hbW)
    clear hbx hw8 hbW
    go_upto_region 5 with fail
    rw [← Hw8.out.1,← Hw8.out.2]
    clear Hw8
    obtain ⟨xR0,xR1,xR2,xR3,xR4,xR5,xR6,xR7,xR8⟩:=kr HXR.out
    go_wp2_with fail
    refine ((HA1.out w8 HB4.out).1).mono ?_
    clear xR0 xR1 xR2 xR3 xR4 xR5 xR6 xR7 xR8
    rintro ee w9 ⟨ja,jc,rfl,hs,hb⟩
    dsimp only at hs ⊢
    replace HB:=Lh (HB.out.trans (hb.mono HB.out.size))
    replace HXR:=Lh ((hb.block _ (qz HXR.out)).trans HXR.out)
    replace HXX:=Lh ((hb.block _ (qz HXX.out)).trans HXX.out)
    replace HXV:=Lh ((hb.block _ (qz HXV.out)).trans HXV.out)
    replace HXW:=Lh ((hb.block _ (qz HXW.out)).trans HXW.out)
    replace HI:=Lh (HI.out.below hb lz lz hb.size)
    replace HJ:=Lh (HJ.out.below hb lz lz hb.size)
    replace HJ1:=Lh (HJ1.out.below hb lz lz hb.size)
    replace HJ2:=Lh (HJ2.out.below hb lz lz hb.size)
    replace HB4:=Lh (HB4.out.trans (hb.mono HB4.out.size))
    have HS1:=Lh (hs.carry (Nat.zero_le _) lz (fun _ _ _=>rfl))
    clear hs hb
    obtain ⟨bA,hbA⟩:∃bA,bA=w9.heap.size:=⟨_,rfl⟩
    obtain ⟨w10,hw10⟩:∃w10,w10=w9.alloc (.cells #[.int .i64 AU.thr,.slice ja AU.ids.length jc] 30):=⟨_,rfl⟩
    have hbx:Below w9.heap.size w9 w10:=by rw [hw10];exact (Below.refl _ _).alloc lz _
    have HXA:=Lh (xA hw10 hbA)
    replace HB:=Lh (HB.out.trans (hbx.mono HB.out.size))
    replace HXR:=Lh ((hbx.block _ (qz HXR.out)).trans HXR.out)
    replace HXX:=Lh ((hbx.block _ (qz HXX.out)).trans HXX.out)
    replace HXV:=Lh ((hbx.block _ (qz HXV.out)).trans HXV.out)
    replace HXW:=Lh ((hbx.block _ (qz HXW.out)).trans HXW.out)
    replace HI:=Lh (HI.out.below hbx lz lz hbx.size)
    replace HJ:=Lh (HJ.out.below hbx lz lz hbx.size)
    replace HJ1:=Lh (HJ1.out.below hbx lz lz hbx.size)
    replace HJ2:=Lh (HJ2.out.below hbx lz lz hbx.size)
    replace HS1:=Lh (HS1.out.below hbx lz lz hbx.size)
    replace HB4:=Lh (HB4.out.trans (hbx.mono HB4.out.size))
    have Hw10:=Lh (And.intro hw10 hbA)
    clear hbx hw10 hbA
    go_upto_region 6 with fail
    rw [← Hw10.out.1,← Hw10.out.2]
    clear Hw10
    obtain ⟨xR0,xR1,xR2,xR3,xR4,xR5,xR6,xR7,xR8⟩:=kr HXR.out
    go_wp2_with fail
    refine ((HA1.out w10 HB4.out).2).mono ?_
    clear xR0 xR1 xR2 xR3 xR4 xR5 xR6 xR7 xR8
    rintro ee w11 ⟨na,nc,rfl,hs,hb⟩
    dsimp only at hs ⊢
    replace HB:=Lh (HB.out.trans (hb.mono HB.out.size))
    replace HXR:=Lh ((hb.block _ (qz HXR.out)).trans HXR.out)
    replace HXX:=Lh ((hb.block _ (qz HXX.out)).trans HXX.out)
    replace HXV:=Lh ((hb.block _ (qz HXV.out)).trans HXV.out)
    replace HXW:=Lh ((hb.block _ (qz HXW.out)).trans HXW.out)
    replace HXA:=Lh ((hb.block _ (qz HXA.out)).trans HXA.out)
    replace HI:=Lh (HI.out.below hb lz lz hb.size)
    replace HJ:=Lh (HJ.out.below hb lz lz hb.size)
    replace HJ1:=Lh (HJ1.out.below hb lz lz hb.size)
    replace HJ2:=Lh (HJ2.out.below hb lz lz hb.size)
    replace HS1:=Lh (HS1.out.below hb lz lz hb.size)
    replace HB4:=Lh (HB4.out.trans (hb.mono HB4.out.size))
    have HS2:=Lh hs
    clear hs hb HA1
    obtain ⟨bN,hbN⟩:∃bN,bN=w11.heap.size:=⟨_,rfl⟩
    obtain ⟨w12,hw12⟩:∃w12,w12=w11.alloc (.cells #[.int .i64 AU.thr,.slice na AU.ids.length nc] 30):=⟨_,rfl⟩
    have hbx:Below w11.heap.size w11 w12:=by rw [hw12];exact (Below.refl _ _).alloc lz _
    have HXN:=Lh (xA hw12 hbN)
    replace HB:=Lh (HB.out.trans (hbx.mono HB.out.size))
    replace HXR:=Lh ((hbx.block _ (qz HXR.out)).trans HXR.out)
    replace HXX:=Lh ((hbx.block _ (qz HXX.out)).trans HXX.out)
    replace HXV:=Lh ((hbx.block _ (qz HXV.out)).trans HXV.out)
    replace HXW:=Lh ((hbx.block _ (qz HXW.out)).trans HXW.out)
    replace HXA:=Lh ((hbx.block _ (qz HXA.out)).trans HXA.out)
    replace HI:=Lh (HI.out.below hbx lz lz hbx.size)
    replace HJ:=Lh (HJ.out.below hbx lz lz hbx.size)
    replace HJ1:=Lh (HJ1.out.below hbx lz lz hbx.size)
    replace HJ2:=Lh (HJ2.out.below hbx lz lz hbx.size)
    replace HS1:=Lh (HS1.out.below hbx lz lz hbx.size)
    replace HS2:=Lh (HS2.out.below hbx lz lz hbx.size)
    replace HB4:=Lh (HB4.out.trans (hbx.mono HB4.out.size))
    have Hw12:=Lh (And.intro hw12 hbN)
    clear hbx hw12 hbN
    go_upto_region 7 with fail
    rw [← Hw12.out.1,← Hw12.out.2]
    clear Hw12
    have HCC:=Lh (show ∀w':World,Below w12.heap.size w12 w'→w'.heap[bR]?=some (.cells #[.int .i64 v,.int .i64 e,.slice ka l.length kc,.int .i64 t1,.slice i1 d1.length c1,.int .i64 t2,.slice i2 d2.length c2,.int .i64 t3,.slice i3 d3.length c3] 32 (0,0))∧w'.heap[bX]?=some (.cells #[.int .i64 v2,.int .i64 e2,.slice kb l2.length kd,.int .i64 u1,.slice h1 f1.length g1,.int .i64 u2,.slice h2 f2.length g2,.int .i64 u3,.slice h3 f3.length g3] 32 (0,0))∧w'.heap[bV]?=some (.cells #[.int .u8 J.kind,.int .i64 J.n,.string J.t,.slice fan J.names.length fcn,.slice fai J.items.length fci] 25 (0,0))∧w'.heap[bW]?=some (.cells #[.int .u8 J.kind,.int .i64 J.n,.string J.t,.slice gan J.names.length gcn,.slice gai J.items.length gci] 25 (0,0))∧w'.heap[bA]?=some (.cells #[.int .i64 AU.thr,.slice ja AU.ids.length jc] 30 (0,0))∧w'.heap[bN]?=some (.cells #[.int .i64 AU.thr,.slice na AU.ids.length nc] 30 (0,0)) from fun w' h=>⟨(h.block _ (qz HXR.out)).trans HXR.out,(h.block _ (qz HXX.out)).trans HXX.out,(h.block _ (qz HXV.out)).trans HXV.out,(h.block _ (qz HXW.out)).trans HXW.out,(h.block _ (qz HXA.out)).trans HXA.out,(h.block _ (qz HXN.out)).trans HXN.out⟩)
    have HII:=Lh (show ∀w':World,Below w12.heap.size w12 w'→RootIn w' 0 w'.heap.size ⟨v,e,l,⟨⟨t1,d1⟩,⟨t2,d2⟩,⟨t3,d3⟩⟩⟩ ka i1 i2 i3∧RootIn w' 0 w'.heap.size ⟨v2,e2,l2,⟨⟨u1,f1⟩,⟨u2,f2⟩,⟨u3,f3⟩⟩⟩ kb h1 h2 h3∧(Tabs w'∧TabW w'∧js w'∧TopsW w') from fun w' h=>⟨HI.out.below h lz lz h.size,HJ.out.below h lz lz h.size,HTB.out w' (HB.out.trans (h.mono HB.out.size))⟩)
    obtain ⟨mb,hmb⟩:∃mb,mb=zu ⟨v,e,l,⟨⟨t1,d1⟩,⟨t2,d2⟩,⟨t3,d3⟩⟩⟩:=⟨_,rfl⟩
    obtain ⟨eb,heb⟩:∃eb,eb=jm ⟨v,e,l,⟨⟨t1,d1⟩,⟨t2,d2⟩,⟨t3,d3⟩⟩⟩ ⟨v2,e2,l2,⟨⟨u1,f1⟩,⟨u2,f2⟩,⟨u3,f3⟩⟩⟩:=⟨_,rfl⟩
    have HC1:=Lh (show ∀w':World,Below w12.heap.size w12 w'→Calls Tryz.prog 24 #[.agg #[.int .i64 v,.int .i64 e,.slice ka l.length kc,.int .i64 t1,.slice i1 d1.length c1,.int .i64 t2,.slice i2 d2.length c2,.int .i64 t3,.slice i3 d3.length c3]] w' (fun e w''=>e=.returned (.bool mb)∧Below w'.heap.size w' w'') from fun w' h=>by rw [hmb];exact lN v e l t1 t2 t3 d1 d2 d3 ka i1 i2 i3 kc c1 c2 c3 w' (HII.out w' h).1 HF.out (HII.out w' h).2.2.1 (HII.out w' h).2.2.2.1 (HII.out w' h).2.2.2.2.1)
    have HC2:=Lh (show ∀w':World,Below w12.heap.size w12 w'→Calls Tryz.prog 36 #[.agg #[.int .i64 v,.int .i64 e,.slice ka l.length kc,.int .i64 t1,.slice i1 d1.length c1,.int .i64 t2,.slice i2 d2.length c2,.int .i64 t3,.slice i3 d3.length c3]] w' (fun e w''=>e=.returned (.bool mb)∧Below w'.heap.size w' w'') from fun w' h=>by rw [hmb];exact cD v e l t1 t2 t3 d1 d2 d3 ka i1 i2 i3 kc c1 c2 c3 w' (HII.out w' h).1 HF.out)
    have HC3:=Lh (show ∀w':World,Below w12.heap.size w12 w'→Calls Tryz.prog 37 #[.agg #[.int .i64 v,.int .i64 e,.slice ka l.length kc,.int .i64 t1,.slice i1 d1.length c1,.int .i64 t2,.slice i2 d2.length c2,.int .i64 t3,.slice i3 d3.length c3],.agg #[.int .i64 v2,.int .i64 e2,.slice kb l2.length kd,.int .i64 u1,.slice h1 f1.length g1,.int .i64 u2,.slice h2 f2.length g2,.int .i64 u3,.slice h3 f3.length g3]] w' (fun e w''=>e=.returned (.bool eb)∧Below w'.heap.size w' w'') from fun w' h=>by rw [heb];exact cU v e l t1 t2 t3 d1 d2 d3 ka i1 i2 i3 kc c1 c2 c3 v2 e2 l2 u1 u2 u3 f1 f2 f3 kb h1 h2 h3 kd g1 g2 g3 w' (HII.out w' h).1 (HII.out w' h).2.1 HF.out HG.out)
    have HC4:=Lh (show ∀w':World,Below w12.heap.size w12 w'→Calls Tryz.prog 14 #[.agg #[.int .i64 v,.int .i64 e,.slice ka l.length kc,.int .i64 t1,.slice i1 d1.length c1,.int .i64 t2,.slice i2 d2.length c2,.int .i64 t3,.slice i3 d3.length c3],.agg #[.int .i64 v2,.int .i64 e2,.slice kb l2.length kd,.int .i64 u1,.slice h1 f1.length g1,.int .i64 u2,.slice h2 f2.length g2,.int .i64 u3,.slice h3 f3.length g3]] w' (fun e w''=>e=.returned (.bool eb)∧Below w'.heap.size w' w'') from fun w' h=>by rw [heb];exact uj v e l t1 t2 t3 d1 d2 d3 ka i1 i2 i3 kc c1 c2 c3 v2 e2 l2 u1 u2 u3 f1 f2 f3 kb h1 h2 h3 kd g1 g2 g3 w' (HII.out w' h).1 (HII.out w' h).2.1 HF.out HG.out)
    have HC5:=Lh (show ∀w':World,Below w12.heap.size w12 w'→Calls Tryz.prog 37 #[.agg #[.int .i64 v,.int .i64 e,.slice ka l.length kc,.int .i64 t1,.slice i1 d1.length c1,.int .i64 t2,.slice i2 d2.length c2,.int .i64 t3,.slice i3 d3.length c3],.agg #[.int .i64 v,.int .i64 e,.slice ka l.length kc,.int .i64 t1,.slice i1 d1.length c1,.int .i64 t2,.slice i2 d2.length c2,.int .i64 t3,.slice i3 d3.length c3]] w' (fun e w''=>e=.returned (.bool true)∧Below w'.heap.size w' w'') from fun w' h=>by
     have:=cU v e l t1 t2 t3 d1 d2 d3 ka i1 i2 i3 kc c1 c2 c3 v e l t1 t2 t3 d1 d2 d3 ka i1 i2 i3 kc c1 c2 c3 w' (HII.out w' h).1 (HII.out w' h).1 HF.out HF.out
     rwa [wJ] at this)
    have HC6:=Lh (show ∀w':World,Below w12.heap.size w12 w'→Calls Tryz.prog 38 #[.agg #[.int .u8 J.kind,.int .i64 J.n,.string J.t,.slice fan J.names.length fcn,.slice fai J.items.length fci],.agg #[.int .u8 J.kind,.int .i64 J.n,.string J.t,.slice gan J.names.length gcn,.slice gai J.items.length gci]] w' (fun e w''=>e=.returned (.bool true)∧Below w'.heap.size w' w'') from fun w' h=>by
     have:=tf 4294967296 J J _ _ 0 w'.heap.size w' HWT.out HWT.out lz lz (HJ1.out.below h lz lz h.size) (HJ2.out.below h lz lz h.size)
     rwa [(JV.sameB_iff J J).2 rfl] at this)
    have HC7:=Lh (show ∀w':World,Below w12.heap.size w12 w'→Calls Tryz.prog 31 #[.agg #[.int .i64 AU.thr,.slice ja AU.ids.length jc],.agg #[.int .i64 AU.thr,.slice na AU.ids.length nc]] w' (fun e w''=>e=.returned (.bool true)∧Below w'.heap.size w' w'') from fun w' h=>by
     have:=kS AU.thr AU.thr AU.ids AU.ids ja na jc nc w' (HS1.out.below h lz lz h.size) (HS2.out.below h lz lz h.size) HAL.out HAL.out
     rwa [decide_eq_true rfl] at this)
    have HC8:=Lh (show ∀w':World,Below w12.heap.size w12 w'→Calls Tryz.prog 11 #[] w' (fun e w''=>e=.returned (.bool true)∧Below w'.heap.size w' w'') from fun w' h=>vu w' (HII.out w' h).2.2.1 (HII.out w' h).2.2.2.1 (HII.out w' h).2.2.2.2.1 (HII.out w' h).2.2.2.2.2)
    have p1:(KE == KE)=true:=by simp
    have p2:(is == is)=true:=by simp
    have p3:(mb == mb)=true:=by simp
    have p4:(eb == eb)=true:=by simp
    clear hmb heb
    obtain ⟨V,hV⟩:∃V:List MP,V=[.con (.agg #[.int .i64 v,.int .i64 e,.slice ka l.length kc,.int .i64 t1,.slice i1 d1.length c1,.int .i64 t2,.slice i2 d2.length c2,.int .i64 t3,.slice i3 d3.length c3]),.con (.bool mb),.con (.agg #[.int .i64 v,.int .i64 e,.slice ka l.length kc,.int .i64 t1,.slice i1 d1.length c1,.int .i64 t2,.slice i2 d2.length c2,.int .i64 t3,.slice i3 d3.length c3]),.con (.bool mb),.con (.bool true),.con (.bool true),.con (.agg #[.int .i64 v,.int .i64 e,.slice ka l.length kc,.int .i64 t1,.slice i1 d1.length c1,.int .i64 t2,.slice i2 d2.length c2,.int .i64 t3,.slice i3 d3.length c3]),.con (.agg #[.int .i64 v2,.int .i64 e2,.slice kb l2.length kd,.int .i64 u1,.slice h1 f1.length g1,.int .i64 u2,.slice h2 f2.length g2,.int .i64 u3,.slice h3 f3.length g3]),.con (.bool eb),.con (.agg #[.int .i64 v,.int .i64 e,.slice ka l.length kc,.int .i64 t1,.slice i1 d1.length c1,.int .i64 t2,.slice i2 d2.length c2,.int .i64 t3,.slice i3 d3.length c3]),.con (.agg #[.int .i64 v2,.int .i64 e2,.slice kb l2.length kd,.int .i64 u1,.slice h1 f1.length g1,.int .i64 u2,.slice h2 f2.length g2,.int .i64 u3,.slice h3 f3.length g3]),.con (.bool eb),.con (.bool true),.con (.bool true),.con (.bool true),.con (.agg #[.int .i64 v,.int .i64 e,.slice ka l.length kc,.int .i64 t1,.slice i1 d1.length c1,.int .i64 t2,.slice i2 d2.length c2,.int .i64 t3,.slice i3 d3.length c3]),.con (.agg #[.int .i64 v,.int .i64 e,.slice ka l.length kc,.int .i64 t1,.slice i1 d1.length c1,.int .i64 t2,.slice i2 d2.length c2,.int .i64 t3,.slice i3 d3.length c3]),.con (.bool true),.con (.bool true),.con (.bool true),.con (.int .i64 KE),.con (.int .i64 KE),.con (.bool true),.con (.bool true),.con (.bool true),.con (.agg #[.int .u8 J.kind,.int .i64 J.n,.string J.t,.slice fan J.names.length fcn,.slice fai J.items.length fci]),.con (.agg #[.int .u8 J.kind,.int .i64 J.n,.string J.t,.slice gan J.names.length gcn,.slice gai J.items.length gci]),.con (.bool true),.con (.bool true),.con (.bool true),.con (.bool is),.con (.bool is),.con (.bool true),.con (.bool true),.con (.bool true),.con (.agg #[.int .i64 AU.thr,.slice ja AU.ids.length jc]),.con (.agg #[.int .i64 AU.thr,.slice na AU.ids.length nc]),.con (.bool true),.con (.bool true),.con (.bool true),.con (.bool true),.con (.bool true)]:=⟨_,rfl⟩
    have HV:=Lh hV
    clear hV
    refine xB 42 (fun d a' w'=>∃x49 x50 x51 x52 x53 x54 x55 x56 x57 x58 x59 x60 x61 x62 x63 x64 x65 x66 x67 x68 x69 x70 x71 x72 x73 x74 x75 x76 x77 x78 x79 x80 x81 x82 x83 x84 x85 x86 x87 x88 x89 x90,a'=⟨#[Value.agg #[Value.int IntKind.i64 v,Value.int IntKind.i64 e,Value.slice ka l.length kc,Value.int IntKind.i64 t1,Value.slice i1 d1.length c1,Value.int IntKind.i64 t2,Value.slice i2 d2.length c2,Value.int IntKind.i64 t3,Value.slice i3 d3.length c3],Value.agg #[Value.int IntKind.i64 v2,Value.int IntKind.i64 e2,Value.slice kb l2.length kd,Value.int IntKind.i64 u1,Value.slice h1 f1.length g1,Value.int IntKind.i64 u2,Value.slice h2 f2.length g2,Value.int IntKind.i64 u3,Value.slice h3 f3.length g3],Value.string role,Value.pointer (some { block:=bR,off:=0 }),Value.pointer (some { block:=bX,off:=0 }),undef,Value.bool false,Value.pointer (some { block:=bV,off:=0 }),Value.int IntKind.i64 KE,Value.pointer (some { block:=bW,off:=0 }),Value.int IntKind.i64 KE,Value.pointer (some { block:=bA,off:=0 }),Value.bool is,Value.pointer (some { block:=bN,off:=0 }),Value.bool is,Value.agg #[Value.int IntKind.i64 v,Value.int IntKind.i64 e,Value.slice ka l.length kc,Value.int IntKind.i64 t1,Value.slice i1 d1.length c1,Value.int IntKind.i64 t2,Value.slice i2 d2.length c2,Value.int IntKind.i64 t3,Value.slice i3 d3.length c3],Value.bool false,Value.bool false,Value.agg #[Value.int IntKind.i64 v2,Value.int IntKind.i64 e2,Value.slice kb l2.length kd,Value.int IntKind.i64 u1,Value.slice h1 f1.length g1,Value.int IntKind.i64 u2,Value.slice h2 f2.length g2,Value.int IntKind.i64 u3,Value.slice h3 f3.length g3],Value.bool false,Value.bool false,Value.bool false,Value.string role,Value.int IntKind.i64 (role.size:Int),Value.bool false,Value.bool false,undef,Value.tuple #[Value.agg #[Value.int IntKind.u8 J.kind,Value.int IntKind.i64 J.n,Value.string J.t,Value.slice fan J.names.length fcn,Value.slice fai J.items.length fci],Value.int IntKind.i64 KE],Value.agg #[Value.int IntKind.i64 v,Value.int IntKind.i64 e,Value.slice ka l.length kc,Value.int IntKind.i64 t1,Value.slice i1 d1.length c1,Value.int IntKind.i64 t2,Value.slice i2 d2.length c2,Value.int IntKind.i64 t3,Value.slice i3 d3.length c3],Value.tuple #[Value.agg #[Value.int IntKind.u8 J.kind,Value.int IntKind.i64 J.n,Value.string J.t,Value.slice fan J.names.length fcn,Value.slice fai J.items.length fci],Value.int IntKind.i64 KE],Value.agg #[Value.int IntKind.u8 J.kind,Value.int IntKind.i64 J.n,Value.string J.t,Value.slice fan J.names.length fcn,Value.slice fai J.items.length fci],Value.int IntKind.i64 KE,Value.tuple #[Value.agg #[Value.int IntKind.u8 J.kind,Value.int IntKind.i64 J.n,Value.string J.t,Value.slice gan J.names.length gcn,Value.slice gai J.items.length gci],Value.int IntKind.i64 KE],Value.agg #[Value.int IntKind.i64 v,Value.int IntKind.i64 e,Value.slice ka l.length kc,Value.int IntKind.i64 t1,Value.slice i1 d1.length c1,Value.int IntKind.i64 t2,Value.slice i2 d2.length c2,Value.int IntKind.i64 t3,Value.slice i3 d3.length c3],Value.tuple #[Value.agg #[Value.int IntKind.u8 J.kind,Value.int IntKind.i64 J.n,Value.string J.t,Value.slice gan J.names.length gcn,Value.slice gai J.items.length gci],Value.int IntKind.i64 KE],Value.agg #[Value.int IntKind.u8 J.kind,Value.int IntKind.i64 J.n,Value.string J.t,Value.slice gan J.names.length gcn,Value.slice gai J.items.length gci],Value.int IntKind.i64 KE,Value.tuple #[Value.agg #[Value.int IntKind.i64 AU.thr,Value.slice ja AU.ids.length jc],Value.bool is],Value.agg #[Value.int IntKind.i64 v,Value.int IntKind.i64 e,Value.slice ka l.length kc,Value.int IntKind.i64 t1,Value.slice i1 d1.length c1,Value.int IntKind.i64 t2,Value.slice i2 d2.length c2,Value.int IntKind.i64 t3,Value.slice i3 d3.length c3],Value.string role,Value.tuple #[Value.agg #[Value.int IntKind.i64 AU.thr,Value.slice ja AU.ids.length jc],Value.bool is],Value.agg #[Value.int IntKind.i64 AU.thr,Value.slice ja AU.ids.length jc],Value.bool is,Value.tuple #[Value.agg #[Value.int IntKind.i64 AU.thr,Value.slice na AU.ids.length nc],Value.bool is],Value.agg #[Value.int IntKind.i64 v,Value.int IntKind.i64 e,Value.slice ka l.length kc,Value.int IntKind.i64 t1,Value.slice i1 d1.length c1,Value.int IntKind.i64 t2,Value.slice i2 d2.length c2,Value.int IntKind.i64 t3,Value.slice i3 d3.length c3],Value.string role,Value.tuple #[Value.agg #[Value.int IntKind.i64 AU.thr,Value.slice na AU.ids.length nc],Value.bool is],Value.agg #[Value.int IntKind.i64 AU.thr,Value.slice na AU.ids.length nc],Value.bool is,x49,x50,x51,x52,x53,x54,x55,x56,x57,x58,x59,x60,x61,x62,x63,x64,x65,x66,x67,x68,x69,x70,x71,x72,x73,x74,x75,x76,x77,x78,x79,x80,x81,x82,x83,x84,x85,x86,x87,x88,x89,x90],[]⟩∧jy w12 V d w' [x49,x50,x51,x52,x53,x54,x55,x56,x57,x58,x59,x60,x61,x62,x63,x64,x65,x66,x67,x68,x69,x70,x71,x72,x73,x74,x75,x76,x77,x78,x79,x80,x81,x82,x83,x84,x85,x86,x87,x88,x89,x90]) (by kernel_rfl) (by kernel_rfl) ?first ?step ?last
    case first=>exact ⟨_,_,_,_,_,_,_,_,_,_,_,_,_,_,_,_,_,_,_,_,_,_,_,_,_,_,_,_,_,_,_,_,_,_,_,_,_,_,_,_,_,_,rfl,jy.first _ _ _ (by rw [HV.out];rfl)⟩
    case step =>
     rintro d a' w' ⟨x49,x50,x51,x52,x53,x54,x55,x56,x57,x58,x59,x60,x61,x62,x63,x64,x65,x66,x67,x68,x69,x70,x71,x72,x73,x74,x75,x76,x77,x78,x79,x80,x81,x82,x83,x84,x85,x86,x87,x88,x89,x90,rfl,h⟩ q hq hn hw
     rcases q with _|_|_|_|_|_|_|_|_|_|_|_|_|_|_|_|_|_|_|_|_|_|_|_|_|_|_|_|_|_|_|_|_|_|_|_|_|_|_|_|_|_|q
     · obtain ⟨a0,a1,a2,a3,a4,a5,a6,a7,a8⟩:=kr (HCC.out w' h.1).1
       refine wpOp_step rfl fun K hK=>?_
       go_simp
       exact hK _ _ ⟨_,x50,x51,x52,x53,x54,x55,x56,x57,x58,x59,x60,x61,x62,x63,x64,x65,x66,x67,x68,x69,x70,x71,x72,x73,x74,x75,x76,x77,x78,x79,x80,x81,x82,x83,x84,x85,x86,x87,x88,x89,x90,rfl,h.sameC 0 _ HV rfl⟩
     · obtain rfl:=h.con 0 (hw _ rfl ⟨0,.data⟩ (by simp) rfl) HV rfl rfl
       skip
       refine wpOp_step rfl fun K hK=>?_
       go_simp
       refine (HC1.out w' h.1).mono ?_
       rintro e w2 ⟨rfl,hb2⟩
       exact hK _ _ ⟨_,_,x51,x52,x53,x54,x55,x56,x57,x58,x59,x60,x61,x62,x63,x64,x65,x66,x67,x68,x69,x70,x71,x72,x73,x74,x75,x76,x77,x78,x79,x80,x81,x82,x83,x84,x85,x86,x87,x88,x89,x90,rfl,h.didC hb2 1 _ HV rfl⟩
     · obtain ⟨a0,a1,a2,a3,a4,a5,a6,a7,a8⟩:=kr (HCC.out w' h.1).1
       refine wpOp_step rfl fun K hK=>?_
       go_simp
       exact hK _ _ ⟨x49,x50,_,x52,x53,x54,x55,x56,x57,x58,x59,x60,x61,x62,x63,x64,x65,x66,x67,x68,x69,x70,x71,x72,x73,x74,x75,x76,x77,x78,x79,x80,x81,x82,x83,x84,x85,x86,x87,x88,x89,x90,rfl,h.sameC 2 _ HV rfl⟩
     · obtain rfl:=h.con 2 (hw _ rfl ⟨2,.data⟩ (by simp) rfl) HV rfl rfl
       skip
       refine wpOp_step rfl fun K hK=>?_
       go_simp
       refine (HC2.out w' h.1).mono ?_
       rintro e w2 ⟨rfl,hb2⟩
       exact hK _ _ ⟨x49,x50,_,_,x53,x54,x55,x56,x57,x58,x59,x60,x61,x62,x63,x64,x65,x66,x67,x68,x69,x70,x71,x72,x73,x74,x75,x76,x77,x78,x79,x80,x81,x82,x83,x84,x85,x86,x87,x88,x89,x90,rfl,h.didC hb2 3 _ HV rfl⟩
     · obtain rfl:=h.con 1 (hw _ rfl ⟨1,.data⟩ (by simp) rfl) HV rfl rfl
       obtain rfl:=h.con 3 (hw _ rfl ⟨3,.data⟩ (by simp) rfl) HV rfl rfl
       refine wpOp_step rfl fun K hK=>?_
       go_simp
       exact hK _ _ ⟨x49,_,x51,_,_,x54,x55,x56,x57,x58,x59,x60,x61,x62,x63,x64,x65,x66,x67,x68,x69,x70,x71,x72,x73,x74,x75,x76,x77,x78,x79,x80,x81,x82,x83,x84,x85,x86,x87,x88,x89,x90,rfl,h.sameC 4 _ HV rfl⟩
     · obtain rfl:=h.con 4 (hw _ rfl ⟨4,.data⟩ (by simp) rfl) HV rfl rfl
       refine wpOp_step rfl fun K hK=>?_
       go_simp
       exact hK _ _ ⟨x49,x50,x51,x52,_,_,x55,x56,x57,x58,x59,x60,x61,x62,x63,x64,x65,x66,x67,x68,x69,x70,x71,x72,x73,x74,x75,x76,x77,x78,x79,x80,x81,x82,x83,x84,x85,x86,x87,x88,x89,x90,rfl,h.sameC 5 _ HV rfl⟩
     · obtain rfl:=h.con 5 (hw _ rfl ⟨5,.guard⟩ (by simp) rfl) HV rfl rfl
       obtain ⟨a0,a1,a2,a3,a4,a5,a6,a7,a8⟩:=kr (HCC.out w' h.1).1
       refine wpOp_step rfl fun K hK=>?_
       go_simp
       exact hK _ _ ⟨x49,x50,x51,x52,x53,_,_,x56,x57,x58,x59,x60,x61,x62,x63,x64,x65,x66,x67,x68,x69,x70,x71,x72,x73,x74,x75,x76,x77,x78,x79,x80,x81,x82,x83,x84,x85,x86,x87,x88,x89,x90,rfl,h.sameC 6 _ HV rfl⟩
     · obtain rfl:=h.con 5 (hw _ rfl ⟨5,.guard⟩ (by simp) rfl) HV rfl rfl
       obtain ⟨a0,a1,a2,a3,a4,a5,a6,a7,a8⟩:=kr (HCC.out w' h.1).2.1
       refine wpOp_step rfl fun K hK=>?_
       go_simp
       exact hK _ _ ⟨x49,x50,x51,x52,x53,_,x55,_,x57,x58,x59,x60,x61,x62,x63,x64,x65,x66,x67,x68,x69,x70,x71,x72,x73,x74,x75,x76,x77,x78,x79,x80,x81,x82,x83,x84,x85,x86,x87,x88,x89,x90,rfl,h.sameC 7 _ HV rfl⟩
     · obtain rfl:=h.con 5 (hw _ rfl ⟨5,.chain⟩ (by simp) rfl) HV rfl rfl
       obtain rfl:=h.con 6 (hw _ rfl ⟨6,.data⟩ (by simp) rfl) HV rfl rfl
       obtain rfl:=h.con 7 (hw _ rfl ⟨7,.data⟩ (by simp) rfl) HV rfl rfl
       skip
       refine wpOp_step rfl fun K hK=>?_
       go_simp
       refine (HC3.out w' h.1).mono ?_
       rintro e w2 ⟨rfl,hb2⟩
       exact hK _ _ ⟨x49,x50,x51,x52,x53,_,_,_,_,x58,x59,x60,x61,x62,x63,x64,x65,x66,x67,x68,x69,x70,x71,x72,x73,x74,x75,x76,x77,x78,x79,x80,x81,x82,x83,x84,x85,x86,x87,x88,x89,x90,rfl,h.didC hb2 8 _ HV rfl⟩
     · obtain rfl:=h.con 5 (hw _ rfl ⟨5,.guard⟩ (by simp) rfl) HV rfl rfl
       obtain ⟨a0,a1,a2,a3,a4,a5,a6,a7,a8⟩:=kr (HCC.out w' h.1).1
       refine wpOp_step rfl fun K hK=>?_
       go_simp
       exact hK _ _ ⟨x49,x50,x51,x52,x53,_,x55,x56,x57,_,x59,x60,x61,x62,x63,x64,x65,x66,x67,x68,x69,x70,x71,x72,x73,x74,x75,x76,x77,x78,x79,x80,x81,x82,x83,x84,x85,x86,x87,x88,x89,x90,rfl,h.sameC 9 _ HV rfl⟩
     · obtain rfl:=h.con 5 (hw _ rfl ⟨5,.guard⟩ (by simp) rfl) HV rfl rfl
       obtain ⟨a0,a1,a2,a3,a4,a5,a6,a7,a8⟩:=kr (HCC.out w' h.1).2.1
       refine wpOp_step rfl fun K hK=>?_
       go_simp
       exact hK _ _ ⟨x49,x50,x51,x52,x53,_,x55,x56,x57,x58,_,x60,x61,x62,x63,x64,x65,x66,x67,x68,x69,x70,x71,x72,x73,x74,x75,x76,x77,x78,x79,x80,x81,x82,x83,x84,x85,x86,x87,x88,x89,x90,rfl,h.sameC 10 _ HV rfl⟩
     · obtain rfl:=h.con 5 (hw _ rfl ⟨5,.guard⟩ (by simp) rfl) HV rfl rfl
       obtain rfl:=h.con 9 (hw _ rfl ⟨9,.data⟩ (by simp) rfl) HV rfl rfl
       obtain rfl:=h.con 10 (hw _ rfl ⟨10,.data⟩ (by simp) rfl) HV rfl rfl
       skip
       refine wpOp_step rfl fun K hK=>?_
       go_simp
       refine (HC4.out w' h.1).mono ?_
       rintro e w2 ⟨rfl,hb2⟩
       exact hK _ _ ⟨x49,x50,x51,x52,x53,_,x55,x56,x57,_,_,_,x61,x62,x63,x64,x65,x66,x67,x68,x69,x70,x71,x72,x73,x74,x75,x76,x77,x78,x79,x80,x81,x82,x83,x84,x85,x86,x87,x88,x89,x90,rfl,h.didC hb2 11 _ HV rfl⟩
     · obtain rfl:=h.con 5 (hw _ rfl ⟨5,.guard⟩ (by simp) rfl) HV rfl rfl
       obtain rfl:=h.con 8 (hw _ rfl ⟨8,.data⟩ (by simp) rfl) HV rfl rfl
       obtain rfl:=h.con 11 (hw _ rfl ⟨11,.data⟩ (by simp) rfl) HV rfl rfl
       refine wpOp_step rfl fun K hK=>?_
       go_simp
       exact hK _ _ ⟨x49,x50,x51,x52,x53,_,x55,x56,_,x58,x59,_,_,x62,x63,x64,x65,x66,x67,x68,x69,x70,x71,x72,x73,x74,x75,x76,x77,x78,x79,x80,x81,x82,x83,x84,x85,x86,x87,x88,x89,x90,rfl,h.sameC 12 _ HV rfl⟩
     · obtain rfl:=h.con 5 (hw _ rfl ⟨5,.data⟩ (by simp) rfl) HV rfl rfl
       obtain rfl:=h.con 12 (hw _ rfl ⟨12,.data⟩ (by simp) rfl) HV rfl rfl
       refine wpOp_step rfl fun K hK=>?_
       go_simp
       exact hK _ _ ⟨x49,x50,x51,x52,x53,_,x55,x56,x57,x58,x59,x60,_,_,x63,x64,x65,x66,x67,x68,x69,x70,x71,x72,x73,x74,x75,x76,x77,x78,x79,x80,x81,x82,x83,x84,x85,x86,x87,x88,x89,x90,rfl,h.sameC 13 _ HV rfl⟩
     · obtain rfl:=h.con 13 (hw _ rfl ⟨13,.data⟩ (by simp) rfl) HV rfl rfl
       refine wpOp_step rfl fun K hK=>?_
       go_simp
       exact hK _ _ ⟨x49,x50,x51,x52,x53,x54,x55,x56,x57,x58,x59,x60,x61,_,_,x64,x65,x66,x67,x68,x69,x70,x71,x72,x73,x74,x75,x76,x77,x78,x79,x80,x81,x82,x83,x84,x85,x86,x87,x88,x89,x90,rfl,h.sameC 14 _ HV rfl⟩
     · obtain rfl:=h.con 14 (hw _ rfl ⟨14,.guard⟩ (by simp) rfl) HV rfl rfl
       obtain ⟨a0,a1,a2,a3,a4,a5,a6,a7,a8⟩:=kr (HCC.out w' h.1).1
       refine wpOp_step rfl fun K hK=>?_
       go_simp
       exact hK _ _ ⟨x49,x50,x51,x52,x53,x54,x55,x56,x57,x58,x59,x60,x61,x62,_,_,x65,x66,x67,x68,x69,x70,x71,x72,x73,x74,x75,x76,x77,x78,x79,x80,x81,x82,x83,x84,x85,x86,x87,x88,x89,x90,rfl,h.sameC 15 _ HV rfl⟩
     · obtain rfl:=h.con 14 (hw _ rfl ⟨14,.guard⟩ (by simp) rfl) HV rfl rfl
       obtain ⟨a0,a1,a2,a3,a4,a5,a6,a7,a8⟩:=kr (HCC.out w' h.1).1
       refine wpOp_step rfl fun K hK=>?_
       go_simp
       exact hK _ _ ⟨x49,x50,x51,x52,x53,x54,x55,x56,x57,x58,x59,x60,x61,x62,_,x64,_,x66,x67,x68,x69,x70,x71,x72,x73,x74,x75,x76,x77,x78,x79,x80,x81,x82,x83,x84,x85,x86,x87,x88,x89,x90,rfl,h.sameC 16 _ HV rfl⟩
     · obtain rfl:=h.con 14 (hw _ rfl ⟨14,.chain⟩ (by simp) rfl) HV rfl rfl
       obtain rfl:=h.con 15 (hw _ rfl ⟨15,.data⟩ (by simp) rfl) HV rfl rfl
       obtain rfl:=h.con 16 (hw _ rfl ⟨16,.data⟩ (by simp) rfl) HV rfl rfl
       skip
       refine wpOp_step rfl fun K hK=>?_
       go_simp
       refine (HC5.out w' h.1).mono ?_
       rintro e w2 ⟨rfl,hb2⟩
       exact hK _ _ ⟨x49,x50,x51,x52,x53,x54,x55,x56,x57,x58,x59,x60,x61,x62,_,_,_,_,x67,x68,x69,x70,x71,x72,x73,x74,x75,x76,x77,x78,x79,x80,x81,x82,x83,x84,x85,x86,x87,x88,x89,x90,rfl,h.didC hb2 17 _ HV rfl⟩
     · obtain rfl:=h.con 14 (hw _ rfl ⟨14,.data⟩ (by simp) rfl) HV rfl rfl
       obtain rfl:=h.con 17 (hw _ rfl ⟨17,.data⟩ (by simp) rfl) HV rfl rfl
       refine wpOp_step rfl fun K hK=>?_
       go_simp
       exact hK _ _ ⟨x49,x50,x51,x52,x53,x54,x55,x56,x57,x58,x59,x60,x61,x62,_,x64,x65,_,_,x68,x69,x70,x71,x72,x73,x74,x75,x76,x77,x78,x79,x80,x81,x82,x83,x84,x85,x86,x87,x88,x89,x90,rfl,h.sameC 18 _ HV rfl⟩
     · obtain rfl:=h.con 18 (hw _ rfl ⟨18,.data⟩ (by simp) rfl) HV rfl rfl
       refine wpOp_step rfl fun K hK=>?_
       go_simp
       exact hK _ _ ⟨x49,x50,x51,x52,x53,x54,x55,x56,x57,x58,x59,x60,x61,x62,x63,x64,x65,x66,_,_,x69,x70,x71,x72,x73,x74,x75,x76,x77,x78,x79,x80,x81,x82,x83,x84,x85,x86,x87,x88,x89,x90,rfl,h.sameC 19 _ HV rfl⟩
     · obtain rfl:=h.con 19 (hw _ rfl ⟨19,.guard⟩ (by simp) rfl) HV rfl rfl
       refine wpOp_step rfl fun K hK=>?_
       go_simp
       exact hK _ _ ⟨x49,x50,x51,x52,x53,x54,x55,x56,x57,x58,x59,x60,x61,x62,x63,x64,x65,x66,x67,_,_,x70,x71,x72,x73,x74,x75,x76,x77,x78,x79,x80,x81,x82,x83,x84,x85,x86,x87,x88,x89,x90,rfl,h.sameC 20 _ HV rfl⟩
     · obtain rfl:=h.con 19 (hw _ rfl ⟨19,.guard⟩ (by simp) rfl) HV rfl rfl
       refine wpOp_step rfl fun K hK=>?_
       go_simp
       exact hK _ _ ⟨x49,x50,x51,x52,x53,x54,x55,x56,x57,x58,x59,x60,x61,x62,x63,x64,x65,x66,x67,_,x69,_,x71,x72,x73,x74,x75,x76,x77,x78,x79,x80,x81,x82,x83,x84,x85,x86,x87,x88,x89,x90,rfl,h.sameC 21 _ HV rfl⟩
     · obtain rfl:=h.con 19 (hw _ rfl ⟨19,.guard⟩ (by simp) rfl) HV rfl rfl
       obtain rfl:=h.con 20 (hw _ rfl ⟨20,.data⟩ (by simp) rfl) HV rfl rfl
       obtain rfl:=h.con 21 (hw _ rfl ⟨21,.data⟩ (by simp) rfl) HV rfl rfl
       refine wpOp_step rfl fun K hK=>?_
       go_simp
       exact hK _ _ ⟨x49,x50,x51,x52,x53,x54,x55,x56,x57,x58,x59,x60,x61,x62,x63,x64,x65,x66,x67,_,_,_,_,x72,x73,x74,x75,x76,x77,x78,x79,x80,x81,x82,x83,x84,x85,x86,x87,x88,x89,x90,rfl,h.sameC 22 _ HV rfl⟩
     · obtain rfl:=h.con 19 (hw _ rfl ⟨19,.data⟩ (by simp) rfl) HV rfl rfl
       obtain rfl:=h.con 22 (hw _ rfl ⟨22,.data⟩ (by simp) rfl) HV rfl rfl
       refine wpOp_step rfl fun K hK=>?_
       go_simp
       exact hK _ _ ⟨x49,x50,x51,x52,x53,x54,x55,x56,x57,x58,x59,x60,x61,x62,x63,x64,x65,x66,x67,_,x69,x70,_,_,x73,x74,x75,x76,x77,x78,x79,x80,x81,x82,x83,x84,x85,x86,x87,x88,x89,x90,rfl,h.sameC 23 _ HV rfl⟩
     · obtain rfl:=h.con 23 (hw _ rfl ⟨23,.data⟩ (by simp) rfl) HV rfl rfl
       refine wpOp_step rfl fun K hK=>?_
       go_simp
       exact hK _ _ ⟨x49,x50,x51,x52,x53,x54,x55,x56,x57,x58,x59,x60,x61,x62,x63,x64,x65,x66,x67,x68,x69,x70,x71,_,_,x74,x75,x76,x77,x78,x79,x80,x81,x82,x83,x84,x85,x86,x87,x88,x89,x90,rfl,h.sameC 24 _ HV rfl⟩
     · obtain rfl:=h.con 24 (hw _ rfl ⟨24,.guard⟩ (by simp) rfl) HV rfl rfl
       obtain ⟨a0,a1,a2,a3,a4⟩:=im (HCC.out w' h.1).2.2.1
       refine wpOp_step rfl fun K hK=>?_
       go_simp
       exact hK _ _ ⟨x49,x50,x51,x52,x53,x54,x55,x56,x57,x58,x59,x60,x61,x62,x63,x64,x65,x66,x67,x68,x69,x70,x71,x72,_,_,x75,x76,x77,x78,x79,x80,x81,x82,x83,x84,x85,x86,x87,x88,x89,x90,rfl,h.sameC 25 _ HV rfl⟩
     · obtain rfl:=h.con 24 (hw _ rfl ⟨24,.guard⟩ (by simp) rfl) HV rfl rfl
       obtain ⟨a0,a1,a2,a3,a4⟩:=im (HCC.out w' h.1).2.2.2.1
       refine wpOp_step rfl fun K hK=>?_
       go_simp
       exact hK _ _ ⟨x49,x50,x51,x52,x53,x54,x55,x56,x57,x58,x59,x60,x61,x62,x63,x64,x65,x66,x67,x68,x69,x70,x71,x72,_,x74,_,x76,x77,x78,x79,x80,x81,x82,x83,x84,x85,x86,x87,x88,x89,x90,rfl,h.sameC 26 _ HV rfl⟩
     · obtain rfl:=h.con 24 (hw _ rfl ⟨24,.chain⟩ (by simp) rfl) HV rfl rfl
       obtain rfl:=h.con 25 (hw _ rfl ⟨25,.data⟩ (by simp) rfl) HV rfl rfl
       obtain rfl:=h.con 26 (hw _ rfl ⟨26,.data⟩ (by simp) rfl) HV rfl rfl
       skip
       refine wpOp_step rfl fun K hK=>?_
       go_simp
       refine (HC6.out w' h.1).mono ?_
       rintro e w2 ⟨rfl,hb2⟩
       exact hK _ _ ⟨x49,x50,x51,x52,x53,x54,x55,x56,x57,x58,x59,x60,x61,x62,x63,x64,x65,x66,x67,x68,x69,x70,x71,x72,_,_,_,_,x77,x78,x79,x80,x81,x82,x83,x84,x85,x86,x87,x88,x89,x90,rfl,h.didC hb2 27 _ HV rfl⟩
     · obtain rfl:=h.con 24 (hw _ rfl ⟨24,.data⟩ (by simp) rfl) HV rfl rfl
       obtain rfl:=h.con 27 (hw _ rfl ⟨27,.data⟩ (by simp) rfl) HV rfl rfl
       refine wpOp_step rfl fun K hK=>?_
       go_simp
       exact hK _ _ ⟨x49,x50,x51,x52,x53,x54,x55,x56,x57,x58,x59,x60,x61,x62,x63,x64,x65,x66,x67,x68,x69,x70,x71,x72,_,x74,x75,_,_,x78,x79,x80,x81,x82,x83,x84,x85,x86,x87,x88,x89,x90,rfl,h.sameC 28 _ HV rfl⟩
     · obtain rfl:=h.con 28 (hw _ rfl ⟨28,.data⟩ (by simp) rfl) HV rfl rfl
       refine wpOp_step rfl fun K hK=>?_
       go_simp
       exact hK _ _ ⟨x49,x50,x51,x52,x53,x54,x55,x56,x57,x58,x59,x60,x61,x62,x63,x64,x65,x66,x67,x68,x69,x70,x71,x72,x73,x74,x75,x76,_,_,x79,x80,x81,x82,x83,x84,x85,x86,x87,x88,x89,x90,rfl,h.sameC 29 _ HV rfl⟩
     · obtain rfl:=h.con 29 (hw _ rfl ⟨29,.guard⟩ (by simp) rfl) HV rfl rfl
       refine wpOp_step rfl fun K hK=>?_
       go_simp
       exact hK _ _ ⟨x49,x50,x51,x52,x53,x54,x55,x56,x57,x58,x59,x60,x61,x62,x63,x64,x65,x66,x67,x68,x69,x70,x71,x72,x73,x74,x75,x76,x77,_,_,x80,x81,x82,x83,x84,x85,x86,x87,x88,x89,x90,rfl,h.sameC 30 _ HV rfl⟩
     · obtain rfl:=h.con 29 (hw _ rfl ⟨29,.guard⟩ (by simp) rfl) HV rfl rfl
       refine wpOp_step rfl fun K hK=>?_
       go_simp
       exact hK _ _ ⟨x49,x50,x51,x52,x53,x54,x55,x56,x57,x58,x59,x60,x61,x62,x63,x64,x65,x66,x67,x68,x69,x70,x71,x72,x73,x74,x75,x76,x77,_,x79,_,x81,x82,x83,x84,x85,x86,x87,x88,x89,x90,rfl,h.sameC 31 _ HV rfl⟩
     · obtain rfl:=h.con 29 (hw _ rfl ⟨29,.guard⟩ (by simp) rfl) HV rfl rfl
       obtain rfl:=h.con 30 (hw _ rfl ⟨30,.data⟩ (by simp) rfl) HV rfl rfl
       obtain rfl:=h.con 31 (hw _ rfl ⟨31,.data⟩ (by simp) rfl) HV rfl rfl
       refine wpOp_step rfl fun K hK=>?_
       go_simp
       exact hK _ _ ⟨x49,x50,x51,x52,x53,x54,x55,x56,x57,x58,x59,x60,x61,x62,x63,x64,x65,x66,x67,x68,x69,x70,x71,x72,x73,x74,x75,x76,x77,_,_,_,_,x82,x83,x84,x85,x86,x87,x88,x89,x90,rfl,h.sameC 32 _ HV rfl⟩
     · obtain rfl:=h.con 29 (hw _ rfl ⟨29,.data⟩ (by simp) rfl) HV rfl rfl
       obtain rfl:=h.con 32 (hw _ rfl ⟨32,.data⟩ (by simp) rfl) HV rfl rfl
       refine wpOp_step rfl fun K hK=>?_
       go_simp
       exact hK _ _ ⟨x49,x50,x51,x52,x53,x54,x55,x56,x57,x58,x59,x60,x61,x62,x63,x64,x65,x66,x67,x68,x69,x70,x71,x72,x73,x74,x75,x76,x77,_,x79,x80,_,_,x83,x84,x85,x86,x87,x88,x89,x90,rfl,h.sameC 33 _ HV rfl⟩
     · obtain rfl:=h.con 33 (hw _ rfl ⟨33,.data⟩ (by simp) rfl) HV rfl rfl
       refine wpOp_step rfl fun K hK=>?_
       go_simp
       exact hK _ _ ⟨x49,x50,x51,x52,x53,x54,x55,x56,x57,x58,x59,x60,x61,x62,x63,x64,x65,x66,x67,x68,x69,x70,x71,x72,x73,x74,x75,x76,x77,x78,x79,x80,x81,_,_,x84,x85,x86,x87,x88,x89,x90,rfl,h.sameC 34 _ HV rfl⟩
     · obtain rfl:=h.con 34 (hw _ rfl ⟨34,.guard⟩ (by simp) rfl) HV rfl rfl
       obtain ⟨a0,a1⟩:=iu (HCC.out w' h.1).2.2.2.2.1
       refine wpOp_step rfl fun K hK=>?_
       go_simp
       exact hK _ _ ⟨x49,x50,x51,x52,x53,x54,x55,x56,x57,x58,x59,x60,x61,x62,x63,x64,x65,x66,x67,x68,x69,x70,x71,x72,x73,x74,x75,x76,x77,x78,x79,x80,x81,x82,_,_,x85,x86,x87,x88,x89,x90,rfl,h.sameC 35 _ HV rfl⟩
     · obtain rfl:=h.con 34 (hw _ rfl ⟨34,.guard⟩ (by simp) rfl) HV rfl rfl
       obtain ⟨a0,a1⟩:=iu (HCC.out w' h.1).2.2.2.2.2
       refine wpOp_step rfl fun K hK=>?_
       go_simp
       exact hK _ _ ⟨x49,x50,x51,x52,x53,x54,x55,x56,x57,x58,x59,x60,x61,x62,x63,x64,x65,x66,x67,x68,x69,x70,x71,x72,x73,x74,x75,x76,x77,x78,x79,x80,x81,x82,_,x84,_,x86,x87,x88,x89,x90,rfl,h.sameC 36 _ HV rfl⟩
     · obtain rfl:=h.con 34 (hw _ rfl ⟨34,.chain⟩ (by simp) rfl) HV rfl rfl
       obtain rfl:=h.con 35 (hw _ rfl ⟨35,.data⟩ (by simp) rfl) HV rfl rfl
       obtain rfl:=h.con 36 (hw _ rfl ⟨36,.data⟩ (by simp) rfl) HV rfl rfl
       skip
       refine wpOp_step rfl fun K hK=>?_
       go_simp
       refine (HC7.out w' h.1).mono ?_
       rintro e w2 ⟨rfl,hb2⟩
       exact hK _ _ ⟨x49,x50,x51,x52,x53,x54,x55,x56,x57,x58,x59,x60,x61,x62,x63,x64,x65,x66,x67,x68,x69,x70,x71,x72,x73,x74,x75,x76,x77,x78,x79,x80,x81,x82,_,_,_,_,x87,x88,x89,x90,rfl,h.didC hb2 37 _ HV rfl⟩
     · obtain rfl:=h.con 34 (hw _ rfl ⟨34,.data⟩ (by simp) rfl) HV rfl rfl
       obtain rfl:=h.con 37 (hw _ rfl ⟨37,.data⟩ (by simp) rfl) HV rfl rfl
       refine wpOp_step rfl fun K hK=>?_
       go_simp
       exact hK _ _ ⟨x49,x50,x51,x52,x53,x54,x55,x56,x57,x58,x59,x60,x61,x62,x63,x64,x65,x66,x67,x68,x69,x70,x71,x72,x73,x74,x75,x76,x77,x78,x79,x80,x81,x82,_,x84,x85,_,_,x88,x89,x90,rfl,h.sameC 38 _ HV rfl⟩
     · obtain rfl:=h.con 38 (hw _ rfl ⟨38,.data⟩ (by simp) rfl) HV rfl rfl
       refine wpOp_step rfl fun K hK=>?_
       go_simp
       exact hK _ _ ⟨x49,x50,x51,x52,x53,x54,x55,x56,x57,x58,x59,x60,x61,x62,x63,x64,x65,x66,x67,x68,x69,x70,x71,x72,x73,x74,x75,x76,x77,x78,x79,x80,x81,x82,x83,x84,x85,x86,_,_,x89,x90,rfl,h.sameC 39 _ HV rfl⟩
     · obtain rfl:=h.con 39 (hw _ rfl ⟨39,.chain⟩ (by simp) rfl) HV rfl rfl
       skip
       refine wpOp_step rfl fun K hK=>?_
       go_simp
       refine (HC8.out w' h.1).mono ?_
       rintro e w2 ⟨rfl,hb2⟩
       exact hK _ _ ⟨x49,x50,x51,x52,x53,x54,x55,x56,x57,x58,x59,x60,x61,x62,x63,x64,x65,x66,x67,x68,x69,x70,x71,x72,x73,x74,x75,x76,x77,x78,x79,x80,x81,x82,x83,x84,x85,x86,x87,_,_,x90,rfl,h.didC hb2 40 _ HV rfl⟩
     · obtain rfl:=h.con 39 (hw _ rfl ⟨39,.data⟩ (by simp) rfl) HV rfl rfl
       obtain rfl:=h.con 40 (hw _ rfl ⟨40,.data⟩ (by simp) rfl) HV rfl rfl
       refine wpOp_step rfl fun K hK=>?_
       go_simp
       exact hK _ _ ⟨x49,x50,x51,x52,x53,x54,x55,x56,x57,x58,x59,x60,x61,x62,x63,x64,x65,x66,x67,x68,x69,x70,x71,x72,x73,x74,x75,x76,x77,x78,x79,x80,x81,x82,x83,x84,x85,x86,x87,_,_,_,rfl,h.sameC 41 _ HV rfl⟩
     · omega
    case last =>
     rintro d a' w' hall ⟨x49,x50,x51,x52,x53,x54,x55,x56,x57,x58,x59,x60,x61,x62,x63,x64,x65,x66,x67,x68,x69,x70,x71,x72,x73,x74,x75,x76,x77,x78,x79,x80,x81,x82,x83,x84,x85,x86,x87,x88,x89,x90,rfl,h⟩
     have hle:=h.1
     obtain rfl:=h.con 41 (hall _ (by omega)) HV rfl rfl
     have HLE:=Lh hle
     clear h hall hle HV
     have HBE:=Lh (HB.out.trans (HLE.out.mono HB.out.size))
     go_wp2
     go_ret
     exact ⟨rfl,HBE.out⟩
end Go.Proofs.YtnlgmcapbbgelaaGreatDoor
