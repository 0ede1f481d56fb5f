/- The law RootNothing: the call returns true. Printed by genrootnoth.py. -/
import Derived.Test.YtnlgmcapbbgelaaGreatDoorRn45

namespace Go.Proofs.YtnlgmcapbbgelaaGreatDoor
open Go.RowKit Go.Shelf Go.Sort
set_option maxHeartbeats 8000000 in
set_option maxRecDepth 100000 in
theorem lawRootNothing (v e:Int) (l:List Key2) (t1 t2 t3:Int) (d1 d2 d3:List ByteArray) (ka i1 i2 i3:Option Addr) (kc c1 c2 c3:Nat) (n:ByteArray) (u:JV) (uan uai:Option Addr) (ucn uci:Nat) (t:ByteArray) (w:World) (hI:RootIn w 0 w.heap.size ⟨v,e,l,⟨⟨t1,d1⟩,⟨t2,d2⟩,⟨t3,d3⟩⟩⟩ ka i1 i2 i3) (hl:l.length≤9223372036854775807) (l1:d1.length≤9223372036854775807) (l2:d2.length≤9223372036854775807) (l3:d3.length≤9223372036854775807)
 (hbv:-9223372036854775808≤v∧v≤9223372036854775807) (hbe:-9223372036854775808≤e∧e≤9223372036854775807) (hb1:-9223372036854775808≤t1∧t1≤9223372036854775807) (hb2:-9223372036854775808≤t2∧t2≤9223372036854775807) (hb3:-9223372036854775808≤t3∧t3≤9223372036854775807)
 (hU:Rep w 0 w.heap.size u (.agg #[.int .u8 u.kind,.int .i64 u.n,.string u.t,.slice uan u.names.length ucn,.slice uai u.items.length uci])) (hT:Tabs w) (hTW:TabW w) (hP:Pow10 w) (hTP:TopsW w) :
 Calls Tryz.prog 6 #[.agg #[.int .i64 v,.int .i64 e,.slice ka l.length kc,.int .i64 t1,.slice i1 d1.length c1,.int .i64 t2,.slice i2 d2.length c2,.int .i64 t3,.slice i3 d3.length c3],.string n,.agg #[.int .u8 u.kind,.int .i64 u.n,.string u.t,.slice uan u.names.length ucn,.slice uai u.items.length uci],.string t] w fun e w'=>e=.returned (.bool true)∧Below w.heap.size w w':=by
 have HTB:=Lh (show ∀w':World,Below w.heap.size w w'→Tabs w'∧TabW w'∧Pow10 w'∧TopsW w' from fun w' h=>⟨hT.below h,hTW.below h,hP.below h,hTP.below h⟩)
 have HB:=Lh (Below.refl w.heap.size w)
 have HZ0:=Lh (show 0<w.heap.size from Nat.lt_of_le_of_lt (Nat.zero_le _) hTP.lt)
 have HI:=Lh hI
 have HU:=Lh hU
 have HBD:=Lh (And.intro hbv (And.intro hbe (And.intro hb1 (And.intro hb2 hb3))))
 clear hT hTW hP hTP hI hU hbv hbe hb1 hb2 hb3
 go_enter Tryz.func6,Tryz.ntmps6
 obtain ⟨bR,hbR⟩:∃bR,bR=w.heap.size:=⟨_,rfl⟩
 obtain ⟨w1,hw1⟩:∃w1,w1=w.alloc (.cells #[.int .i64 v,.int .i64 e,.slice ka l.length kc,.int .i64 t1,.slice i1 d1.length c1,.int .i64 t2,.slice i2 d2.length c2,.int .i64 t3,.slice i3 d3.length c3] 32):=⟨_,rfl⟩
 have hbx:Below w.heap.size w w1:=by rw [hw1];exact (Below.refl _ _).alloc lz _
 have HXR:=Lh (heap_new_at hw1 hbR)
 replace HB:=Lh (HB.out.trans (hbx.mono HB.out.size))
 replace HI:=Lh (HI.out.below hbx lz lz hbx.size)
 replace HU:=Lh (HU.out.below hbx lz lz hbx.size)
 have Hw1:=Lh (And.intro hw1 hbR)
 clear hbx hw1 hbR
 obtain ⟨bX,hbX⟩:∃bX,bX=w1.heap.size:=⟨_,rfl⟩
 obtain ⟨w2,hw2⟩:∃w2,w2=w1.alloc (.cells #[.int .u8 u.kind,.int .i64 u.n,.string u.t,.slice uan u.names.length ucn,.slice uai u.items.length uci] 25):=⟨_,rfl⟩
 have hbx:Below w1.heap.size w1 w2:=by rw [hw2];exact (Below.refl _ _).alloc lz _
 have HXX:=Lh (heap_new_at hw2 hbX)
 replace HB:=Lh (HB.out.trans (hbx.mono HB.out.size))
 replace HXR:=Lh ((hbx.block _ (heap_lt HXR.out)).trans HXR.out)
 replace HI:=Lh (HI.out.below hbx lz lz hbx.size)
 replace HU:=Lh (HU.out.below hbx lz lz hbx.size)
 have Hw2:=Lh (And.intro hw2 hbX)
 clear hbx hw2 hbX
 go_upto_region 1 with fail
 rw [← Hw1.out.1,← Hw2.out.1,← Hw1.out.2,show bR+1=bX by rw [Hw2.out.2,Hw1.out.1,Hw1.out.2];simp]
 clear Hw1 Hw2
 obtain ⟨xR0,xR1,xR2,xR3,xR4,xR5,xR6,xR7,xR8⟩:=boxc9 HXR.out
 go_wp2_with fail
 refine (lawLong22 v e l t1 t2 t3 d1 d2 d3 ka i1 i2 i3 kc c1 c2 c3 w2 HI.out hl l1 l2 l3).mono ?_
 clear xR0 xR1 xR2 xR3 xR4 xR5 xR6 xR7 xR8
 rintro ee w3 ⟨b,rfl,hn,hb⟩
 replace HB:=Lh (HB.out.trans (hb.mono HB.out.size))
 replace HXR:=Lh ((hb.block _ (heap_lt HXR.out)).trans HXR.out)
 replace HXX:=Lh ((hb.block _ (heap_lt HXX.out)).trans HXX.out)
 replace HI:=Lh (HI.out.below hb lz lz hb.size)
 replace HU:=Lh (HU.out.below hb lz lz hb.size)
 have HN:=Lh hn
 clear hn hb
 cases b
 case true =>
  go_wp2_with fail
  refine (lawAwake22 w3 (HTB.out w3 HB.out).1 (HTB.out w3 HB.out).2.1 (HTB.out w3 HB.out).2.2.1 (HTB.out w3 HB.out).2.2.2).mono ?_
  rintro ee wz ⟨rfl,hz⟩
  have HBZ:=Lh (HB.out.trans (hz.mono HB.out.size))
  clear hz
  go_wp2
  go_ret
  exact ⟨rfl,HBZ.out⟩
 case false =>
  have HF:=Lh (rootFits_long (HN.out rfl) HBD.out.1 HBD.out.2.1 HBD.out.2.2.1 HBD.out.2.2.2.1 HBD.out.2.2.2.2)
  clear HN
  obtain ⟨xX0,xX1,xX2,xX3,xX4⟩:=boxc5 HXX.out
  go_wp2_with fail
  clear xX0 xX1 xX2 xX3 xX4
  obtain ⟨bL,hbL⟩:∃bL,bL=w3.heap.size:=⟨_,rfl⟩
  obtain ⟨w4,hw4⟩:∃w4,w4=w3.alloc (.cells #[.int .u8 u.kind,.int .i64 u.n,.string u.t,.slice uan u.names.length ucn,.slice uai u.items.length uci] 25):=⟨_,rfl⟩
  have hbx:Below w3.heap.size w3 w4:=by rw [hw4];exact (Below.refl _ _).alloc lz _
  have HXL:=Lh (heap_new_at hw4 hbL)
  replace HB:=Lh (HB.out.trans (hbx.mono HB.out.size))
  replace HXR:=Lh ((hbx.block _ (heap_lt HXR.out)).trans HXR.out)
  replace HXX:=Lh ((hbx.block _ (heap_lt HXX.out)).trans HXX.out)
  replace HI:=Lh (HI.out.below hbx lz lz hbx.size)
  replace HU:=Lh (HU.out.below hbx lz lz hbx.size)
  have Hw4:=Lh (And.intro hw4 hbL)
  clear hbx hw4 hbL
  rw [← Hw4.out.1,← Hw4.out.2]
  clear Hw4
  refine (lawLong [u] (some ⟨bL,0,none⟩) 1 w4 (vals_one HXL.out (heap_lt HXL.out) HU.out)).mono ?_
  rintro r wq ⟨b,rfl,hn,hq⟩
  subst hq
  have HN:=Lh hn
  clear hn HXL
  cases b
  case true =>
   go_wp2_with fail
   refine (lawAwake22 w4 (HTB.out w4 HB.out).1 (HTB.out w4 HB.out).2.1 (HTB.out w4 HB.out).2.2.1 (HTB.out w4 HB.out).2.2.2).mono ?_
   rintro ee wz ⟨rfl,hz⟩
   have HBZ:=Lh (HB.out.trans (hz.mono HB.out.size))
   clear hz
   go_wp2
   go_ret
   exact ⟨rfl,HBZ.out⟩
  case false =>
   have HWU:=Lh (show u.wt≤20000 by have:=HN.out rfl;simp [JV.wts] at this;omega)
   clear HN
   by_cases hns:300<n.size
   case pos =>
    have a1:decide ((300:Int)<n.size)=true:=decide_eq_true (by omega)
    go_wp2_with fail
    refine (lawAwake22 w4 (HTB.out w4 HB.out).1 (HTB.out w4 HB.out).2.1 (HTB.out w4 HB.out).2.2.1 (HTB.out w4 HB.out).2.2.2).mono ?_
    rintro ee wz ⟨rfl,hz⟩
    have HBZ:=Lh (HB.out.trans (hz.mono HB.out.size))
    clear hz
    go_wp2
    go_ret
    exact ⟨rfl,HBZ.out⟩
   case neg =>
    have a1:decide ((300:Int)<n.size)=false:=decide_eq_false (by omega)
    have HNS:=Lh (Nat.le_of_not_lt hns)
    clear hns
    by_cases hts:300<t.size
    case pos =>
     have a2:decide ((300:Int)<t.size)=true:=decide_eq_true (by omega)
     go_wp2_with fail
     refine (lawAwake22 w4 (HTB.out w4 HB.out).1 (HTB.out w4 HB.out).2.1 (HTB.out w4 HB.out).2.2.1 (HTB.out w4 HB.out).2.2.2).mono ?_
     rintro ee wz ⟨rfl,hz⟩
     have HBZ:=Lh (HB.out.trans (hz.mono HB.out.size))
     clear hz
     go_wp2
     go_ret
     exact ⟨rfl,HBZ.out⟩
    case neg =>
     have a2:decide ((300:Int)<t.size)=false:=decide_eq_false (by omega)
     have HTS:=Lh (Nat.le_of_not_lt hts)
     clear hts
     obtain ⟨mb,hmb⟩:∃mb,mb=mayRoot ⟨v,e,l,⟨⟨t1,d1⟩,⟨t2,d2⟩,⟨t3,d3⟩⟩⟩:=⟨_,rfl⟩
     have HMC:=Lh (rootMay v e l t1 t2 t3 d1 d2 d3 ka i1 i2 i3 kc c1 c2 c3 w4 HI.out HF.out (HTB.out w4 HB.out).1 (HTB.out w4 HB.out).2.1 (HTB.out w4 HB.out).2.2.1)
     rw [← hmb] at HMC
     have HMB:=Lh hmb
     clear hmb
     obtain ⟨xR0,xR1,xR2,xR3,xR4,xR5,xR6,xR7,xR8⟩:=boxc9 HXR.out
     go_wp2_with fail
     refine (HMC.out).mono ?_
     clear xR0 xR1 xR2 xR3 xR4 xR5 xR6 xR7 xR8
     rintro ee w5 ⟨rfl,hb⟩
     replace HB:=Lh (HB.out.trans (hb.mono HB.out.size))
     replace HXR:=Lh ((hb.block _ (heap_lt HXR.out)).trans HXR.out)
     replace HXX:=Lh ((hb.block _ (heap_lt HXX.out)).trans HXX.out)
     replace HI:=Lh (HI.out.below hb lz lz hb.size)
     replace HU:=Lh (HU.out.below hb lz lz hb.size)
     clear hb HMC
     cases mb
     case false =>
      go_wp2_with fail
      refine (lawAwake22 w5 (HTB.out w5 HB.out).1 (HTB.out w5 HB.out).2.1 (HTB.out w5 HB.out).2.2.1 (HTB.out w5 HB.out).2.2.2).mono ?_
      rintro ee wz ⟨rfl,hz⟩
      have HBZ:=Lh (HB.out.trans (hz.mono HB.out.size))
      clear hz
      go_wp2
      go_ret
      exact ⟨rfl,HBZ.out⟩
     case true =>
      go_wp2_with fail
      refine (lawAwake22 w5 (HTB.out w5 HB.out).1 (HTB.out w5 HB.out).2.1 (HTB.out w5 HB.out).2.2.1 (HTB.out w5 HB.out).2.2.2).mono ?_
      rintro ee w6 ⟨rfl,hb⟩
      replace HB:=Lh (HB.out.trans (hb.mono HB.out.size))
      replace HXR:=Lh ((hb.block _ (heap_lt HXR.out)).trans HXR.out)
      replace HXX:=Lh ((hb.block _ (heap_lt HXX.out)).trans HXX.out)
      replace HI:=Lh (HI.out.below hb lz lz hb.size)
      replace HU:=Lh (HU.out.below hb lz lz hb.size)
      clear hb a1 a2
      go_upto_region 3 with fail
      have HR0:=Lh (rootR_ok HMB.out.symm)
      obtain ⟨xR0,xR1,xR2,xR3,xR4,xR5,xR6,xR7,xR8⟩:=boxc9 HXR.out
      go_wp2_with fail
      refine (rootValue v e l t1 t2 t3 d1 d2 d3 ka i1 i2 i3 kc c1 c2 c3 w6 HI.out HF.out (HTB.out w6 HB.out).1 (HTB.out w6 HB.out).2.1 (HTB.out w6 HB.out).2.2.1 (HTB.out w6 HB.out).2.2.2).mono ?_
      clear xR0 xR1 xR2 xR3 xR4 xR5 xR6 xR7 xR8
      rintro ee w7 ⟨an,cn,ai,ci,h4,hr,hb⟩
      rw [HR0.out] at h4 hr
      obtain rfl:ee=.returned (.tuple #[.agg #[.int .u8 5,.int .i64 0,.string ⟨#[]⟩,.slice an 5 cn,.slice ai 5 ci],.int .i64 0]):=h4
      clear HR0
      have HLO:=Lh (show 0<w6.heap.size from Nat.lt_of_lt_of_le HZ0.out HB.out.size)
      replace HB:=Lh (HB.out.trans (hb.mono HB.out.size))
      replace HXR:=Lh ((hb.block _ (heap_lt HXR.out)).trans HXR.out)
      replace HXX:=Lh ((hb.block _ (heap_lt HXX.out)).trans HXX.out)
      replace HI:=Lh (HI.out.below hb lz lz hb.size)
      replace HU:=Lh (HU.out.below hb lz lz hb.size)
      obtain ⟨RR,hRR⟩:∃RR:RootV,RR=⟨v,e,l,⟨⟨t1,d1⟩,⟨t2,d2⟩,⟨t3,d3⟩⟩⟩:=⟨_,rfl⟩
      have HV:=Lh (show Rep w7 w6.heap.size w7.heap.size (rootJ ⟨v,e,l,⟨⟨t1,d1⟩,⟨t2,d2⟩,⟨t3,d3⟩⟩⟩) (.agg #[.int .u8 5,.int .i64 0,.string ⟨#[]⟩,.slice an 5 cn,.slice ai 5 ci]) from hr)
      rw [← hRR] at HV
      have HM:=Lh (show mayRoot RR=true by rw [hRR];exact HMB.out.symm)
      clear hr hb hRR HXR HI HF HBD HMB hl l1 l2 l3
      obtain ⟨bV,hbV⟩:∃bV,bV=w7.heap.size:=⟨_,rfl⟩
      obtain ⟨w8,hw8⟩:∃w8,w8=w7.alloc (.cells #[.int .u8 5,.int .i64 0,.string ⟨#[]⟩,.slice an 5 cn,.slice ai 5 ci] 25):=⟨_,rfl⟩
      have hbx:Below w7.heap.size w7 w8:=by rw [hw8];exact (Below.refl _ _).alloc lz _
      have HXV:=Lh (heap_new_at hw8 hbV)
      replace HB:=Lh (HB.out.trans (hbx.mono HB.out.size))
      replace HXX:=Lh ((hbx.block _ (heap_lt HXX.out)).trans HXX.out)
      replace HU:=Lh (HU.out.below hbx lz lz hbx.size)
      replace HV:=Lh (HV.out.below hbx lz lz hbx.size)
      have Hw8:=Lh (And.intro hw8 hbV)
      clear hbx hw8 hbV
      go_upto_region 4 with fail
      rw [← Hw8.out.1,← Hw8.out.2]
      clear Hw8
      go_upto_region 6 with fail
      have HV8:=Lh (show ∀w':World,Below w8.heap.size w8 w'→Rep w' w6.heap.size w'.heap.size (rootJ RR) (.agg #[.int .u8 5,.int .i64 0,.string ⟨#[]⟩,.slice an 5 cn,.slice ai 5 ci])∧w'.heap[bV]?=some (.cells #[.int .u8 5,.int .i64 0,.string ⟨#[]⟩,.slice an 5 cn,.slice ai 5 ci] 25 (0,0)) from fun w' h=>⟨HV.out.below h lz lz h.size,(h.block _ (heap_lt HXV.out)).trans HXV.out⟩)
      go_wp2_with fail
      go_loopw [11,12,13,14,15] (fun i _ _ _ _ wr=>∃j:Nat,j≤5∧i=.int .i64 j∧Below w8.heap.size w8 wr) (fun i _ _ _ _ _=>5 - (intOf i).toNat)
      case atStart=>exact ⟨0,by omega,rfl,Below.refl _ _⟩
      case round =>
       obtain ⟨j,hj,rfl,hbj⟩:=hrel
       have HBJ:=Lh hbj
       clear hbj
       obtain ⟨xV0,xV1,xV2,xV3,xV4⟩:=boxc5 (HV8.out wr HBJ.out).2
       by_cases hlt:j<5
       case pos =>
        clear xV0 xV1 xV2 xV3 xV4
        obtain ⟨pb,po,hpa,hpl,hpc⟩:=obj_name (HV8.out wr HBJ.out).1 j hlt
        subst hpa
        obtain ⟨nm,hnm⟩:∃nm,nm=(rootJ RR).names[j]:=⟨_,rfl⟩
        have HMEM:=Lh (show nm ∈ [typN,expN,keysN,rolN,verN] from by rw [hnm];exact List.getElem_mem hlt)
        replace hpc:=hpc.trans (congrArg (fun z=>some (Value.string z)) hnm.symm)
        clear hnm
        have HBW:=Lh (HB.out.trans (HBJ.out.mono HB.out.size))
        have HWR0:=Lh (show 0<wr.heap.size from Nat.lt_of_lt_of_le HZ0.out HBW.out.size)
        obtain ⟨J,hJ⟩:∃J,J=outJ (rootJ RR) nm:=⟨_,rfl⟩
        have HFJ:=Lh (outRoot_facts HM.out HMEM.out)
        have HWO:=Lh (show ∀w':World,Below wr.heap.size wr w'→Calls Tryz.prog 32 #[.agg #[.int .u8 5,.int .i64 0,.string ⟨#[]⟩,.slice (some ⟨pb,po,none⟩) 5 cn,.slice ai 5 ci],.string nm] w' (fun e w2=>∃y,e=.returned y∧IsTupJ wr.heap.size J (.bool true) w2 y∧Below w'.heap.size w' w2) from fun w' h=>by rw [hJ];exact outRootE RR nm _ w' w6.heap.size wr.heap.size h.size HLO.out HM.out HMEM.out (HV8.out w' (HBJ.out.trans (h.mono HBJ.out.size))).1)
        rw [← hJ] at HFJ
        clear hJ HMEM
        have HSOL:=Lh HFJ.out.2.2
        have HC5:=Lh (show ∀w':World,Below wr.heap.size wr w'→w'.cell? ⟨bV,0,none⟩=some (.int .u8 5)∧w'.cell? ⟨bV,1,none⟩=some (.int .i64 0)∧w'.cell? ⟨bV,2,none⟩=some (.string ⟨#[]⟩)∧w'.cell? ⟨bV,3,none⟩=some (.slice (some ⟨pb,po,none⟩) 5 cn)∧w'.cell? ⟨bV,4,none⟩=some (.slice ai 5 ci)∧w'.cell? ⟨pb,po+j,none⟩=some (.string nm) from fun w' h=>by
         have z:=(HV8.out w' (HBJ.out.trans (h.mono HBJ.out.size))).2
         exact ⟨box_cell z rfl,box_cell z rfl,box_cell z rfl,box_cell z rfl,box_cell z rfl,by rw [h.cell hpl];exact hpc⟩)
        have hlt5:(j:Int)<5:=by omega
        have hj0:(0:Int)≤(j:Int):=by omega
        obtain ⟨xV0,xV1,xV2,xV3,xV4⟩:=boxc5 (HV8.out wr HBJ.out).2
        go_upto_region 9 with fail
        clear xV0 xV1 xV2 xV3 xV4
        obtain ⟨V,hV⟩:∃V:List MP,V=[.con (.agg #[.int .u8 5,.int .i64 0,.string ⟨#[]⟩,.slice (some ⟨pb,po,none⟩) 5 cn,.slice ai 5 ci]),.con (.pointer (some ⟨bV,3,none⟩)),.con (.slice (some ⟨pb,po,none⟩) 5 cn),.con (.int .i64 (j:Int)),.con (.pointer (some ⟨pb,po+j,none⟩)),.con (.string nm),.tupJ wr.heap.size J (.bool true),.tupJ wr.heap.size J (.bool true),.objJ wr.heap.size J,.con (.bool true),.blk wr.heap.size 25 #[.int .u8 0,.int .i64 0,.string ⟨#[]⟩,.slice none 0 0,.slice none 0 0]]:=⟨_,rfl⟩
        have HV:=Lh hV
        clear hV
        refine wp_region_free 11 9 (fun d a' w'=>∃x75 x76 x77 x78 x79 x80 x81 x74 x82 x83 x12,a'=⟨#[Value.agg #[Value.int IntKind.i64 v,Value.int IntKind.i64 e,Value.slice ka l.length kc,Value.int IntKind.i64 t1,Value.slice i1 d1.length c1,Value.int IntKind.i64 t2,Value.slice i2 d2.length c2,Value.int IntKind.i64 t3,Value.slice i3 d3.length c3],Value.string n,Value.agg #[Value.int IntKind.u8 u.kind,Value.int IntKind.i64 u.n,Value.string u.t,Value.slice uan u.names.length ucn,Value.slice uai u.items.length uci],Value.string t,Value.pointer (some { block:=bR,off:=0 }),undef,Value.pointer (some { block:=bX,off:=0 }),undef,u8,Value.pointer (some { block:=bV,off:=0 }),Value.int IntKind.i64 0,Value.int IntKind.i64 (j:Int),x12,u13,u14,u15,undef,undef,undef,undef,undef,undef,undef,undef,undef,undef,undef,undef,undef,undef,undef,undef,undef,Value.agg #[Value.int IntKind.i64 v,Value.int IntKind.i64 e,Value.slice ka l.length kc,Value.int IntKind.i64 t1,Value.slice i1 d1.length c1,Value.int IntKind.i64 t2,Value.slice i2 d2.length c2,Value.int IntKind.i64 t3,Value.slice i3 d3.length c3],Value.bool false,Value.bool false,Value.agg #[Value.int IntKind.u8 u.kind,Value.int IntKind.i64 u.n,Value.string u.t,Value.slice uan u.names.length ucn,Value.slice uai u.items.length uci],Value.slice (some { block:=bL,off:=0 }) 1 1,Value.bool false,Value.bool false,Value.bool false,Value.string n,Value.int IntKind.i64 (n.size:Int),Value.bool false,Value.bool false,Value.bool false,Value.string t,Value.int IntKind.i64 (t.size:Int),Value.bool false,Value.bool false,Value.bool false,Value.agg #[Value.int IntKind.i64 v,Value.int IntKind.i64 e,Value.slice ka l.length kc,Value.int IntKind.i64 t1,Value.slice i1 d1.length c1,Value.int IntKind.i64 t2,Value.slice i2 d2.length c2,Value.int IntKind.i64 t3,Value.slice i3 d3.length c3],Value.bool true,Value.bool false,Value.bool false,Value.bool false,Value.bool true,Value.bool false,Value.bool false,undef,Value.tuple #[Value.agg #[Value.int IntKind.u8 5,Value.int IntKind.i64 0,Value.string ⟨#[]⟩,Value.slice (some { block:=pb,off:=po }) 5 cn,Value.slice ai 5 ci],Value.int IntKind.i64 0],Value.agg #[Value.int IntKind.i64 v,Value.int IntKind.i64 e,Value.slice ka l.length kc,Value.int IntKind.i64 t1,Value.slice i1 d1.length c1,Value.int IntKind.i64 t2,Value.slice i2 d2.length c2,Value.int IntKind.i64 t3,Value.slice i3 d3.length c3],Value.tuple #[Value.agg #[Value.int IntKind.u8 5,Value.int IntKind.i64 0,Value.string ⟨#[]⟩,Value.slice (some { block:=pb,off:=po }) 5 cn,Value.slice ai 5 ci],Value.int IntKind.i64 0],Value.agg #[Value.int IntKind.u8 5,Value.int IntKind.i64 0,Value.string ⟨#[]⟩,Value.slice (some { block:=pb,off:=po }) 5 cn,Value.slice ai 5 ci],Value.int IntKind.i64 0,Value.int IntKind.i64 0,Value.bool false,Value.int IntKind.i64 (j:Int),Value.pointer (some { block:=bV,off:=3 }),Value.slice (some { block:=pb,off:=po }) 5 cn,Value.int IntKind.i64 5,Value.bool true,u72,u73,x74,x75,x76,x77,x78,x79,x80,x81,x82,x83,u84,u85,u86,u87,u88,u89,u90,u91,u92,u93,u94,undef,undef,undef,undef,undef,undef,undef,undef,undef,undef,undef,undef,undef,undef,undef,undef,undef,undef,undef,undef,undef,undef,undef,undef,undef,undef,undef,undef,undef,undef,undef,undef,undef,undef,undef,undef,undef,undef,undef,undef,undef,undef,undef,undef,undef,undef,undef,undef,undef,undef,undef,undef,undef,undef,undef,undef,undef,undef,undef,undef,undef,undef,undef,undef,undef,undef,undef,undef,undef,undef,undef,undef,undef,undef,undef,undef,undef,undef,undef,undef,undef,undef,undef,undef,undef,undef,undef,undef,undef,undef,undef,undef,undef,undef,undef,undef,undef,undef,undef,undef,undef,undef,undef,undef,undef,undef,undef,undef,undef,undef,undef,undef,undef,undef,undef,undef,undef,undef,undef,undef,undef,undef,undef,undef,undef,undef,undef,undef,undef,undef,undef,undef,undef,undef,undef,undef,undef,undef,undef,undef,undef,undef,undef,undef,undef,undef,undef,undef,undef,undef,undef,undef,undef,undef,undef,undef],[]⟩∧RegI wr V d w' [x75,x76,x77,x78,x79,x80,x81,x74,x82,x83,x12]) (fun ee a' w'=>∃x75 x76 x77 x78 x79 x80 x81 x82 x83 b12 an7 cn7 ai7 ci7 an8 cn8 ai8 ci8,a'=⟨#[Value.agg #[Value.int IntKind.i64 v,Value.int IntKind.i64 e,Value.slice ka l.length kc,Value.int IntKind.i64 t1,Value.slice i1 d1.length c1,Value.int IntKind.i64 t2,Value.slice i2 d2.length c2,Value.int IntKind.i64 t3,Value.slice i3 d3.length c3],Value.string n,Value.agg #[Value.int IntKind.u8 u.kind,Value.int IntKind.i64 u.n,Value.string u.t,Value.slice uan u.names.length ucn,Value.slice uai u.items.length uci],Value.string t,Value.pointer (some { block:=bR,off:=0 }),undef,Value.pointer (some { block:=bX,off:=0 }),undef,u8,Value.pointer (some { block:=bV,off:=0 }),Value.int IntKind.i64 0,Value.int IntKind.i64 (j:Int),.pointer (some ⟨b12,0,none⟩),u13,u14,u15,undef,undef,undef,undef,undef,undef,undef,undef,undef,undef,undef,undef,undef,undef,undef,undef,undef,Value.agg #[Value.int IntKind.i64 v,Value.int IntKind.i64 e,Value.slice ka l.length kc,Value.int IntKind.i64 t1,Value.slice i1 d1.length c1,Value.int IntKind.i64 t2,Value.slice i2 d2.length c2,Value.int IntKind.i64 t3,Value.slice i3 d3.length c3],Value.bool false,Value.bool false,Value.agg #[Value.int IntKind.u8 u.kind,Value.int IntKind.i64 u.n,Value.string u.t,Value.slice uan u.names.length ucn,Value.slice uai u.items.length uci],Value.slice (some { block:=bL,off:=0 }) 1 1,Value.bool false,Value.bool false,Value.bool false,Value.string n,Value.int IntKind.i64 (n.size:Int),Value.bool false,Value.bool false,Value.bool false,Value.string t,Value.int IntKind.i64 (t.size:Int),Value.bool false,Value.bool false,Value.bool false,Value.agg #[Value.int IntKind.i64 v,Value.int IntKind.i64 e,Value.slice ka l.length kc,Value.int IntKind.i64 t1,Value.slice i1 d1.length c1,Value.int IntKind.i64 t2,Value.slice i2 d2.length c2,Value.int IntKind.i64 t3,Value.slice i3 d3.length c3],Value.bool true,Value.bool false,Value.bool false,Value.bool false,Value.bool true,Value.bool false,Value.bool false,undef,Value.tuple #[Value.agg #[Value.int IntKind.u8 5,Value.int IntKind.i64 0,Value.string ⟨#[]⟩,Value.slice (some { block:=pb,off:=po }) 5 cn,Value.slice ai 5 ci],Value.int IntKind.i64 0],Value.agg #[Value.int IntKind.i64 v,Value.int IntKind.i64 e,Value.slice ka l.length kc,Value.int IntKind.i64 t1,Value.slice i1 d1.length c1,Value.int IntKind.i64 t2,Value.slice i2 d2.length c2,Value.int IntKind.i64 t3,Value.slice i3 d3.length c3],Value.tuple #[Value.agg #[Value.int IntKind.u8 5,Value.int IntKind.i64 0,Value.string ⟨#[]⟩,Value.slice (some { block:=pb,off:=po }) 5 cn,Value.slice ai 5 ci],Value.int IntKind.i64 0],Value.agg #[Value.int IntKind.u8 5,Value.int IntKind.i64 0,Value.string ⟨#[]⟩,Value.slice (some { block:=pb,off:=po }) 5 cn,Value.slice ai 5 ci],Value.int IntKind.i64 0,Value.int IntKind.i64 0,Value.bool false,Value.int IntKind.i64 (j:Int),Value.pointer (some { block:=bV,off:=3 }),Value.slice (some { block:=pb,off:=po }) 5 cn,Value.int IntKind.i64 5,Value.bool true,u72,u73,.tuple #[.agg #[.int .u8 5,.int .i64 0,.string ⟨#[]⟩,.slice an7 J.names.length cn7,.slice ai7 J.items.length ci7],.bool true],x75,x76,x77,x78,x79,x80,x81,x82,x83,u84,u85,u86,u87,u88,u89,u90,u91,u92,u93,u94,undef,undef,undef,undef,undef,undef,undef,undef,undef,undef,undef,undef,undef,undef,undef,undef,undef,undef,undef,undef,undef,undef,undef,undef,undef,undef,undef,undef,undef,undef,undef,undef,undef,undef,undef,undef,undef,undef,undef,undef,undef,undef,undef,undef,undef,undef,undef,undef,undef,undef,undef,undef,undef,undef,undef,undef,undef,undef,undef,undef,undef,undef,undef,undef,undef,undef,undef,undef,undef,undef,undef,undef,undef,undef,undef,undef,undef,undef,undef,undef,undef,undef,undef,undef,undef,undef,undef,undef,undef,undef,undef,undef,undef,undef,undef,undef,undef,undef,undef,undef,undef,undef,undef,undef,undef,undef,undef,undef,undef,undef,undef,undef,undef,undef,undef,undef,undef,undef,undef,undef,undef,undef,undef,undef,undef,undef,undef,undef,undef,undef,undef,undef,undef,undef,undef,undef,undef,undef,undef,undef,undef,undef,undef,undef,undef,undef,undef,undef,undef,undef,undef,undef,undef,undef,undef,undef],[]⟩∧(ee→x83=.bool true)∧Below wr.heap.size wr w'∧wr.heap.size≤b12∧w'.heap[b12]?=some (.cells #[.int .u8 5,.int .i64 0,.string ⟨#[]⟩,.slice an8 J.names.length cn8,.slice ai8 J.items.length ci8] 25 (0,0))∧Rep w' wr.heap.size w'.heap.size J (.agg #[.int .u8 5,.int .i64 0,.string ⟨#[]⟩,.slice an8 J.names.length cn8,.slice ai8 J.items.length ci8])) (by kernel_rfl) (by kernel_rfl) (by kernel_rfl) ?first ?step ?store ?late ?last
        case first=>exact ⟨_,_,_,_,_,_,_,_,_,_,_,rfl,RegI.first _ _ _ (by rw [HV.out];rfl)⟩
        case step =>
         rintro d a' w' ⟨x75,x76,x77,x78,x79,x80,x81,x74,x82,x83,x12,rfl,h⟩ q hq hn hw
         rcases q with _|_|_|_|_|_|_|_|_|_|_|q
         · obtain ⟨y0,y1,y2,y3,y4,y5⟩:=HC5.out w' h.1
           refine wpOp_step rfl fun K hK=>?_
           go_simp
           exact hK _ _ ⟨_,x76,x77,x78,x79,x80,x81,x74,x82,x83,x12,rfl,h.same 0 _ (.con (.agg #[.int .u8 5,.int .i64 0,.string ⟨#[]⟩,.slice (some ⟨pb,po,none⟩) 5 cn,.slice ai 5 ci])) (by rw [HV.out];rfl) rfl⟩
         · refine wpOp_step rfl fun K hK=>?_
           go_simp
           exact hK _ _ ⟨x75,_,x77,x78,x79,x80,x81,x74,x82,x83,x12,rfl,h.same 1 _ (.con (.pointer (some ⟨bV,3,none⟩))) (by rw [HV.out];rfl) rfl⟩
         · obtain rfl:x76=.pointer (some ⟨bV,3,none⟩):=h.get 1 (hw _ rfl ⟨1,.data⟩ (by simp) rfl) (.con (.pointer (some ⟨bV,3,none⟩))) (by rw [HV.out];rfl) _ rfl
           obtain ⟨y0,y1,y2,y3,y4,y5⟩:=HC5.out w' h.1
           refine wpOp_step rfl fun K hK=>?_
           go_simp
           exact hK _ _ ⟨x75,_,_,x78,x79,x80,x81,x74,x82,x83,x12,rfl,h.same 2 _ (.con (.slice (some ⟨pb,po,none⟩) 5 cn)) (by rw [HV.out];rfl) rfl⟩
         · refine wpOp_step rfl fun K hK=>?_
           go_simp
           exact hK _ _ ⟨x75,x76,x77,_,x79,x80,x81,x74,x82,x83,x12,rfl,h.same 3 _ (.con (.int .i64 (j:Int))) (by rw [HV.out];rfl) rfl⟩
         · obtain rfl:x77=.slice (some ⟨pb,po,none⟩) 5 cn:=h.get 2 (hw _ rfl ⟨2,.data⟩ (by simp) rfl) (.con (.slice (some ⟨pb,po,none⟩) 5 cn)) (by rw [HV.out];rfl) _ rfl
           obtain rfl:x78=.int .i64 (j:Int):=h.get 3 (hw _ rfl ⟨3,.data⟩ (by simp) rfl) (.con (.int .i64 (j:Int))) (by rw [HV.out];rfl) _ rfl
           obtain ⟨y0,y1,y2,y3,y4,y5⟩:=HC5.out w' h.1
           refine wpOp_step rfl fun K hK=>?_
           go_simp
           exact hK _ _ ⟨x75,x76,_,_,_,x80,x81,x74,x82,x83,x12,rfl,h.same 4 _ (.con (.pointer (some ⟨pb,po+j,none⟩))) (by rw [HV.out];rfl) rfl⟩
         · obtain rfl:x79=.pointer (some ⟨pb,po+j,none⟩):=h.get 4 (hw _ rfl ⟨4,.data⟩ (by simp) rfl) (.con (.pointer (some ⟨pb,po+j,none⟩))) (by rw [HV.out];rfl) _ rfl
           obtain ⟨y0,y1,y2,y3,y4,y5⟩:=HC5.out w' h.1
           refine wpOp_step rfl fun K hK=>?_
           go_simp
           exact hK _ _ ⟨x75,x76,x77,x78,_,_,x81,x74,x82,x83,x12,rfl,h.same 5 _ (.con (.string nm)) (by rw [HV.out];rfl) rfl⟩
         · obtain rfl:x75=.agg #[.int .u8 5,.int .i64 0,.string ⟨#[]⟩,.slice (some ⟨pb,po,none⟩) 5 cn,.slice ai 5 ci]:=h.get 0 (hw _ rfl ⟨0,.data⟩ (by simp) rfl) (.con (.agg #[.int .u8 5,.int .i64 0,.string ⟨#[]⟩,.slice (some ⟨pb,po,none⟩) 5 cn,.slice ai 5 ci])) (by rw [HV.out];rfl) _ rfl
           obtain rfl:x80=.string nm:=h.get 5 (hw _ rfl ⟨5,.data⟩ (by simp) rfl) (.con (.string nm)) (by rw [HV.out];rfl) _ rfl
           obtain ⟨y0,y1,y2,y3,y4,y5⟩:=HC5.out w' h.1
           refine wpOp_step rfl fun K hK=>?_
           go_simp
           refine (HWO.out w' h.1).mono ?_
           rintro e w2 ⟨y,rfl,hy,hb2⟩
           exact hK _ _ ⟨_,x76,x77,x78,x79,_,_,x74,x82,x83,x12,rfl,h.did hb2 6 _ (.tupJ wr.heap.size J (.bool true)) (by rw [HV.out];rfl) hy⟩
         · have hs81:=h.get 6 (hw _ rfl ⟨6,.data⟩ (by simp) rfl) (.tupJ wr.heap.size J (.bool true)) (by rw [HV.out];rfl) _ rfl
           obtain ⟨an7,cn7,ai7,ci7,rfl,hr7⟩:=hs81
           refine wpOp_step rfl fun K hK=>?_
           go_simp
           exact hK _ _ ⟨x75,x76,x77,x78,x79,x80,_,_,x82,x83,x12,rfl,h.same 7 _ (.tupJ wr.heap.size J (.bool true)) (by rw [HV.out];rfl) ⟨_,_,_,_,rfl,hr7⟩⟩
         · have hs74:=h.get 7 (hw _ rfl ⟨7,.data⟩ (by simp) rfl) (.tupJ wr.heap.size J (.bool true)) (by rw [HV.out];rfl) _ rfl
           obtain ⟨an7,cn7,ai7,ci7,rfl,hr7⟩:=hs74
           refine wpOp_step rfl fun K hK=>?_
           go_simp
           exact hK _ _ ⟨x75,x76,x77,x78,x79,x80,x81,_,_,x83,x12,rfl,h.same 8 _ (.objJ wr.heap.size J) (by rw [HV.out];rfl) ⟨_,_,_,_,rfl,hr7⟩⟩
         · have hs74:=h.get 7 (hw _ rfl ⟨7,.data⟩ (by simp) rfl) (.tupJ wr.heap.size J (.bool true)) (by rw [HV.out];rfl) _ rfl
           obtain ⟨an7,cn7,ai7,ci7,rfl,hr7⟩:=hs74
           refine wpOp_step rfl fun K hK=>?_
           go_simp
           exact hK _ _ ⟨x75,x76,x77,x78,x79,x80,x81,_,x82,_,x12,rfl,h.same 9 _ (.con (.bool true)) (by rw [HV.out];rfl) rfl⟩
         · refine wpOp_step rfl fun K hK=>?_
           go_simp
           exact hK _ _ ⟨x75,x76,x77,x78,x79,x80,x81,x74,x82,x83,_,rfl,h.new _ 10 _ (.blk wr.heap.size 25 #[.int .u8 0,.int .i64 0,.string ⟨#[]⟩,.slice none 0 0,.slice none 0 0]) (by rw [HV.out];rfl) (IsBlk.made _ h.1.size)⟩
         · omega
        case store =>
         rintro d a' w' ⟨x75,x76,x77,x78,x79,x80,x81,x74,x82,x83,x12,rfl,h⟩ hall
         obtain ⟨b12,k12,rfl,m12⟩:=h.get 10 (hall 10 (by omega) (by omega)) (.blk wr.heap.size 25 #[.int .u8 0,.int .i64 0,.string ⟨#[]⟩,.slice none 0 0,.slice none 0 0]) (by rw [HV.out];rfl) _ rfl
         obtain ⟨an7,cn7,ai7,ci7,rfl,hr7⟩:=h.get 7 (hall 7 (by omega) (by omega)) (.tupJ wr.heap.size J (.bool true)) (by rw [HV.out];rfl) _ rfl
         obtain ⟨an8,cn8,ai8,ci8,rfl,hr8⟩:=h.get 8 (hall 8 (by omega) (by omega)) (.objJ wr.heap.size J) (by rw [HV.out];rfl) _ rfl
         refine wpOp_step rfl fun K hK=>?_
         refine step_store_row rfl 25 (.tmp 12) (.tmp 82) rfl b12 #[.int .u8 5,.int .i64 0,.string ⟨#[]⟩,.slice an8 J.names.length cn8,.slice ai8 J.items.length ci8] rfl rfl 25 _ m12 (by kernel_rfl) rfl (by simp [Value.oneCell']) ?_
         have hsk:=Rep.skip (w':=w'.setRow b12 #[.int .u8 5,.int .i64 0,.string ⟨#[]⟩,.slice an8 J.names.length cn8,.slice ai8 J.items.length ci8]) (show w'.heap[b12]?=some (.cells zero5 25 (0,0)) from m12) (fun x hx=>by simp only [World.setRow,Array.getElem?_modify];rw [if_neg (fun e=>hx e.symm)]) _ _ HSOL.out hr8
         exact hK _ _ ⟨x75,x76,x77,x78,x79,x80,x81,_,x83,b12,an7,cn7,ai7,ci7,an8,cn8,ai8,ci8,rfl,fun hd=>h.get 9 hd (.con (.bool true)) (by rw [HV.out];rfl) _ rfl,below_setRowN h.1 k12 _,k12,by simp [World.setRow,Array.getElem?_modify,m12],Rep.carry lz (by simp [World.setRow]) (fun _ _ _=>rfl) _ _ hsk⟩
        case late =>
         rintro a' w' ⟨x75,x76,x77,x78,x79,x80,x81,x82,x83,b12,an7,cn7,ai7,ci7,an8,cn8,ai8,ci8,rfl,hF⟩
         obtain ⟨-,hb,k12,m12,hr⟩:=hF
         refine wpOp_step rfl fun K hK=>?_
         go_simp
         exact hK _ _ ⟨x75,x76,x77,x78,x79,x80,x81,x82,_,b12,an7,cn7,ai7,ci7,an8,cn8,ai8,ci8,rfl,fun _=>rfl,hb,k12,m12,hr⟩
        case last =>
         rintro a' w' ⟨x75,x76,x77,x78,x79,x80,x81,x82,x83,b12,an7,cn7,ai7,ci7,an8,cn8,ai8,ci8,rfl,hF⟩
         obtain ⟨h71,hle,k12,m12,hr8⟩:=hF
         obtain rfl:=h71 trivial
         clear h71 HV
         have HLE:=Lh hle
         have HR8:=Lh hr8
         have HM12:=Lh m12
         clear hr8 hle m12
         have HBA:=Lh (HBJ.out.trans (HLE.out.mono HBJ.out.size))
         have HBX:=Lh (HB.out.trans (HBA.out.mono HB.out.size))
         obtain ⟨xW0,xW1,xW2,xW3,xW4⟩:=boxc5 HM12.out
         go_upto_region 10 with fail
         have HCO:=Lh (of22 J _ w' wr.heap.size HWR0.out HFJ.out.1 HR8.out (HTB.out w' HBX.out).1 (HTB.out w' HBX.out).2.1 (HTB.out w' HBX.out).2.2.2)
         rw [HFJ.out.2.1] at HCO
         go_wp2_with fail
         refine HCO.out.mono ?_
         clear HCO xW0 xW1 xW2 xW3 xW4
         rintro ee wd ⟨z0,z1,z2,z3,z4,n0,n1,n2,n3,y0,y1,y2,y3,m0,m1,m2,m3,h4,hb⟩
         subst h4
         have HBD:=Lh ((HBA.out.trans (hb.mono HBA.out.size)).alloc (Nat.le_trans HBA.out.size hb.size) (.cells #[.int .i64 z0,.int .i64 z1,.slice y0 n0 m0,.int .i64 z2,.slice y1 n1 m1,.int .i64 z3,.slice y2 n2 m2,.int .i64 z4,.slice y3 n3 m3] 32))
         clear hb
         go_wp2
         exact ⟨⟨j+1,by omega,by go_num,HBD.out⟩,by simp [intOf];omega⟩
       case neg =>
        obtain rfl:j=5:=by omega
        clear hlt hj
        go_upto_if 71 with fail
        clear xV0 xV1 xV2 xV3 xV4
        have HB8:=Lh (HB.out.trans (HBJ.out.mono HB.out.size))
        replace HV:=Lh (HV8.out wr HBJ.out).1
        replace HXV:=Lh (HV8.out wr HBJ.out).2
        replace HXX:=Lh ((HBJ.out.block _ (heap_lt HXX.out)).trans HXX.out)
        replace HU:=Lh (HU.out.below HBJ.out lz lz HBJ.out.size)
        replace HB:=HB8
        go_step
        go_step
        go_step
        go_step
        go_step
        go_step
        exact lawNothB RR n u uan uai ucn uci t w w6 wr an ai cn ci bX bV _ _ _ _ _ _ _ _ _ _ _ _ _ _ _ _ _ _ _ _ _ _ _ _ _ _ _ _ _ _ _ _ _ _ _ _ _ _ _ _ _ _ _ _ _ _ _ _ _ _ _ _ _ _ _ _ _ _ _ _ _ _ _ _ _ _ _ _ _ _ _ _ _ _ _ _ _ _ _ _ _ _ _ _ _ _ _ _ _ _ _ _ _ _ _ _ _ _ _ _ _ _ _ _ _ _ _ _ _ _ _ _ _ _ _ _ _ _ _ _ _ _ _ _ _ _ _ _ _ _ _ _ _ _ _ _ _ _ _ _ _ _ _ _ _ _ _ _ _ _ _ _ _ _ _ _ _ _ _ _ _ _ _ _ _ _ _ _ _ _ _ _ _ _ _ _ _ _ _ _ _ _ _ _ _ _ _ _ _ _ _ _ _ _ _ _ _ _ _ _ _ _ _ _ _ _ _ _ _ _ _ _ _ _ _ _ _ _ _ _ _ _ _ _ _ _ _ _ _ _ _ _ _ _ _ _ _ _ _ _ _ _ _ _ _ _ _ HTB.out HB.out HZ0.out HLO.out HM.out HWU.out HNS.out HTS.out HU.out HV.out HXX.out HXV.out
end Go.Proofs.YtnlgmcapbbgelaaGreatDoor
