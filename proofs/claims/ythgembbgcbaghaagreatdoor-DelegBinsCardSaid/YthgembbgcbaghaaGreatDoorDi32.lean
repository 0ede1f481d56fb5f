/- The contract of bins.Prefixed. -/
import Derived.Test.YthgembbgcbaghaaGreatDoorDi31
import Derived.Shelf.SlSortCmp.WholeK
import Derived.Test.YthgembbgcbaghaaGreatDoorDi24

namespace Go.Proofs.YthgembbgcbaghaaGreatDoor
open Go.RowKit
set_option maxHeartbeats 2000000 in
set_option maxRecDepth 100000 in
theorem uD (t:Int) (k n:Nat) (ids:List ByteArray) (pre:ByteArray) (ia:Option Addr) (ic:Nat) (w:World) (hp:pre.size≤4294967296) (hw:zm ⟨(k:Int),pre,⟨t,ids⟩⟩=0) (h1:1≤k) (h2:k≤32) (hn:n<2 ^ k) :
 Calls Tryz.prog 101 #[.agg #[.int .i64 t,.slice ia ids.length ic,.int .i64 k,.string pre],.int .u32 n] w fun e w'=>e=.returned (.tuple #[.string (qT pre k n),.int .i64 0])∧Below w.heap.size w w':=by
 have hn32:n<4294967296:=Nat.lt_of_lt_of_le hn (Nat.le_trans (Nat.pow_le_pow_right (by decide) h2) (by decide))
 obtain ⟨W,hW⟩:∃W,W=w.alloc (.cells #[.int .i64 t,.slice ia ids.length ic,.int .i64 k,.string pre] 33):=⟨_,rfl⟩
 have hbw:Below w.heap.size w W:=by rw [hW];exact (Below.refl _ _).alloc lz _
 have hx:W.heap[w.heap.size]?=some (.cells #[.int .i64 t,.slice ia ids.length ic,.int .i64 k,.string pre] 33 (0,0)):=by rw [hW];exact heap_alloc_new w _
 have HB:=Lh hbw
 have HC:=Lh (show ∀w':World,Below W.heap.size W w'→w'.cell? ⟨w.heap.size,0,none⟩=some (.int .i64 t)∧w'.cell? ⟨w.heap.size,1,none⟩=some (.slice ia ids.length ic)∧w'.cell? ⟨w.heap.size,2,none⟩=some (.int .i64 k)∧w'.cell? ⟨w.heap.size,3,none⟩=some (.string pre) from fun w' h=>by
  have y:=(h.block _ (qx hx)).trans hx
  exact ⟨qq y rfl,qq y rfl,qq y rfl,qq y rfl⟩)
 have HWR:=Lh (kt t k ids pre ia ic W hp (by omega))
 rw [hw] at HWR
 have HHS:=Lh (fun w=>(dp k n w h2 hn32).mono fun e w' h=>show e=.returned (.bool true)∧w=w' from ⟨by rw [h.1,decide_eq_true hn],h.2.symm⟩)
 have HWD:=Lh (fun w=>(yo k w h2).mono fun e w' h=>show e=.returned (.int .i64 ((xr k:Nat):Int))∧Below w.heap.size w w' from ⟨h.1,by rw [h.2];exact Below.refl _ _⟩)
 have hw8:xr k≤8:=by unfold xr;omega
 have HTX:=Lh (fun w=>uC n (xr k) w hn32 hw8)
 obtain ⟨wd,hwd⟩:∃wd,wd=xr k:=⟨_,rfl⟩
 have HRO:=Lh (show qT pre k n=pre ++ r9 ++ ⟨(xA wd n).toArray⟩ from by rw [hwd];rfl)
 rw [← hwd] at HWD HTX
 obtain ⟨T,hT⟩:∃T:ByteArray,T=⟨(xA wd n).toArray⟩:=⟨_,rfl⟩
 rw [← hT] at HTX HRO
 have hTs:T.size≤8:=by rw [hT];show (xA wd n).toArray.size≤8;rw [List.size_toArray,zA,hwd];exact hw8
 have s1:¬9223372036854775807<pre.size+1:=by omega
 have s2:¬9223372036854775807<pre.size+1+T.size:=by omega
 obtain ⟨R,hR⟩:∃R,R=qT pre k n:=⟨_,rfl⟩
 rw [← hR] at HRO ⊢
 have HW:=Lh hW
 clear hW hx hbw hw hn hwd hT hR
 obtain ⟨q0,q1,q2,q3⟩:=HC.out W (Below.refl _ _)
 go_enter Tryz.func101,Tryz.ntmps101
 go_upto_region 1 with fail
 rw [← HW.out]
 clear HW
 go_wp2_with fail
 refine HWR.out.mono ?_
 rintro e w3 ⟨rfl,hb⟩
 have HB3:=Lh hb
 obtain ⟨z0,z1,z2,z3⟩:=HC.out w3 hb
 clear hb q0 q1 q2 q3 HWR
 go_upto_region 6 with (go_at_call 173;refine (HHS.out _).mono ?_;rintro e w4 ⟨rfl,rfl⟩)
 clear z0 z1 z2 z3
 obtain ⟨V,hV⟩:∃V:List MP,V=[.con (.pointer (some ⟨w.heap.size,3,none⟩)),.con (.string pre),.con (.string (pre ++ ⟨#[45]⟩)),.con (.int .u32 (n:Int)),.con (.pointer (some ⟨w.heap.size,2,none⟩)),.con (.int .i64 (k:Int)),.con (.int .i64 (wd:Int)),.con (.string T),.con (.string (pre ++ ⟨#[45]⟩ ++ T))]:=⟨_,rfl⟩
 have HV:=Lh hV
 clear hV
 refine zq 9 (fun d a' w'=>∃x17 x18 x19 x20 x21 x22 x23 x24 x25,a'=⟨#[.agg #[.int .i64 t,.slice ia ids.length ic,.int .i64 (k:Int),.string pre],.int .u32 (n:Int),.pointer (some ⟨w.heap.size,0,none⟩),undef,.string ⟨#[]⟩,.int .i64 0,.int .i64 0,.agg #[.int .i64 t,.slice ia ids.length ic,.int .i64 (k:Int),.string pre],.int .i64 0,.int .i64 0,.bool false,undef,.pointer (some ⟨w.heap.size,2,none⟩),.int .i64 (k:Int),.int .u32 (n:Int),.bool true,.bool false,x17,x18,x19,x20,x21,x22,x23,x24,x25],[]⟩∧zD w3 V d w' [x17,x18,x19,x20,x21,x22,x23,x24,x25]) (by kernel_rfl) (by kernel_rfl) ?first ?step ?last
 case first=>exact ⟨_,_,_,_,_,_,_,_,_,rfl,zD.first _ _ _ (by rw [HV.out];rfl)⟩
 case step =>
  rintro d a' w' ⟨x17,x18,x19,x20,x21,x22,x23,x24,x25,rfl,h⟩ q hq hn hw
  rcases q with _|_|_|_|_|_|_|_|_|q
  · refine wpOp_step rfl fun K hK=>?_
    go_simp
    exact hK _ _ ⟨_,x18,x19,x20,x21,x22,x23,x24,x25,rfl,h.sameC 0 _ HV rfl⟩
  · obtain rfl:=h.con 0 (hw _ rfl ⟨0,.data⟩ (by simp) rfl) HV rfl rfl
    obtain ⟨q0,q1,q2,q3⟩:=HC.out w' (HB3.out.trans (h.1.mono HB3.out.size))
    refine wpOp_step rfl fun K hK=>?_
    go_simp
    exact hK _ _ ⟨_,_,x19,x20,x21,x22,x23,x24,x25,rfl,h.sameC 1 _ HV rfl⟩
  · obtain rfl:=h.con 1 (hw _ rfl ⟨1,.data⟩ (by simp) rfl) HV rfl rfl
    refine wpOp_step rfl fun K hK=>?_
    go_simp
    exact hK _ _ ⟨x17,_,_,x20,x21,x22,x23,x24,x25,rfl,h.sameC 2 _ HV rfl⟩
  · refine wpOp_step rfl fun K hK=>?_
    go_simp
    exact hK _ _ ⟨x17,x18,x19,_,x21,x22,x23,x24,x25,rfl,h.sameC 3 _ HV rfl⟩
  · refine wpOp_step rfl fun K hK=>?_
    go_simp
    exact hK _ _ ⟨x17,x18,x19,x20,_,x22,x23,x24,x25,rfl,h.sameC 4 _ HV rfl⟩
  · obtain rfl:=h.con 4 (hw _ rfl ⟨4,.data⟩ (by simp) rfl) HV rfl rfl
    obtain ⟨q0,q1,q2,q3⟩:=HC.out w' (HB3.out.trans (h.1.mono HB3.out.size))
    refine wpOp_step rfl fun K hK=>?_
    go_simp
    exact hK _ _ ⟨x17,x18,x19,x20,_,_,x23,x24,x25,rfl,h.sameC 5 _ HV rfl⟩
  · obtain rfl:=h.con 5 (hw _ rfl ⟨5,.data⟩ (by simp) rfl) HV rfl rfl
    obtain ⟨q0,q1,q2,q3⟩:=HC.out w' (HB3.out.trans (h.1.mono HB3.out.size))
    refine wpOp_step rfl fun K hK=>?_
    go_simp
    refine (HWD.out w').mono ?_
    rintro e w2 ⟨rfl,hb2⟩
    exact hK _ _ ⟨x17,x18,x19,x20,x21,_,_,x24,x25,rfl,h.didC hb2 6 _ HV rfl⟩
  · obtain rfl:=h.con 3 (hw _ rfl ⟨3,.data⟩ (by simp) rfl) HV rfl rfl
    obtain rfl:=h.con 6 (hw _ rfl ⟨6,.data⟩ (by simp) rfl) HV rfl rfl
    obtain ⟨q0,q1,q2,q3⟩:=HC.out w' (HB3.out.trans (h.1.mono HB3.out.size))
    refine wpOp_step rfl fun K hK=>?_
    go_simp
    refine (HTX.out w').mono ?_
    rintro e w2 ⟨rfl,hb2⟩
    exact hK _ _ ⟨x17,x18,x19,_,x21,x22,_,_,x25,rfl,h.didC hb2 7 _ HV rfl⟩
  · obtain rfl:=h.con 2 (hw _ rfl ⟨2,.data⟩ (by simp) rfl) HV rfl rfl
    obtain rfl:=h.con 7 (hw _ rfl ⟨7,.data⟩ (by simp) rfl) HV rfl rfl
    refine wpOp_step rfl fun K hK=>?_
    go_simp
    exact hK _ _ ⟨x17,x18,_,x20,x21,x22,x23,_,_,rfl,h.sameC 8 _ HV rfl⟩
  · omega
 case last =>
  rintro d a' w' hall ⟨x17,x18,x19,x20,x21,x22,x23,x24,x25,rfl,h⟩
  have hle:=h.1
  obtain rfl:=h.con 8 (hall _ (by omega)) HV rfl rfl
  have HLE:=Lh hle
  clear h hall hle HV
  have hb:=HLE.out
  have HBF:=Lh (HB.out.trans ((HB3.out.trans (hb.mono HB3.out.size)).mono HB.out.size))
  clear hb
  go_wp2
  go_ret2
  exact ⟨by rw [HRO.out];rfl,HBF.out⟩
theorem bG {bits t:Int} {pre:ByteArray} {ids:List ByteArray} (h:zm ⟨bits,pre,⟨t,ids⟩⟩=0):∃k:Nat,bits=(k:Int)∧1≤k∧k≤32:=by
 unfold zm at h
 split at h
 · cases h
 · rename_i hn
   dsimp only at hn
   exact ⟨bits.toNat,by omega,by omega,by omega⟩
set_option maxHeartbeats 2000000 in
set_option maxRecDepth 100000 in
theorem bP (t:Int) (k:Nat) (ids:List ByteArray) (pre path:ByteArray) (ia:Option Addr) (ic:Nat) (w:World) (hp:pre.size≤4294967296) (hq:path.size≤4294967296) (hw:zm ⟨(k:Int),pre,⟨t,ids⟩⟩=0) (h1:1≤k) (h2:k≤32) (hT:Tabs w) :
 Calls Tryz.prog 43 #[.agg #[.int .i64 t,.slice ia ids.length ic,.int .i64 k,.string pre],.string path] w fun e w'=>e=.returned (.tuple #[.string (qT pre k (jD path k)),.int .i64 0])∧Below w.heap.size w w':=by
 obtain ⟨W,hW⟩:∃W,W=w.alloc (.cells #[.int .i64 t,.slice ia ids.length ic,.int .i64 k,.string pre] 33):=⟨_,rfl⟩
 have hbw:Below w.heap.size w W:=by rw [hW];exact (Below.refl _ _).alloc lz _
 have hx:W.heap[w.heap.size]?=some (.cells #[.int .i64 t,.slice ia ids.length ic,.int .i64 k,.string pre] 33 (0,0)):=by rw [hW];exact heap_alloc_new w _
 have HB:=Lh hbw
 have HC:=Lh (show ∀w':World,Below W.heap.size W w'→w'.cell? ⟨w.heap.size,0,none⟩=some (.int .i64 t)∧w'.cell? ⟨w.heap.size,1,none⟩=some (.slice ia ids.length ic)∧w'.cell? ⟨w.heap.size,2,none⟩=some (.int .i64 k)∧w'.cell? ⟨w.heap.size,3,none⟩=some (.string pre) from fun w' h=>by
  have y:=(h.block _ (qx hx)).trans hx
  exact ⟨qq y rfl,qq y rfl,qq y rfl,qq y rfl⟩)
 have HWR:=Lh (kt t k ids pre ia ic W hp (by omega))
 rw [hw] at HWR
 have HBI:=Lh (fun (w':World) (h:Below w.heap.size w w')=>af path k w' h1 h2 hq (hT.below h))
 have HRL:=Lh (fun w'=>uD t k (jD path k) ids pre ia ic w' hp hw h1 h2 (cT h2))
 obtain ⟨n,hn⟩:∃n,n=jD path k:=⟨_,rfl⟩
 rw [← hn] at HBI HRL ⊢
 obtain ⟨R,hR⟩:∃R,R=qT pre k n:=⟨_,rfl⟩
 rw [← hR] at HRL ⊢
 have HW:=Lh hW
 clear hW hx hbw hw hn hR hT
 obtain ⟨q0,q1,q2,q3⟩:=HC.out W (Below.refl _ _)
 go_enter Tryz.func43,Tryz.ntmps43
 go_upto_region 1 with fail
 rw [← HW.out]
 clear HW
 go_wp2_with fail
 refine HWR.out.mono ?_
 rintro e w3 ⟨rfl,hb⟩
 have HB3:=Lh hb
 obtain ⟨z0,z1,z2,z3⟩:=HC.out w3 hb
 clear hb q0 q1 q2 q3 HWR
 go_wp2_with fail
 refine (HBI.out _ (HB.out.trans (HB3.out.mono HB.out.size))).mono ?_
 clear z0 z1 z2 z3
 rintro e w4 ⟨rfl,hb⟩
 have HB4:=Lh (HB3.out.trans (hb.mono HB3.out.size))
 clear hb HBI
 obtain ⟨z0,z1,z2,z3⟩:=HC.out w4 HB4.out
 go_wp2_with fail
 refine (HRL.out _).mono ?_
 clear z0 z1 z2 z3
 rintro e w5 ⟨rfl,hb⟩
 have HB5:=Lh (HB.out.trans ((HB4.out.trans (hb.mono HB4.out.size)).mono HB.out.size))
 clear hb
 go_wp2
 go_ret2
 exact ⟨rfl,HB5.out⟩
theorem lF (bits t:Int) (pre:ByteArray) (ids:List ByteArray):qD ⟨bits,pre,⟨t,ids⟩⟩=(decide (bits=0) && (decide (pre.size=0) && (decide (t=0) && decide (ids.length=0)))):=by
 unfold qD
 have e1:pre=⟨#[]⟩↔pre.size=0:=⟨fun e=>by rw [e];rfl,fun e=>by
  obtain ⟨d⟩:=pre
  have:d.size=0:=e
  rw [Array.size_eq_zero_iff] at this
  rw [this]⟩
 have e2:ids=[]↔ids.length=0:=List.length_eq_zero_iff.symm
 simp only [e1,e2,Bool.decide_and]
set_option maxHeartbeats 1000000 in
set_option maxRecDepth 100000 in
theorem vy (t bits:Int) (ids:List ByteArray) (pre:ByteArray) (ia:Option Addr) (ic:Nat) (w:World) :
 Calls Tryz.prog 75 #[.agg #[.int .i64 t,.slice ia ids.length ic,.int .i64 bits,.string pre]] w fun e w'=>e=.returned (.bool (qD ⟨bits,pre,⟨t,ids⟩⟩))∧Below w.heap.size w w':=by
 obtain ⟨W,hW⟩:∃W,W=w.alloc (.cells #[.int .i64 t,.slice ia ids.length ic,.int .i64 bits,.string pre] 33):=⟨_,rfl⟩
 have hbw:Below w.heap.size w W:=by rw [hW];exact (Below.refl _ _).alloc lz _
 have hx:W.heap[w.heap.size]?=some (.cells #[.int .i64 t,.slice ia ids.length ic,.int .i64 bits,.string pre] 33 (0,0)):=by rw [hW];exact heap_alloc_new w _
 have HB:=Lh hbw
 have q0:=qq hx (j:=0) rfl;have q1:=qq hx (j:=1) rfl;have q2:=qq hx (j:=2) rfl;have q3:=qq hx (j:=3) rfl
 have HV:=Lh (lF bits t pre ids)
 have HW:=Lh hW
 obtain ⟨V,hV⟩:∃V,V=qD ⟨bits,pre,⟨t,ids⟩⟩:=⟨_,rfl⟩
 rw [← hV] at HV ⊢
 clear hbw hx hW hV
 by_cases h1:bits=0
 case neg =>
  have d1:(bits == 0)=false:=by simpa using h1
  rw [decide_eq_false h1] at HV
  clear h1
  go_enter Tryz.func75,Tryz.ntmps75
  go_upto_region 1 with fail
  rw [← HW.out]
  clear HW
  go_wp2
  go_ret
  exact ⟨qz HV.out.symm,HB.out⟩
 have d1:(bits == 0)=true:=by simpa using h1
 rw [decide_eq_true h1,Bool.true_and] at HV
 clear h1
 by_cases h2:pre.size=0
 case neg =>
  have d2:(pre.toList == [])=false:=by rw [beq_eq_false_iff_ne];exact (yz pre (by omega)).1
  rw [decide_eq_false h2] at HV
  clear h2
  go_enter Tryz.func75,Tryz.ntmps75
  go_upto_region 1 with fail
  rw [← HW.out]
  clear HW
  go_wp2
  go_ret
  exact ⟨qz HV.out.symm,HB.out⟩
 have d2:pre.toList=[]:=vA pre h2
 rw [decide_eq_true h2,Bool.true_and] at HV
 clear h2
 by_cases h3:t=0
 case neg =>
  have d3:(t == 0)=false:=by simpa using h3
  rw [decide_eq_false h3] at HV
  clear h3
  go_enter Tryz.func75,Tryz.ntmps75
  go_upto_region 1 with fail
  rw [← HW.out]
  clear HW
  go_wp2
  go_ret
  exact ⟨qz HV.out.symm,HB.out⟩
 have d3:(t == 0)=true:=by simpa using h3
 rw [decide_eq_true h3,Bool.true_and] at HV
 clear h3
 by_cases h4:ids.length=0
 · have d4:((ids.length:Int) == 0)=true:=by rw [h4];rfl
   rw [decide_eq_true h4] at HV
   clear h4
   go_enter Tryz.func75,Tryz.ntmps75
   go_upto_region 1 with fail
   rw [← HW.out]
   clear HW
   go_wp2
   go_ret
   exact ⟨qz HV.out.symm,HB.out⟩
 · have d4:((ids.length:Int) == 0)=false:=by rw [beq_eq_false_iff_ne];omega
   rw [decide_eq_false h4] at HV
   clear h4
   go_enter Tryz.func75,Tryz.ntmps75
   go_upto_region 1 with fail
   rw [← HW.out]
   clear HW
   go_wp2
   go_ret
   exact ⟨qz HV.out.symm,HB.out⟩
theorem co (bits t:Int) (pre:ByteArray) (ids:List ByteArray):qS ⟨bits,pre,⟨t,ids⟩⟩=(decide (zm ⟨bits,pre,⟨t,ids⟩⟩=0) && (jQ t ids && !wF pre)):=by
 unfold qS xZ
 rw [Bool.and_assoc]
set_option maxHeartbeats 1000000 in
set_option maxRecDepth 100000 in
theorem wI (t bits:Int) (ids:List ByteArray) (pre:ByteArray) (ia:Option Addr) (ic:Nat) (w:World) (hI:qk w 0 w.heap.size ia ids) (hp:pre.size≤4294967296) (hb:-9223372036854775808≤bits∧bits≤9223372036854775807) (hf:xy ⟨t,ids⟩) :
 Calls Tryz.prog 84 #[.agg #[.int .i64 t,.slice ia ids.length ic,.int .i64 bits,.string pre]] w fun e w'=>e=.returned (.bool (qS ⟨bits,pre,⟨t,ids⟩⟩))∧Below w.heap.size w w':=by
 obtain ⟨W,hW⟩:∃W,W=w.alloc (.cells #[.int .i64 t,.slice ia ids.length ic,.int .i64 bits,.string pre] 33):=⟨_,rfl⟩
 have hbw:Below w.heap.size w W:=by rw [hW];exact (Below.refl _ _).alloc lz _
 have hx:W.heap[w.heap.size]?=some (.cells #[.int .i64 t,.slice ia ids.length ic,.int .i64 bits,.string pre] 33 (0,0)):=by rw [hW];exact heap_alloc_new w _
 have HB:=Lh hbw
 have HX:=Lh hx
 have HI:=Lh hI
 have q0:=qq hx (j:=0) rfl;have q1:=qq hx (j:=1) rfl;have q2:=qq hx (j:=2) rfl;have q3:=qq hx (j:=3) rfl
 have HWR:=Lh (kt t bits ids pre ia ic W hp hb)
 have HAU:=Lh (fun (w':World) (h:Below w.heap.size w w')=>db t ids ia ic w' (HI.out.below h lz lz h.size) hf.2.2)
 have HTP:=Lh (fun w=>cE pre w)
 have HV:=Lh (co bits t pre ids)
 have HW:=Lh hW
 obtain ⟨V,hV⟩:∃V,V=qS ⟨bits,pre,⟨t,ids⟩⟩:=⟨_,rfl⟩
 obtain ⟨E,hE⟩:∃E,E=zm ⟨bits,pre,⟨t,ids⟩⟩:=⟨_,rfl⟩
 obtain ⟨b2,hb2⟩:∃b,b=jQ t ids:=⟨_,rfl⟩
 obtain ⟨b3,hb3⟩:∃b,b=wF pre:=⟨_,rfl⟩
 rw [← hV,← hE,← hb2,← hb3] at HV
 rw [← hE] at HWR
 rw [← hb2] at HAU
 rw [← hb3] at HTP
 rw [← hV]
 clear hbw hx hW hV hE hb2 hb3 hI hf hp hb
 by_cases h1:E=0
 case neg =>
  have d1:(E == 0)=false:=by simpa using h1
  rw [decide_eq_false h1] at HV
  clear h1
  go_enter Tryz.func84,Tryz.ntmps84
  go_upto_region 1 with fail
  rw [← HW.out]
  clear HW
  go_wp2_with (go_at_call 99;refine HWR.out.mono ?_;rintro e w3 ⟨rfl,hb⟩;have HB3:=Lh (HB.out.trans (hb.mono HB.out.size));clear hb)
  go_ret
  exact ⟨qz HV.out.symm,HB3.out⟩
 have d1:(E == 0)=true:=by simpa using h1
 rw [decide_eq_true h1,Bool.true_and] at HV
 clear h1
 cases b2
 · go_enter Tryz.func84,Tryz.ntmps84
   go_upto_region 1 with fail
   rw [← HW.out]
   clear HW
   go_wp2_with (first|(go_at_call 99;refine HWR.out.mono ?_;rintro e w3 ⟨rfl,hb⟩;have HB3:=Lh (HB.out.trans (hb.mono HB.out.size));have hz:=(hb.block _ (qx HX.out)).trans HX.out;have z0:=qq hz (j:=0) rfl;have z1:=qq hz (j:=1) rfl;have z3:=qq hz (j:=3) rfl;have HZ3:=Lh hz;clear hb hz)|(go_at_call 136;refine (HAU.out _ HB3.out).mono ?_;rintro e w5 ⟨rfl,hb⟩;have HB5:=Lh (HB3.out.trans (hb.mono HB3.out.size));have hz:=(hb.block _ (qx HZ3.out)).trans HZ3.out;have y3:=qq hz (j:=3) rfl;clear hb hz))
   go_ret
   exact ⟨qz HV.out.symm,HB5.out⟩
 · rw [Bool.true_and] at HV
   cases b3
   all_goals
    go_enter Tryz.func84,Tryz.ntmps84
    go_upto_region 1 with fail
    rw [← HW.out]
    clear HW
    go_wp2_with (first|(go_at_call 99;refine HWR.out.mono ?_;rintro e w3 ⟨rfl,hb⟩;have HB3:=Lh (HB.out.trans (hb.mono HB.out.size));have hz:=(hb.block _ (qx HX.out)).trans HX.out;have z0:=qq hz (j:=0) rfl;have z1:=qq hz (j:=1) rfl;have z3:=qq hz (j:=3) rfl;have HZ3:=Lh hz;clear hb hz)|(go_at_call 136;refine (HAU.out _ HB3.out).mono ?_;rintro e w5 ⟨rfl,hb⟩;have HB5:=Lh (HB3.out.trans (hb.mono HB3.out.size));have hz:=(hb.block _ (qx HZ3.out)).trans HZ3.out;have y3:=qq hz (j:=3) rfl;clear hb hz)|(go_at_call 135;refine (HTP.out _).mono ?_;rintro e w6 ⟨rfl,rfl⟩))
    go_ret
    exact ⟨qz HV.out.symm,HB5.out⟩
end Go.Proofs.YthgembbgcbaghaaGreatDoor

namespace Go.Proofs.YthgembbgcbaghaaGreatDoor
open Go.RowKit Go.Sort
def aM (w:World) (e:Ending) (w':World):Prop :=
 e=.returned (.tuple #[.agg #[.string ⟨#[]⟩,.int .u8 0,.int .i64 0,.string ⟨#[]⟩,.slice none 0 0,.slice none 0 0],.int .i64 3])∧Below w.heap.size w w'
def ce (s t:ByteArray) (w:World) (e:Ending) (w':World):Prop :=
 ∃an cn ai ci,e=.returned (.tuple #[.agg #[.string (dO s t),.int .u8 5,.int .i64 0,.string ⟨#[]⟩,.slice an 2 cn,.slice ai 2 ci],.int .i64 0]) ∧
  Rep w' w.heap.size w'.heap.size (jv s t) (.agg #[.int .u8 5,.int .i64 0,.string ⟨#[]⟩,.slice an 2 cn,.slice ai 2 ci])∧Below w.heap.size w w'
set_option maxHeartbeats 400000 in
set_option maxRecDepth 100000 in
theorem cQ (s t:ByteArray) (w:World) (hs:s.size≤4294967) (ht:t.size≤4294967) (hT:Tabs w) (hk:zY s.data.toList t.data.toList=false) :
 Calls Tryz.prog 87 #[.agg #[.string s,.string t]] w (aM w):=by
 have hW:Below w.heap.size w ((w.alloc (.cells #[.string s,.string t] 43)).alloc (.cells #[.string ⟨#[]⟩,.int .u8 0,.int .i64 0,.string ⟨#[]⟩,.slice none 0 0,.slice none 0 0] 120)):=((Below.refl _ _).alloc lz _).alloc (by simp) _
 have HI:=Lh (dw s t ((w.alloc (.cells #[.string s,.string t] 43)).alloc (.cells #[.string ⟨#[]⟩,.int .u8 0,.int .i64 0,.string ⟨#[]⟩,.slice none 0 0,.slice none 0 0] 120)) hs ht (hT.below hW))
 unfold ju jK at HI
 rw [hk] at HI
 have hr0:=xk (w.alloc (.cells #[.string s,.string t] 43)) (.string ⟨#[]⟩) (.int .u8 0) (.int .i64 0) (.string ⟨#[]⟩) (.slice none 0 0) (.slice none 0 0) 120
 rw [show (w.alloc (.cells #[.string s,.string t] 43)).heap.size=w.heap.size+1 by simp] at hr0
 have HR0:=Lh hr0
 have HB0:=Lh hW
 clear hk hr0 hW hT
 go_enter Tryz.func87,Tryz.ntmps87
 go_wp2_with fail
 refine HI.out.mono ?_
 rintro e w1 ⟨rfl,hb1⟩
 have hres:=qj hb1 HR0.out (by simp)
 have HRS:=Lh hres
 have HB1:=Lh (HB0.out.trans (hb1.mono (by simp;omega)))
 obtain ⟨t0,t1,t2,t3,t4⟩:=rc5 hres;have t5:=hres.cell (i:=5) (by decide)
 obtain ⟨s0,s1,s2,s3,s4⟩:=rf5 hres;have s5:=hres.frozen 5
 simp only [qt] at t0 t1 t2 t3 t4 t5
 clear hres hb1
 go_wp2
 exact bodyPost_ret (qw Tryz.results87 _ _ (w.heap.size+1) 120 _ (0,0) _ rfl (zb (wn _ _ _ _ _ _ HRS.out)) Tryz.underlying120 rfl (by kernel_rfl) _ rfl) rfl ⟨rfl,xJ _ _ _ _ _ _ HB1.out (by omega)⟩
set_option maxHeartbeats 400000 in
set_option maxRecDepth 100000 in
theorem uL (s t:ByteArray) (w:World) (hs:s.size≤4294967) (ht:t.size≤4294967) (hT:Tabs w) (hk:zY s.data.toList t.data.toList=true) :
 Calls Tryz.prog 87 #[.agg #[.string s,.string t]] w (ce s t w):=by
 have hW:Below w.heap.size w ((w.alloc (.cells #[.string s,.string t] 43)).alloc (.cells #[.string ⟨#[]⟩,.int .u8 0,.int .i64 0,.string ⟨#[]⟩,.slice none 0 0,.slice none 0 0] 120)):=((Below.refl _ _).alloc lz _).alloc (by simp) _
 have HI:=Lh (dw s t ((w.alloc (.cells #[.string s,.string t] 43)).alloc (.cells #[.string ⟨#[]⟩,.int .u8 0,.int .i64 0,.string ⟨#[]⟩,.slice none 0 0,.slice none 0 0] 120)) hs ht (hT.below hW))
 have HX0:=Lh (show ((w.alloc (.cells #[.string s,.string t] 43)).alloc (.cells #[.string ⟨#[]⟩,.int .u8 0,.int .i64 0,.string ⟨#[]⟩,.slice none 0 0,.slice none 0 0] 120)).heap[w.heap.size]?=some (.cells #[.string s,.string t] 43 (0,0)) by rw [Below.heap_alloc _ _ _ (by simp)];exact heap_alloc_new w _)
 unfold ju at HI
 rw [hk,if_pos rfl] at HI
 unfold ce dO
 generalize (⟨(jK s.data.toList t.data.toList).toArray⟩:ByteArray)=ID at HI ⊢
 have HK:=Lh hk
 have hr0:=xk (w.alloc (.cells #[.string s,.string t] 43)) (.string ⟨#[]⟩) (.int .u8 0) (.int .i64 0) (.string ⟨#[]⟩) (.slice none 0 0) (.slice none 0 0) 120
 rw [show (w.alloc (.cells #[.string s,.string t] 43)).heap.size=w.heap.size+1 by simp] at hr0
 have HR0:=Lh hr0
 have HB0:=Lh hW
 clear hk hr0 hW hT
 go_enter Tryz.func87,Tryz.ntmps87
 go_wp2_with fail
 refine HI.out.mono ?_
 clear HI
 rintro e w1 ⟨rfl,hb1⟩
 have HRS:=Lh (qj hb1 HR0.out (by simp))
 have hx1:w1.heap[w.heap.size]?=some (.cells #[.string s,.string t] 43 (0,0)):=by rw [hb1.block _ (by simp;omega)];exact HX0.out
 have hz1:w.heap.size+2≤w1.heap.size:=by have:=hb1.size;simp at this;omega
 have HB1:=Lh (HB0.out.trans (hb1.mono (by simp;omega)))
 have c0:w1.cell? ⟨w.heap.size,0,none⟩=some (.string s):=qq hx1 rfl
 have c1:w1.cell? ⟨w.heap.size,1,none⟩=some (.string t):=qq hx1 rfl
 have HV:=Lh (wP s t w1 (by omega) (by omega) HK.out)
 clear hb1 HX0 HR0 HB0 hx1
 go_wp2_with fail
 refine HV.out.mono ?_
 clear HV
 rintro e w2 ⟨an,cn,ai,ci,rfl,hr2,hb2⟩
 have HR2:=Lh (hr2.carry (w':=w2.alloc (.cells #[.int .u8 5,.int .i64 0,.string ⟨#[]⟩,.slice an 2 cn,.slice ai 2 ci] 25)) lz lz (fun b _ h=>Below.heap_alloc _ _ _ h))
 have hres:=qj (hb2.alloc hb2.size (.cells #[.int .u8 5,.int .i64 0,.string ⟨#[]⟩,.slice an 2 cn,.slice ai 2 ci] 25)) HRS.out (by omega)
 have HB2:=Lh (HB1.out.trans ((hb2.alloc hb2.size (.cells #[.int .u8 5,.int .i64 0,.string ⟨#[]⟩,.slice an 2 cn,.slice ai 2 ci] 25)).mono (by omega)))
 have hz2:w1.heap.size≤w2.heap.size:=hb2.size
 have hz3:¬(w.heap.size+1=w2.heap.size):=by omega
 have HR3:=Lh hres
 obtain ⟨t0,t1,t2,t3,t4⟩:=rc5 hres;have t5:=hres.cell (i:=5) (by decide)
 obtain ⟨s0,s1,s2,s3,s4⟩:=rf5 hres;have s5:=hres.frozen 5
 simp only [qt] at t0 t1 t2 t3 t4 t5
 clear hres hb2 hr2 c0 c1
 go_wp2
 refine bodyPost_ret (qw Tryz.results87 _ _ (w.heap.size+1) 120 _ (0,0) _ rfl (zb (wn _ _ _ _ _ _ HR3.out)) Tryz.underlying120 rfl (by kernel_rfl) _ rfl) rfl ⟨an,cn,ai,ci,rfl,?_,xJ _ _ _ _ _ _ HB2.out (by omega)⟩
 exact Rep.carry (by omega) (show w2.heap.size≤_ by simp [World.setCell]) (fun j hj _=>gi _ _ _ _ _ _ (by omega)) _ _ HR2.out
theorem nO (x y:Mem) (W:World):Calls Tryz.prog 89 #[.agg (qW x).toArray,.agg (qW y).toArray] W fun e w'=>e=.returned (.int .i64 (cfM x y))∧∃q os',w'=grow (W.drewN q) os':=by
 have hcon:=fun W'=>Tryz.strings_Compare x.name y.name W'
 unfold cfM qW
 generalize Lib.compareBytes x.name.data.toList y.name.data.toList=r at hcon ⊢
 go_enter Tryz.func89,Tryz.ntmps89
 go_wp2_with (go_at_call 155;refine (hcon _).mono ?_;rintro e w' ⟨rfl,rfl⟩)
 go_ret
 exact ⟨rfl,0,_,by rw [alloc_eq_grow,alloc_eq_grow,grow_grow];rfl⟩
end Go.Proofs.YthgembbgcbaghaaGreatDoor

namespace Go.Proofs.YthgembbgcbaghaaGreatDoor
open Go.RowKit Go.Shelf Go.Sort
theorem uR:∀a b:List UInt8,decide (Lib.compareBytes a b<0)=Op.bytesLess a b
 | [],[]=>rfl
 | [],_ :: _=>rfl
 | _ :: _,[]=>rfl
 | a :: ax,b :: bx=>by
  unfold Lib.compareBytes Op.bytesLess
  by_cases h1:a<b
  · simp [h1]
  · by_cases h2:b<a
    · have:¬a=b:=fun e=>by subst e;exact h1 h2
      simp [h1,h2,this]
    · have e:a=b:=UInt8.le_antisymm (UInt8.not_lt.1 h2) (UInt8.not_lt.1 h1)
      subst e
      rw [if_neg h1,if_neg h1,uR ax bx]
      simp
theorem y6 (x y:Mem):ltOf cfM x y=bl x.name y.name:=by
 unfold ltOf cfM bl
 rw [uR,ByteArray.toList_eq,ByteArray.toList_eq]
theorem lH {a b c:ByteArray} (h:bl a b=false) (h':bl b c=false):bl a c=false:=by
 cases h2:bl a c
 · rfl
 · cases h3:bl b a
   · rw [p9 h h3,h'] at h2;cases h2
   · rw [xW h3 h2] at h';cases h'
theorem iX:SWO (ltOf cfM) where
 irrefl x:=by rw [y6];exact zQ _
 trans x y z:=by rw [y6,y6,y6];exact xW
 ntrans x y z:=by rw [y6,y6,y6];exact lH
def lU (d d':Array Mem):Prop:=d'.size=d.size∧d'.toList.Perm d.toList∧∀i j,i<j→j<d.size→bl d'[j]!.name d'[i]!.name=false
def nE (blk off:Nat) (d:Array Mem) (w:World) (e:Ending) (w':World):Prop :=
 e=.returned (.tuple #[])∧∃d',lU d d'∧HoldsK qW 6 w' blk off d'∧Touch (· = blk) w w'
theorem ah (blk off cap:Nat) (d:Array Mem) (w:World) (hH:HoldsK qW 6 w blk off d) (hblk:blk<w.heap.size) (h12:d.size≤4294967296) :
 Calls Tryz.prog 88 #[.slice (some ⟨blk,off,none⟩) d.size cap,.func (.func 89) #[] #[]] w (nE blk off d w):=by
 have eg:∀args w,(callFunc 89 args).run Tryz.prog w=.ok (.enter 89 args) w:=enters_of Tryz.func89 (by kernel_rfl) rfl
 have hcon:=AnyQ.slices_SortFunc dX 6 Tryz.isAgg120 Tryz.sizeOf120 qW zB xY cfM iX 89 #[] blk off cap d w eg (fun _ _ _ _ x y=>nO x y _) hH hblk (by omega)
 refine hcon.mono ?_
 rintro e w' ⟨rfl,d',n,os,hp,hs,rfl⟩
 refine ⟨rfl,d',⟨hp.1,?_,fun i j hij hj=>?_⟩,holdsK_grow qW 6 _ _ _ _ _ (by simp [putRowK,Go.Sort.ahead];exact hblk) (holdsK_putRowK qW 6 _ _ _ d _ (holdsK_ahead qW 6 _ _ _ _ _ hH) hp.1),jk⟩
 · have:=hp.2.2
   have e1:d'.extract 0 d.size=d':=by rw [← hp.1];simp
   have e2:d.extract 0 d.size=d:=by simp
   rwa [e1,e2] at this
 · have:=hs i j (Nat.zero_le _) hij hj
   rwa [y6] at this
def xT (seen:List ByteArray):List Key2→Int
 | []=>0
 | k :: r=>if ok2 k then (if xM seen (id2 k) then 7 else xT (seen ++ [id2 k]) r) else 3
def vY (l:List Key2):Int:=if 32<l.length then 5 else xT [] l
theorem y7 (l:List Key2) (k:Nat) (h:k<l.length):xT (ids (l.take k)) (l.drop k)=if ok2 l[k] then (if xM (ids (l.take k)) (id2 l[k]) then 7 else xT (ids (l.take (k+1))) (l.drop (k+1))) else 3:=by
 rw [List.drop_eq_getElem_cons h,xT]
 have:ids (l.take k) ++ [id2 l[k]]=ids (l.take (k+1)):=by unfold ids;rw [List.take_succ_eq_append_getElem h,List.map_append];rfl
 rw [this]
theorem vg:∀(l:List Key2) (seen:List ByteArray),xT seen l=0↔(∀k ∈ l,ok2 k=true)∧(∀k ∈ l,id2 k ∉ seen)∧(ids l).Nodup
 | [],seen=>by simp [xT,ids]
 | k :: r,seen=>by
  unfold xT
  have ih:=vg r (seen ++ [id2 k])
  by_cases h1:ok2 k=true
  · rw [if_pos h1]
    by_cases h2:xM seen (id2 k)=true
    · rw [if_pos h2]
      have:=(kf _ _).1 h2
      constructor
      · intro h;cases h
      · rintro ⟨_,h,_⟩;exact absurd this (h k (List.mem_cons_self ..))
    · rw [if_neg h2,ih]
      have h3:id2 k ∉ seen:=fun h=>h2 ((kf _ _).2 h)
      unfold ids
      rw [List.map_cons,List.nodup_cons]
      constructor
      · rintro ⟨a,b,c⟩
        refine ⟨fun x hx=>?_,fun x hx=>?_,fun hm=>?_,c⟩
        · rcases List.mem_cons.1 hx with rfl|hx
          · exact h1
          · exact a x hx
        · rcases List.mem_cons.1 hx with rfl|hx
          · exact h3
          · exact fun h=>b x hx (List.mem_append_left _ h)
        · obtain ⟨x,hx,e⟩:=List.mem_map.1 hm
          exact b x hx (by rw [e];simp)
      · rintro ⟨a,b,c,d⟩
        refine ⟨fun x hx=>a x (List.mem_cons_of_mem _ hx),fun x hx hm=>?_,d⟩
        rcases List.mem_append.1 hm with hm|hm
        · exact b x (List.mem_cons_of_mem _ hx) hm
        · simp at hm
          exact c (List.mem_map.2 ⟨x,hx,hm⟩)
  · rw [if_neg h1]
    constructor
    · intro h;cases h
    · rintro ⟨h,_⟩;exact absurd (h k (List.mem_cons_self ..)) h1
theorem uN {α β:Type} (f:α→β) {l1 l2:List β} (h:l1.Perm l2):∀zs:List α,zs.map f=l2→∃zs':List α,zs'.Perm zs∧zs'.map f=l1:=by
 induction h with
 | nil=>intro zs h;exact ⟨[],by rw [List.map_eq_nil_iff.1 h],rfl⟩
 | cons x _ ih =>
  intro zs h
  match zs,h with
  | z :: zr,h =>
   simp only [List.map_cons,List.cons.injEq] at h
   obtain ⟨zs',hp,e⟩:=ih zr h.2
   exact ⟨z :: zs',hp.cons z,by simp [e,h.1]⟩
 | swap x y r =>
  intro zs h
  match zs,h with
  | [_],h=>simp at h
  | a :: b :: zr,h =>
   simp only [List.map_cons,List.cons.injEq] at h
   exact ⟨b :: a :: zr,List.Perm.swap _ _ _,by simp [h.1,h.2.1,h.2.2]⟩
 | trans _ _ ih1 ih2 =>
  intro zs h
  obtain ⟨z1,p1,e1⟩:=ih2 zs h
  obtain ⟨z2,p2,e2⟩:=ih1 z1 e1
  exact ⟨z2,p2.trans p1,e2⟩
theorem pU {l:List ByteArray} (h:∀i j (hi:i<l.length) (hj:j<l.length),i<j→bl l[i] l[j]=true):qe l=true:=by
 match l with
 | []=>rfl
 | [_]=>rfl
 | a :: b :: r =>
  unfold qe
  rw [Bool.and_eq_true]
  refine ⟨h 0 1 (by simp) (by simp) (by omega),pU fun i j hi hj hij=>?_⟩
  have:=h (i+1) (j+1) (by simpa using hi) (by simpa using hj) (by omega)
  simpa using this
theorem fs {m1 m2:List Key2} (hp:m1.Perm m2) (h1:qe (ids m1)=true) (h2:qe (ids m2)=true):m1=m2:=by
 have pw:∀m:List Key2,qe (ids m)=true→m.Pairwise (fun a b=>bl (id2 a) (id2 b)=true):=fun m h=>by
  rw [List.pairwise_iff_getElem]
  intro i j hi hj hij
  have:=jx h i j (by simpa [ids] using hi) (by simpa [ids] using hj) hij
  simpa [ids] using this
 refine hp.eq_of_pairwise (le:=fun a b=>bl (id2 a) (id2 b)=true) (fun a b _ _ x y=>?_) (pw m1 h1) (pw m2 h2)
 rw [hY x] at y;cases y
def xb (w:World) (base:Nat) (X:Nat→Prop) (zs:List (Mem × Key2)):Prop :=
 ∀z ∈ zs,z.1.name=id2 z.2∧∃lo hi,base≤lo∧hi≤w.heap.size∧(∀b,X b→¬(lo≤b∧b<hi))∧Rep w lo hi (obj2 z.2) z.1.val
theorem xb.nil (w:World) (base:Nat) (X:Nat→Prop):xb w base X []:=fun z h=>by simp at h
theorem xb.carry {w w':World} {base:Nat} {X X':Nat→Prop} {zs:List (Mem × Key2)} (h:xb w base X zs) (hsz:w.heap.size≤w'.heap.size)
 (hs:∀b,b<w.heap.size→¬X b→base≤b→w'.heap[b]?=w.heap[b]?) (hX:∀b,X' b→X b∨w.heap.size≤b∨b<base):xb w' base X' zs:=by
 intro z hz
 obtain ⟨hn,lo,hi,h1,h2,h3,hr⟩:=h z hz
 refine ⟨hn,lo,hi,h1,by omega,fun b hx hb=>?_,Rep.carry lz lz (fun b hb1 hb2=>hs b (by omega) (fun hx=>h3 b hx ⟨hb1,hb2⟩) (by omega)) _ _ hr⟩
 rcases hX b hx with hx|hx|hx
 · exact h3 b hx hb
 · omega
 · omega
theorem xb.snoc {w:World} {base:Nat} {X:Nat→Prop} {zs:List (Mem × Key2)} (h:xb w base X zs) (x:Mem) (k:Key2) (lo hi:Nat) (hn:x.name=id2 k) (h1:base≤lo) (h2:hi≤w.heap.size) (h3:∀b,X b→¬(lo≤b∧b<hi)) (hr:Rep w lo hi (obj2 k) x.val) :
 xb w base X (zs ++ [(x,k)]):=by
 intro z hz
 rcases List.mem_append.1 hz with hz|hz
 · exact h z hz
 · simp at hz;subst hz;exact ⟨hn,lo,hi,h1,h2,h3,hr⟩
theorem xb.perm {w:World} {base:Nat} {X:Nat→Prop} {zs zs':List (Mem × Key2)} (h:xb w base X zs) (hp:zs'.Perm zs):xb w base X zs':=fun z hz=>h z (hp.subset hz)
theorem flat_get {ms:List Mem} (i c:Nat) (hi:i<ms.length) (hc:c<6):(ms.flatMap qW)[i * 6+c]?=some ((qW ms[i])[c]!):=by
 induction ms generalizing i with
 | nil=>simp at hi
 | cons m r ih =>
  rw [List.flatMap_cons]
  rcases i with _|i
  · rw [List.getElem?_append_left (by rw [zB];omega)]
    rw [Nat.zero_mul,Nat.zero_add]
    have:c<(qW m).length:=by rw [zB];exact hc
    rw [List.getElem?_eq_getElem this]
    show some _=some ((qW m)[c]!)
    rw [getElem!_pos (qW m) c this]
  · rw [List.getElem?_append_right (by rw [zB];omega),zB,show (i+1) * 6+c - 6=i * 6+c by omega]
    exact ih i (by simpa using hi)
theorem cZ {w:World} {base e g cap n:Nat} {ms:List Mem} (h:w.ownsRow base e 6 (.slice (some ⟨g,0,none⟩) n cap) n (ms.flatMap qW)):HoldsK qW 6 w g 0 ms.toArray:=by
 intro j hj
 have hj':j<ms.length * 6:=by simpa using hj
 rcases h.2 with ⟨hx,_⟩|⟨g',cap',cur,hx,hg,hh,_⟩
 · cases hx
 · simp only [Value.slice.injEq,Option.some.injEq,Addr.mk.injEq,and_true] at hx
   obtain ⟨rfl,_⟩:=hx
   refine ⟨?_,by simp [World.frozen?,hh]⟩
   have hq:j / 6<ms.length:=by omega
   have hm:j % 6<6:=Nat.mod_lt _ (by decide)
   have hf:=flat_get (ms:=ms) (j / 6) (j % 6) hq hm
   rw [show j / 6 * 6+j % 6=j by omega] at hf
   have hc:=h.cells (g:=g) rfl j _ hf
   have ea:(⟨g,0,none⟩:Addr).add j=⟨g,j,none⟩:=by unfold Addr.add;split <;> simp_all
   rw [ea] at hc
   rw [Nat.zero_add,hc,get_flatK _ _ _ _ (by simpa using hj')]
   congr 2
   simp [hq]
set_option maxHeartbeats 400000 in
theorem tl (W:World):Calls Tryz.prog 209 #[.slice none 0 0,.int .i64 0,.int .i64 0,.func (.func 89) #[] #[]] W fun e w'=>e=.returned (.tuple #[])∧w'=W:=by
 go_enter Tryz.func209,Tryz.ntmps209
 go_wp2
 go_loopw [8] (fun i wr=>i=.int .i64 1∧wr=W) (fun _ _=>0)
 case atStart=>exact ⟨rfl,rfl⟩
 case round =>
  obtain ⟨rfl,rfl⟩:=hrel
  go_wp2
  go_end0
  exact ⟨rfl,rfl⟩
set_option maxHeartbeats 400000 in
theorem tr (W:World) (lim:Int):Calls Tryz.prog 153 #[.slice none 0 0,.int .i64 0,.int .i64 0,.int .i64 lim,.func (.func 89) #[] #[]] W fun e w'=>e=.returned (.tuple #[])∧w'=W:=by
 have H:=tl W
 go_enter Tryz.func153,Tryz.ntmps153
 go_wp2
 go_loopw [1,2,3,10,11,12,13,14,15,16,17,18,19,20] (fun a b _ _ _ _ _ _ _ _ _ _ _ _ wr=>a=.int .i64 0∧b=.int .i64 0∧wr=W) (fun _ _ _ _ _ _ _ _ _ _ _ _ _ _ _=>0)
 case atStart=>exact ⟨rfl,rfl,rfl⟩
 case round =>
  obtain ⟨rfl,rfl,rfl⟩:=hrel
  go_wp2_with fail
  refine H.mono ?_
  rintro e w1 ⟨rfl,rfl⟩
  go_wp2
  (try simp only [Exit.inBlock,Exit.then])
  refine bodyPost_ret (results_none rfl _ _ _) rfl ?_
  exact ⟨rfl,rfl⟩
set_option maxHeartbeats 400000 in
theorem ac (w:World):Calls Tryz.prog 88 #[.slice none 0 0,.func (.func 89) #[] #[]] w fun e w'=>e=.returned (.tuple #[])∧w'=w:=by
 have HL:=Tryz.bits_Len 0 w (by omega) (by omega)
 go_enter Tryz.func88,Tryz.ntmps88
 go_wp2_with fail
 refine HL.mono ?_
 rintro e w1 ⟨rfl,rfl⟩
 go_wp2_with fail
 refine (tr _ _).mono ?_
 rintro e w2 ⟨rfl,rfl⟩
 go_wp2
 go_end0
 exact ⟨rfl,rfl⟩
end Go.Proofs.YthgembbgcbaghaaGreatDoor

namespace Go.Proofs.YthgembbgcbaghaaGreatDoor
open Go.RowKit
theorem uA (x:DelegV):qi x=(q9 x.name.data.toList && (!wF x.name && (jQ x.au.thr x.au.ids && (if 0<x.paths.length then decide (x.pres.length=0) && (decide (x.paths.length≤32) && x.paths.all qU) else decide (0<x.pres.length) && (decide (x.pres.length≤32) && x.pres.all preB))))):=by
 unfold qi xZ
 have e1:(x.paths≠[])=(0<x.paths.length):=by rw [List.length_pos_iff]
 have e2:x.pres.isEmpty=decide (x.pres.length=0):=by cases x.pres <;> rfl
 have e3:(!x.pres.isEmpty)=decide (0<x.pres.length):=by cases x.pres <;> rfl
 simp only [e1,Bool.and_assoc]
 congr 3
 split
 · rw [e2]
 · rw [e3]
set_option maxHeartbeats 2000000 in
set_option maxRecDepth 100000 in
theorem jf (x:DelegV) (ia pa qa:Option Addr) (ic pc qc:Nat) (w:World) (hI:DelegIn w 0 w.heap.size x ia pa qa) (hf:DelegFits x) :
 Calls Tryz.prog 77 #[.agg #[.string x.name,.int .i64 x.au.thr,.slice ia x.au.ids.length ic,.bool x.term,.slice pa x.paths.length pc,.slice qa x.pres.length qc]] w fun e w'=>e=.returned (.bool (qi x))∧Below w.heap.size w w':=by
 have HV:=Lh (uA x)
 obtain ⟨V,hV⟩:∃V,V=qi x:=⟨_,rfl⟩
 rw [← hV] at HV ⊢
 clear hV
 obtain ⟨nm,⟨thr,ids⟩,term,ps,qs⟩:=x
 dsimp only at HV hI hf ⊢
 obtain ⟨f1,f2,f3,f4⟩:=hf
 obtain ⟨i1,i2,i3⟩:=hI
 dsimp only at f1 f2 f3 f4 i1 i2 i3
 obtain ⟨W,hW⟩:∃W,W=w.alloc (.cells #[.string nm,.int .i64 thr,.slice ia ids.length ic,.bool term,.slice pa ps.length pc,.slice qa qs.length qc] 41):=⟨_,rfl⟩
 have hbw:Below w.heap.size w W:=by rw [hW];exact (Below.refl _ _).alloc lz _
 have hx:W.heap[w.heap.size]?=some (.cells #[.string nm,.int .i64 thr,.slice ia ids.length ic,.bool term,.slice pa ps.length pc,.slice qa qs.length qc] 41 (0,0)):=by rw [hW];exact heap_alloc_new w _
 have HB:=Lh hbw
 have HX:=Lh hx
 have HW:=Lh hW
 have q0:=qq hx (j:=0) rfl
 have q1:=qq hx (j:=1) rfl
 have q2:=qq hx (j:=2) rfl
 have HN:=Lh (fun w=>jt nm w (by omega))
 have HT:=Lh (fun w=>cE nm w)
 have HA:=Lh (db thr ids ia ic W (i1.below hbw lz lz hbw.size) f2.2.2)
 have HP:=Lh (fun (w3:World) (h:Below w.heap.size w w3)=>bO ps pa pc w3 (i2.below h lz lz h.size) f3.1 f3.2)
 have HQ:=Lh (fun (w3:World) (h:Below w.heap.size w w3)=>fh qs qa qc w3 (i3.below h lz lz h.size) f4.1 f4.2)
 clear hbw hx hW f1 f2 f3 f4 i1 i2 i3
 obtain ⟨b1,hb1⟩:∃b,b=q9 nm.data.toList:=⟨_,rfl⟩
 obtain ⟨b2,hb2⟩:∃b,b=wF nm:=⟨_,rfl⟩
 obtain ⟨b3,hb3⟩:∃b,b=jQ thr ids:=⟨_,rfl⟩
 rw [← hb1] at HN HV
 rw [← hb2] at HT HV
 rw [← hb3] at HA HV
 clear hb1 hb2 hb3
 go_enter Tryz.func77,Tryz.ntmps77
 go_upto_region 1 with fail
 rw [← HW.out]
 clear HW
 cases b1
 · go_wp2_with (go_at_call 134;refine (HN.out _).mono ?_;rintro e w3 ⟨rfl,rfl⟩)
   go_ret
   exact ⟨qz HV.out.symm,HB.out⟩
 cases b2
 case true =>
  go_wp2_with (first|(go_at_call 134;refine (HN.out _).mono ?_;rintro e w3 ⟨rfl,rfl⟩)|(go_at_call 135;refine (HT.out _).mono ?_;rintro e w3 ⟨rfl,rfl⟩))
  go_ret
  exact ⟨qz HV.out.symm,HB.out⟩
 cases b3
 · go_wp2_with (first|(go_at_call 134;refine (HN.out _).mono ?_;rintro e w3 ⟨rfl,rfl⟩)|(go_at_call 135;refine (HT.out _).mono ?_;rintro e w3 ⟨rfl,rfl⟩)|(go_at_call 136;refine HA.out.mono ?_;rintro e w3 ⟨rfl,hb⟩;have HB3:=Lh (HB.out.trans (hb.mono HB.out.size));clear hb))
   go_ret
   exact ⟨qz HV.out.symm,HB3.out⟩
 obtain ⟨A,hA⟩:∃A,A=(decide (ps.length≤32) && ps.all qU):=⟨_,rfl⟩
 obtain ⟨B,hB⟩:∃B,B=(decide (qs.length≤32) && qs.all preB):=⟨_,rfl⟩
 rw [← hA] at HP HV
 rw [← hB] at HQ HV
 clear hA hB
 obtain ⟨np,hnp⟩:∃np,np=ps.length:=⟨_,rfl⟩
 obtain ⟨nq,hnq⟩:∃nq,nq=qs.length:=⟨_,rfl⟩
 rw [← hnp] at HP HV HX ⊢
 rw [← hnq] at HQ HV HX ⊢
 clear hnp hnq
 go_upto_region 3 with (first|(go_at_call 134;refine (HN.out _).mono ?_;rintro e w3 ⟨rfl,rfl⟩)|(go_at_call 135;refine (HT.out _).mono ?_;rintro e w3 ⟨rfl,rfl⟩)|(go_at_call 136;refine HA.out.mono ?_;rintro e w3 ⟨rfl,hb⟩;have HB3:=Lh (HB.out.trans (hb.mono HB.out.size));have hz:=(hb.block _ (qx HX.out)).trans HX.out;have z4:=qq hz (j:=4) rfl;have z5:=qq hz (j:=5) rfl;clear hb hz))
 clear HN HT HA HX q0 q1 q2
 by_cases hp0:0<np
 · have d1:decide (0<(np:Int))=true:=by rw [decide_eq_true_eq];omega
   have d4:decide (0<np)=true:=by rw [decide_eq_true_eq];omega
   by_cases hq0:nq=0
   · have d2:((nq:Int) == 0)=true:=by rw [beq_iff_eq];omega
     have HR:=Lh (show V=A by rw [HV.out,if_pos hp0,decide_eq_true hq0];simp)
     clear HQ
     go_upto_region 4 with fail
     go_wp2_with (go_at_call 137;refine (HP.out _ HB3.out).mono ?_;rintro e w5 ⟨rfl,hb⟩;have HB5:=Lh (HB3.out.trans (hb.mono HB3.out.size));clear hb)
     go_ret
     exact ⟨qz HR.out.symm,HB5.out⟩
   · have d2:((nq:Int) == 0)=false:=by rw [beq_eq_false_iff_ne];omega
     have HR:=Lh (show V=false by rw [HV.out,if_pos hp0,decide_eq_false hq0];simp)
     go_wp2
     go_ret
     exact ⟨qz HR.out.symm,HB3.out⟩
 · have d1:decide (0<(np:Int))=false:=by rw [decide_eq_false_iff_not];omega
   have d4:decide (0<np)=false:=by rw [decide_eq_false_iff_not];omega
   by_cases hq0:0<nq
   · have d2:decide (0<(nq:Int))=true:=by rw [decide_eq_true_eq];omega
     have d3:decide (0<nq)=true:=by rw [decide_eq_true_eq];omega
     have HR:=Lh (show V=B by rw [HV.out,if_neg hp0,decide_eq_true hq0];simp)
     clear HP
     go_upto_region 5 with fail
     go_wp2_with (go_at_call 137;refine (HQ.out _ HB3.out).mono ?_;rintro e w5 ⟨rfl,hb⟩;have HB5:=Lh (HB3.out.trans (hb.mono HB3.out.size));clear hb)
     go_ret
     exact ⟨qz HR.out.symm,HB5.out⟩
   · have d2:decide (0<(nq:Int))=false:=by rw [decide_eq_false_iff_not];omega
     have d3:decide (0<nq)=false:=by rw [decide_eq_false_iff_not];omega
     have HR:=Lh (show V=false by rw [HV.out,if_neg hp0,decide_eq_false hq0];simp)
     go_wp2
     go_ret
     exact ⟨qz HR.out.symm,HB3.out⟩
set_option maxHeartbeats 4000000 in
set_option maxRecDepth 100000 in
theorem b9 (l:List DelegV) (a:Option Addr) (c:Nat) (w:World) (hA:qI w 0 w.heap.size a l) (hl:l.length≤4294967296) (hc:l.length≤c) (hf:∀x ∈ l,DelegFits x) :
 Calls Tryz.prog 83 #[.slice a l.length c] w fun e w'=>e=.returned (.bool (zy l))∧Below w.heap.size w w':=by
 have HA:=Lh hA
 have HF:=Lh hf
 clear hA hf
 obtain ⟨n,hn⟩:∃n,n=l.length:=⟨_,rfl⟩
 have HN:=Lh hn
 rw [← hn] at hl hc ⊢
 clear hn
 obtain ⟨V,hV⟩:∃V,V=zy l:=⟨_,rfl⟩
 have HV:=Lh hV
 rw [← hV]
 clear hV
 by_cases h64:64<n
 · have HR:=Lh (HV.out.trans (bI (l:=l) (by rw [← HN.out];omega)))
   have d1:decide (64<(n:Int))=true:=by rw [decide_eq_true_eq];omega
   go_enter Tryz.func83,Tryz.ntmps83
   go_wp2
   go_ret
   exact ⟨qz HR.out.symm,Below.refl _ _⟩
 have d1:decide (64<(n:Int))=false:=by rw [decide_eq_false_iff_not];omega
 have h64':n≤64:=by omega
 clear h64
 go_enter Tryz.func83,Tryz.ntmps83
 go_wp2
 go_loopw [3,4,10] (fun _ _ i wr=>∃k:Nat,k≤n∧i=.int .i64 k∧(∀j (h:j<l.length),j<k→qi l[j]=true)∧(∀j (h:j<l.length),j<k→((l.take j).any fun y=>decide (y.name=l[j].name))=false)∧Below w.heap.size w wr) (fun _ _ i _=>n - (intOf i).toNat)
 case atStart=>exact ⟨0,by omega,rfl,fun j _ h=>by omega,fun j _ h=>by omega,Below.refl _ _⟩
 case round =>
  obtain ⟨k,hk,rfl,ho1,ho2,hbk⟩:=hrel
  have HO1:=Lh ho1
  have HO2:=Lh ho2
  have HBK:=Lh hbk
  clear ho1 ho2 hbk
  by_cases hlt:k<n
  · have hkl:k<l.length:=by rw [← HN.out];exact hlt
    obtain ⟨b,o,ha,-,hb,ia,ic,pa,pc,qa,qc,e0,e1,e2,e3,e4,e5,-,-,-,hin⟩:=(HA.out.below HBK.out lz lz HBK.out.size).at k hkl
    have HAR:=Lh (HA.out.take k)
    subst ha
    have m1:(0:Int)≤(k:Int):=by omega
    have m2:(k:Int)<(n:Int):=by omega
    have m3:decide ((k:Int)<(n:Int))=true:=by simpa using hlt
    have mkc:(k:Int)≤(c:Int):=by omega
    have HBAD:=Lh (ff (l:=l) hkl)
    have HTWI:=Lh (bf (l:=l) hkl)
    have HN1:=Lh (show qi l[k]=true→∀j (h:j<l.length),j<k+1→qi l[j]=true from fun h0 j hj hjk=>by
     rcases Nat.lt_succ_iff_lt_or_eq.1 hjk with h1|h1
     · exact HO1.out j hj h1
     · subst h1;exact h0)
    have HN2:=Lh (show ((l.take k).any fun y=>decide (y.name=l[k].name))=false→∀j (h:j<l.length),j<k+1→((l.take j).any fun y=>decide (y.name=l[j].name))=false from fun h0 j hj hjk=>by
     rcases Nat.lt_succ_iff_lt_or_eq.1 hjk with h1|h1
     · exact HO2.out j hj h1
     · subst h1;exact h0)
    have HFX:=Lh (HF.out l[k] (List.getElem_mem hkl))
    obtain ⟨x,hx⟩:∃x,x=l[k]:=⟨_,rfl⟩
    rw [← hx] at e0 e1 e2 e3 e4 e5 hin HBAD HTWI HN1 HN2 HFX
    clear hx
    obtain ⟨nm,au,tm,ps,qs⟩:=x
    dsimp only at e0 e1 e2 e3 e4 e5
    obtain ⟨WX,hWX⟩:∃WX,WX=wr.alloc (.cells #[.string nm,.int .i64 au.thr,.slice ia au.ids.length ic,.bool tm,.slice pa ps.length pc,.slice qa qs.length qc] 41):=⟨_,rfl⟩
    have hbX:Below wr.heap.size wr WX:=by rw [hWX];exact (Below.refl _ _).alloc lz _
    have hxX:WX.heap[wr.heap.size]?=some (.cells #[.string nm,.int .i64 au.thr,.slice ia au.ids.length ic,.bool tm,.slice pa ps.length pc,.slice qa qs.length qc] 41 (0,0)):=by rw [hWX];exact heap_alloc_new wr _
    have HBX:=Lh (HBK.out.trans (hbX.mono HBK.out.size))
    have HCX:=Lh (show ∀w':World,Below WX.heap.size WX w'→w'.cell? ⟨wr.heap.size,0,none⟩=some (.string nm)∧w'.cell? ⟨wr.heap.size,1,none⟩=some (.int .i64 au.thr)∧w'.cell? ⟨wr.heap.size,2,none⟩=some (.slice ia au.ids.length ic)∧w'.cell? ⟨wr.heap.size,3,none⟩=some (.bool tm)∧w'.cell? ⟨wr.heap.size,4,none⟩=some (.slice pa ps.length pc)∧w'.cell? ⟨wr.heap.size,5,none⟩=some (.slice qa qs.length qc) from fun w' h=>by
     have hz:=(h.block _ (qx hxX)).trans hxX
     exact ⟨qq hz rfl,qq hz rfl,qq hz rfl,qq hz rfl,qq hz rfl,qq hz rfl⟩)
    have HRM:=Lh (show ∀w':World,Below WX.heap.size WX w'→_ from fun w' h=>jf ⟨nm,au,tm,ps,qs⟩ ia pa qa ic pc qc w' (hin.below (hbX.trans (h.mono hbX.size)) lz lz (Nat.le_trans hbX.size h.size)) HFX.out)
    have HHN:=Lh (show ∀w':World,Below WX.heap.size WX w'→_ from fun w' h=>wL (l.take k) nm (some ⟨b,o,none⟩) c w' (HAR.out.below (HBX.out.trans (h.mono HBX.out.size)) lz lz (Nat.le_trans HBX.out.size h.size)) (by rw [List.length_take];omega))
    have HTL:=Lh (show (l.take k).length=k by rw [List.length_take];omega)
    rw [HTL.out] at HHN
    have HWX:=Lh hWX
    have HBK2:=Lh hbX.size
    obtain ⟨b1,hb1⟩:∃b,b=qi ⟨nm,au,tm,ps,qs⟩:=⟨_,rfl⟩
    obtain ⟨b2,hb2⟩:∃b2,b2=(l.take k).any fun y=>decide (y.name=nm):=⟨_,rfl⟩
    rw [← hb1] at HRM HBAD HN1
    rw [← hb2] at HHN HTWI HN2
    clear hbX hxX hWX hb1 hb2 hin
    go_upto_region 6 with fail
    rw [← HWX.out]
    clear e0 e1 e2 e3 e4 e5 HWX
    cases b1
    · have HR:=Lh (HV.out.trans (HBAD.out rfl))
      obtain ⟨V,hV⟩:∃V:List MP,V=[.con (.agg #[.string nm,.int .i64 au.thr,.slice ia au.ids.length ic,.bool tm,.slice pa ps.length pc,.slice qa qs.length qc]),.con (.bool false),.con (.bool true),.con (.bool true),.any,.any,.any,.any,.any,.any]:=⟨_,rfl⟩
      have HV:=Lh hV
      clear hV
      refine zq 10 (fun d a' w'=>∃x15 x16 x17 x18 x19 x20 x21 x22 x23 x24,a'=⟨#[Value.slice (some { block:=b,off:=o }) n c,undef,u2,Value.int IntKind.i64 (k:Int),Value.pointer (some { block:=wr.heap.size,off:=0 }),Value.slice (some { block:=b,off:=o }) n c,Value.int IntKind.i64 (n:Int),Value.bool false,Value.slice (some { block:=b,off:=o }) n c,Value.int IntKind.i64 (n:Int),Value.int IntKind.i64 (k:Int),Value.bool true,Value.int IntKind.i64 (k:Int),Value.pointer (some { block:=b,off:=o+k * 6 }),Value.agg #[Value.string nm,Value.int IntKind.i64 au.thr,Value.slice ia au.ids.length ic,Value.bool tm,Value.slice pa ps.length pc,Value.slice qa qs.length qc],x15,x16,x17,x18,x19,x20,x21,x22,x23,x24,u25,u26],[]⟩∧zD WX V d w' [x15,x16,x17,x18,x19,x20,x21,x22,x23,x24]) (by kernel_rfl) (by kernel_rfl) ?first ?step ?last
      case first=>exact ⟨_,_,_,_,_,_,_,_,_,_,rfl,zD.first _ _ _ (by rw [HV.out];rfl)⟩
      case step =>
       rintro d a' w' ⟨x15,x16,x17,x18,x19,x20,x21,x22,x23,x24,rfl,h⟩ q hq hn hw
       rcases q with _|_|_|_|_|_|_|_|_|_|q
       · obtain ⟨q0,q1,q2,q3,q4,q5⟩:=HCX.out w' h.1
         refine wpOp_step rfl fun K hK=>?_
         go_simp
         exact hK _ _ ⟨_,x16,x17,x18,x19,x20,x21,x22,x23,x24,rfl,h.sameC 0 _ HV rfl⟩
       · obtain rfl:=h.con 0 (hw _ rfl ⟨0,.data⟩ (by simp) rfl) HV rfl rfl
         obtain ⟨q0,q1,q2,q3,q4,q5⟩:=HCX.out w' h.1
         refine wpOp_step rfl fun K hK=>?_
         go_simp
         refine (HRM.out w' h.1).mono ?_
         rintro e w2 ⟨rfl,hb2⟩
         exact hK _ _ ⟨_,_,x17,x18,x19,x20,x21,x22,x23,x24,rfl,h.didC hb2 1 _ HV rfl⟩
       · obtain rfl:=h.con 1 (hw _ rfl ⟨1,.data⟩ (by simp) rfl) HV rfl rfl
         refine wpOp_step rfl fun K hK=>?_
         go_simp
         exact hK _ _ ⟨x15,_,_,x18,x19,x20,x21,x22,x23,x24,rfl,h.sameC 2 _ HV rfl⟩
       · obtain rfl:=h.con 2 (hw _ rfl ⟨2,.data⟩ (by simp) rfl) HV rfl rfl
         refine wpOp_step rfl fun K hK=>?_
         go_simp
         exact hK _ _ ⟨x15,x16,_,_,x19,x20,x21,x22,x23,x24,rfl,h.sameC 3 _ HV rfl⟩
       · obtain rfl:=h.con 3 (hw _ rfl ⟨3,.guard⟩ (by simp) rfl) HV rfl rfl
         refine wpOp_step rfl fun K hK=>?_
         go_simp
         exact hK _ _ ⟨x15,x16,x17,_,_,x20,x21,x22,x23,x24,rfl,h.same 4 _ .any (by rw [HV.out];rfl) trivial⟩
       · obtain rfl:=h.con 3 (hw _ rfl ⟨3,.guard⟩ (by simp) rfl) HV rfl rfl
         refine wpOp_step rfl fun K hK=>?_
         go_simp
         exact hK _ _ ⟨x15,x16,x17,_,x19,_,x21,x22,x23,x24,rfl,h.same 5 _ .any (by rw [HV.out];rfl) trivial⟩
       · obtain rfl:=h.con 3 (hw _ rfl ⟨3,.guard⟩ (by simp) rfl) HV rfl rfl
         refine wpOp_step rfl fun K hK=>?_
         go_simp
         exact hK _ _ ⟨x15,x16,x17,_,x19,x20,_,x22,x23,x24,rfl,h.same 6 _ .any (by rw [HV.out];rfl) trivial⟩
       · obtain rfl:=h.con 3 (hw _ rfl ⟨3,.guard⟩ (by simp) rfl) HV rfl rfl
         refine wpOp_step rfl fun K hK=>?_
         go_simp
         exact hK _ _ ⟨x15,x16,x17,_,x19,x20,x21,_,x23,x24,rfl,h.same 7 _ .any (by rw [HV.out];rfl) trivial⟩
       · obtain rfl:=h.con 3 (hw _ rfl ⟨3,.guard⟩ (by simp) rfl) HV rfl rfl
         refine wpOp_step rfl fun K hK=>?_
         go_simp
         exact hK _ _ ⟨x15,x16,x17,_,x19,x20,x21,x22,_,x24,rfl,h.same 8 _ .any (by rw [HV.out];rfl) trivial⟩
       · obtain rfl:=h.con 3 (hw _ rfl ⟨3,.chain⟩ (by simp) rfl) HV rfl rfl
         refine wpOp_step rfl fun K hK=>?_
         go_simp
         exact hK _ _ ⟨x15,x16,x17,_,x19,x20,x21,x22,x23,_,rfl,h.same 9 _ .any (by rw [HV.out];rfl) trivial⟩
       · omega
      case last =>
       rintro d a' w' hall ⟨x15,x16,x17,x18,x19,x20,x21,x22,x23,x24,rfl,h⟩
       have hle:=h.1
       obtain rfl:=h.con 3 (hall _ (by omega)) HV rfl rfl
       have HLE:=Lh hle
       clear h hall hle HV
       have HBF:=Lh (HBX.out.trans (HLE.out.mono HBX.out.size))
       go_wp2
       go_ret
       exact ⟨qz HR.out.symm,HBF.out⟩
    · cases b2
      · have HR1:=Lh (HN1.out rfl)
        have HR2:=Lh (HN2.out rfl)
        obtain ⟨V,hV⟩:∃V:List MP,V=[.con (.agg #[.string nm,.int .i64 au.thr,.slice ia au.ids.length ic,.bool tm,.slice pa ps.length pc,.slice qa qs.length qc]),.con (.bool true),.con (.bool false),.con (.bool false),.con (.slice (some ⟨b,o,none⟩) n c),.con (.int .i64 (k:Int)),.con (.slice (some ⟨b,o,none⟩) k c),.con (.pointer (some ⟨wr.heap.size,0,none⟩)),.con (.string nm),.con (.bool false)]:=⟨_,rfl⟩
        have HV:=Lh hV
        clear hV
        refine zq 10 (fun d a' w'=>∃x15 x16 x17 x18 x19 x20 x21 x22 x23 x24,a'=⟨#[Value.slice (some { block:=b,off:=o }) n c,undef,u2,Value.int IntKind.i64 (k:Int),Value.pointer (some { block:=wr.heap.size,off:=0 }),Value.slice (some { block:=b,off:=o }) n c,Value.int IntKind.i64 (n:Int),Value.bool false,Value.slice (some { block:=b,off:=o }) n c,Value.int IntKind.i64 (n:Int),Value.int IntKind.i64 (k:Int),Value.bool true,Value.int IntKind.i64 (k:Int),Value.pointer (some { block:=b,off:=o+k * 6 }),Value.agg #[Value.string nm,Value.int IntKind.i64 au.thr,Value.slice ia au.ids.length ic,Value.bool tm,Value.slice pa ps.length pc,Value.slice qa qs.length qc],x15,x16,x17,x18,x19,x20,x21,x22,x23,x24,u25,u26],[]⟩∧zD WX V d w' [x15,x16,x17,x18,x19,x20,x21,x22,x23,x24]) (by kernel_rfl) (by kernel_rfl) ?first ?step ?last
        case first=>exact ⟨_,_,_,_,_,_,_,_,_,_,rfl,zD.first _ _ _ (by rw [HV.out];rfl)⟩
        case step =>
         rintro d a' w' ⟨x15,x16,x17,x18,x19,x20,x21,x22,x23,x24,rfl,h⟩ q hq hn hw
         rcases q with _|_|_|_|_|_|_|_|_|_|q
         · obtain ⟨q0,q1,q2,q3,q4,q5⟩:=HCX.out w' h.1
           refine wpOp_step rfl fun K hK=>?_
           go_simp
           exact hK _ _ ⟨_,x16,x17,x18,x19,x20,x21,x22,x23,x24,rfl,h.sameC 0 _ HV rfl⟩
         · obtain rfl:=h.con 0 (hw _ rfl ⟨0,.data⟩ (by simp) rfl) HV rfl rfl
           obtain ⟨q0,q1,q2,q3,q4,q5⟩:=HCX.out w' h.1
           refine wpOp_step rfl fun K hK=>?_
           go_simp
           refine (HRM.out w' h.1).mono ?_
           rintro e w2 ⟨rfl,hb2⟩
           exact hK _ _ ⟨_,_,x17,x18,x19,x20,x21,x22,x23,x24,rfl,h.didC hb2 1 _ HV rfl⟩
         · obtain rfl:=h.con 1 (hw _ rfl ⟨1,.data⟩ (by simp) rfl) HV rfl rfl
           refine wpOp_step rfl fun K hK=>?_
           go_simp
           exact hK _ _ ⟨x15,_,_,x18,x19,x20,x21,x22,x23,x24,rfl,h.sameC 2 _ HV rfl⟩
         · obtain rfl:=h.con 2 (hw _ rfl ⟨2,.data⟩ (by simp) rfl) HV rfl rfl
           refine wpOp_step rfl fun K hK=>?_
           go_simp
           exact hK _ _ ⟨x15,x16,_,_,x19,x20,x21,x22,x23,x24,rfl,h.sameC 3 _ HV rfl⟩
         · obtain rfl:=h.con 3 (hw _ rfl ⟨3,.guard⟩ (by simp) rfl) HV rfl rfl
           refine wpOp_step rfl fun K hK=>?_
           go_simp
           exact hK _ _ ⟨x15,x16,x17,_,_,x20,x21,x22,x23,x24,rfl,h.sameC 4 _ HV rfl⟩
         · obtain rfl:=h.con 3 (hw _ rfl ⟨3,.guard⟩ (by simp) rfl) HV rfl rfl
           refine wpOp_step rfl fun K hK=>?_
           go_simp
           exact hK _ _ ⟨x15,x16,x17,_,x19,_,x21,x22,x23,x24,rfl,h.sameC 5 _ HV rfl⟩
         · obtain rfl:=h.con 3 (hw _ rfl ⟨3,.guard⟩ (by simp) rfl) HV rfl rfl
           obtain rfl:=h.con 4 (hw _ rfl ⟨4,.data⟩ (by simp) rfl) HV rfl rfl
           obtain rfl:=h.con 5 (hw _ rfl ⟨5,.data⟩ (by simp) rfl) HV rfl rfl
           refine wpOp_step rfl fun K hK=>?_
           go_simp
           exact hK _ _ ⟨x15,x16,x17,_,_,_,_,x22,x23,x24,rfl,h.sameC 6 _ HV rfl⟩
         · obtain rfl:=h.con 3 (hw _ rfl ⟨3,.guard⟩ (by simp) rfl) HV rfl rfl
           refine wpOp_step rfl fun K hK=>?_
           go_simp
           exact hK _ _ ⟨x15,x16,x17,_,x19,x20,x21,_,x23,x24,rfl,h.sameC 7 _ HV rfl⟩
         · obtain rfl:=h.con 3 (hw _ rfl ⟨3,.guard⟩ (by simp) rfl) HV rfl rfl
           obtain rfl:=h.con 7 (hw _ rfl ⟨7,.data⟩ (by simp) rfl) HV rfl rfl
           obtain ⟨q0,q1,q2,q3,q4,q5⟩:=HCX.out w' h.1
           refine wpOp_step rfl fun K hK=>?_
           go_simp
           exact hK _ _ ⟨x15,x16,x17,_,x19,x20,x21,_,_,x24,rfl,h.sameC 8 _ HV rfl⟩
         · obtain rfl:=h.con 3 (hw _ rfl ⟨3,.chain⟩ (by simp) rfl) HV rfl rfl
           obtain rfl:=h.con 6 (hw _ rfl ⟨6,.data⟩ (by simp) rfl) HV rfl rfl
           obtain rfl:=h.con 8 (hw _ rfl ⟨8,.data⟩ (by simp) rfl) HV rfl rfl
           obtain ⟨q0,q1,q2,q3,q4,q5⟩:=HCX.out w' h.1
           refine wpOp_step rfl fun K hK=>?_
           go_simp
           refine (HHN.out w' h.1).mono ?_
           rintro e w2 ⟨rfl,hb2⟩
           exact hK _ _ ⟨x15,x16,x17,_,x19,x20,_,x22,_,_,rfl,h.didC hb2 9 _ HV rfl⟩
         · omega
        case last =>
         rintro d a' w' hall ⟨x15,x16,x17,x18,x19,x20,x21,x22,x23,x24,rfl,h⟩
         have hle:=h.1
         obtain rfl:=h.con 3 (hall _ (by omega)) HV rfl rfl
         obtain rfl:=h.con 9 (hall _ (by omega)) HV rfl rfl
         have HLE:=Lh hle
         clear h hall hle HV
         have HBF:=Lh (HBX.out.trans (HLE.out.mono HBX.out.size))
         go_wp2
         go_roundw
         case rel=>exact ⟨k+1,by omega,by go_num,HR1.out,HR2.out,HBF.out⟩
         case measure=>simp [intOf];omega
      · have HR:=Lh (HV.out.trans (HTWI.out rfl))
        obtain ⟨V,hV⟩:∃V:List MP,V=[.con (.agg #[.string nm,.int .i64 au.thr,.slice ia au.ids.length ic,.bool tm,.slice pa ps.length pc,.slice qa qs.length qc]),.con (.bool true),.con (.bool false),.con (.bool false),.con (.slice (some ⟨b,o,none⟩) n c),.con (.int .i64 (k:Int)),.con (.slice (some ⟨b,o,none⟩) k c),.con (.pointer (some ⟨wr.heap.size,0,none⟩)),.con (.string nm),.con (.bool true)]:=⟨_,rfl⟩
        have HV:=Lh hV
        clear hV
        refine zq 10 (fun d a' w'=>∃x15 x16 x17 x18 x19 x20 x21 x22 x23 x24,a'=⟨#[Value.slice (some { block:=b,off:=o }) n c,undef,u2,Value.int IntKind.i64 (k:Int),Value.pointer (some { block:=wr.heap.size,off:=0 }),Value.slice (some { block:=b,off:=o }) n c,Value.int IntKind.i64 (n:Int),Value.bool false,Value.slice (some { block:=b,off:=o }) n c,Value.int IntKind.i64 (n:Int),Value.int IntKind.i64 (k:Int),Value.bool true,Value.int IntKind.i64 (k:Int),Value.pointer (some { block:=b,off:=o+k * 6 }),Value.agg #[Value.string nm,Value.int IntKind.i64 au.thr,Value.slice ia au.ids.length ic,Value.bool tm,Value.slice pa ps.length pc,Value.slice qa qs.length qc],x15,x16,x17,x18,x19,x20,x21,x22,x23,x24,u25,u26],[]⟩∧zD WX V d w' [x15,x16,x17,x18,x19,x20,x21,x22,x23,x24]) (by kernel_rfl) (by kernel_rfl) ?first ?step ?last
        case first=>exact ⟨_,_,_,_,_,_,_,_,_,_,rfl,zD.first _ _ _ (by rw [HV.out];rfl)⟩
        case step =>
         rintro d a' w' ⟨x15,x16,x17,x18,x19,x20,x21,x22,x23,x24,rfl,h⟩ q hq hn hw
         rcases q with _|_|_|_|_|_|_|_|_|_|q
         · obtain ⟨q0,q1,q2,q3,q4,q5⟩:=HCX.out w' h.1
           refine wpOp_step rfl fun K hK=>?_
           go_simp
           exact hK _ _ ⟨_,x16,x17,x18,x19,x20,x21,x22,x23,x24,rfl,h.sameC 0 _ HV rfl⟩
         · obtain rfl:=h.con 0 (hw _ rfl ⟨0,.data⟩ (by simp) rfl) HV rfl rfl
           obtain ⟨q0,q1,q2,q3,q4,q5⟩:=HCX.out w' h.1
           refine wpOp_step rfl fun K hK=>?_
           go_simp
           refine (HRM.out w' h.1).mono ?_
           rintro e w2 ⟨rfl,hb2⟩
           exact hK _ _ ⟨_,_,x17,x18,x19,x20,x21,x22,x23,x24,rfl,h.didC hb2 1 _ HV rfl⟩
         · obtain rfl:=h.con 1 (hw _ rfl ⟨1,.data⟩ (by simp) rfl) HV rfl rfl
           refine wpOp_step rfl fun K hK=>?_
           go_simp
           exact hK _ _ ⟨x15,_,_,x18,x19,x20,x21,x22,x23,x24,rfl,h.sameC 2 _ HV rfl⟩
         · obtain rfl:=h.con 2 (hw _ rfl ⟨2,.data⟩ (by simp) rfl) HV rfl rfl
           refine wpOp_step rfl fun K hK=>?_
           go_simp
           exact hK _ _ ⟨x15,x16,_,_,x19,x20,x21,x22,x23,x24,rfl,h.sameC 3 _ HV rfl⟩
         · obtain rfl:=h.con 3 (hw _ rfl ⟨3,.guard⟩ (by simp) rfl) HV rfl rfl
           refine wpOp_step rfl fun K hK=>?_
           go_simp
           exact hK _ _ ⟨x15,x16,x17,_,_,x20,x21,x22,x23,x24,rfl,h.sameC 4 _ HV rfl⟩
         · obtain rfl:=h.con 3 (hw _ rfl ⟨3,.guard⟩ (by simp) rfl) HV rfl rfl
           refine wpOp_step rfl fun K hK=>?_
           go_simp
           exact hK _ _ ⟨x15,x16,x17,_,x19,_,x21,x22,x23,x24,rfl,h.sameC 5 _ HV rfl⟩
         · obtain rfl:=h.con 3 (hw _ rfl ⟨3,.guard⟩ (by simp) rfl) HV rfl rfl
           obtain rfl:=h.con 4 (hw _ rfl ⟨4,.data⟩ (by simp) rfl) HV rfl rfl
           obtain rfl:=h.con 5 (hw _ rfl ⟨5,.data⟩ (by simp) rfl) HV rfl rfl
           refine wpOp_step rfl fun K hK=>?_
           go_simp
           exact hK _ _ ⟨x15,x16,x17,_,_,_,_,x22,x23,x24,rfl,h.sameC 6 _ HV rfl⟩
         · obtain rfl:=h.con 3 (hw _ rfl ⟨3,.guard⟩ (by simp) rfl) HV rfl rfl
           refine wpOp_step rfl fun K hK=>?_
           go_simp
           exact hK _ _ ⟨x15,x16,x17,_,x19,x20,x21,_,x23,x24,rfl,h.sameC 7 _ HV rfl⟩
         · obtain rfl:=h.con 3 (hw _ rfl ⟨3,.guard⟩ (by simp) rfl) HV rfl rfl
           obtain rfl:=h.con 7 (hw _ rfl ⟨7,.data⟩ (by simp) rfl) HV rfl rfl
           obtain ⟨q0,q1,q2,q3,q4,q5⟩:=HCX.out w' h.1
           refine wpOp_step rfl fun K hK=>?_
           go_simp
           exact hK _ _ ⟨x15,x16,x17,_,x19,x20,x21,_,_,x24,rfl,h.sameC 8 _ HV rfl⟩
         · obtain rfl:=h.con 3 (hw _ rfl ⟨3,.chain⟩ (by simp) rfl) HV rfl rfl
           obtain rfl:=h.con 6 (hw _ rfl ⟨6,.data⟩ (by simp) rfl) HV rfl rfl
           obtain rfl:=h.con 8 (hw _ rfl ⟨8,.data⟩ (by simp) rfl) HV rfl rfl
           obtain ⟨q0,q1,q2,q3,q4,q5⟩:=HCX.out w' h.1
           refine wpOp_step rfl fun K hK=>?_
           go_simp
           refine (HHN.out w' h.1).mono ?_
           rintro e w2 ⟨rfl,hb2⟩
           exact hK _ _ ⟨x15,x16,x17,_,x19,x20,_,x22,_,_,rfl,h.didC hb2 9 _ HV rfl⟩
         · omega
        case last =>
         rintro d a' w' hall ⟨x15,x16,x17,x18,x19,x20,x21,x22,x23,x24,rfl,h⟩
         have hle:=h.1
         obtain rfl:=h.con 3 (hall _ (by omega)) HV rfl rfl
         obtain rfl:=h.con 9 (hall _ (by omega)) HV rfl rfl
         have HLE:=Lh hle
         clear h hall hle HV
         have HBF:=Lh (HBX.out.trans (HLE.out.mono HBX.out.size))
         go_wp2
         go_ret
         exact ⟨qz HR.out.symm,HBF.out⟩
  · have m3:decide ((k:Int)<(n:Int))=false:=by simpa using hlt
    have HR:=Lh (HV.out.trans (un (l:=l) (by rw [← HN.out];exact h64') (fun j hj=>HO1.out j hj (by rw [← HN.out] at hj;omega)) (fun j hj=>HO2.out j hj (by rw [← HN.out] at hj;omega))))
    go_wp2
    go_ret
    exact ⟨qz HR.out.symm,HBK.out⟩
set_option maxHeartbeats 1000000 in
theorem ft (l:List ByteArray) (path:ByteArray) (a:Option Addr) (c:Nat) (w:World) (hA:qk w 0 w.heap.size a l) (hl:l.length≤4294967296) (hs:∀s ∈ l,s.size≤4294967296) (hp:path.size≤4294967296) (hT:Tabs w) :
 Calls Tryz.prog 315 #[.slice a l.length c,.string path] w fun e w'=>e=.returned (.bool (z7 l path))∧Below w.heap.size w w':=by
 have HA:=Lh hA
 have HS:=Lh hs
 have HD:=Lh (nH path w (by omega) hT)
 have HV:=Lh (show z7 l path=l.any (fun q=>preB q && bk q (lj path)) from rfl)
 clear hA hs hT
 obtain ⟨n,hn⟩:∃n,n=l.length:=⟨_,rfl⟩
 have HN:=Lh hn
 rw [← hn] at hl ⊢
 clear hn
 obtain ⟨D,hD⟩:∃D,D=lj path:=⟨_,rfl⟩
 rw [← hD] at HV
 rw [show (⟨(jJ path.data.toList).toArray⟩:ByteArray)=lj path from rfl,← hD] at HD
 obtain ⟨V,hVV⟩:∃V,V=z7 l path:=⟨_,rfl⟩
 rw [← hVV] at HV ⊢
 clear hD hVV
 go_enter Tryz.func315,Tryz.ntmps315
 go_wp2_with (go_at_call 181;refine HD.out.mono ?_;rintro e w1 ⟨rfl,hb⟩;have HB1:=Lh hb;clear hb)
 go_loopw [7,12] (fun _ i wr=>∃k:Nat,k≤n∧i=.int .i64 k∧(∀j (h:j<l.length),j<k→(preB l[j] && bk l[j] D)=false)∧Below w.heap.size w wr) (fun _ i _=>n - (intOf i).toNat)
 case atStart=>exact ⟨0,by omega,rfl,fun j _ h=>by omega,HB1.out⟩
 case round =>
  obtain ⟨k,hk,rfl,hno,hbk⟩:=hrel
  have HNO:=Lh hno
  have HBK:=Lh hbk
  clear hno hbk
  by_cases hlt:k<n
  · have hkl:k<l.length:=by rw [← HN.out];exact hlt
    obtain ⟨b,o,ha,-,hb,e0⟩:=(HA.out.below HBK.out lz lz lz).at k hkl
    subst ha
    have m1:(0:Int)≤(k:Int):=by omega
    have m2:(k:Int)<(n:Int):=by omega
    have m3:decide ((k:Int)<(n:Int))=true:=by simpa using hlt
    have HYES:=Lh (fu (f:=fun q=>preB q && bk q D) hkl)
    have HNX:=Lh (show (preB l[k] && bk l[k] D)=false→∀j (h:j<l.length),j<k+1→(preB l[j] && bk l[j] D)=false from fun h0 j hj hjk=>by
     rcases Nat.lt_succ_iff_lt_or_eq.1 hjk with h1|h1
     · exact HNO.out j hj h1
     · subst h1;exact h0)
    have hsz:=HS.out l[k] (List.getElem_mem hkl)
    obtain ⟨q,hq⟩:∃q,q=l[k]:=⟨_,rfl⟩
    rw [← hq] at e0 HYES HNX hsz
    have HM:=Lh (fun w=>nf q w (by omega))
    have HH:=Lh (fun w=>Tryz.strings_HasPrefix D q w)
    have hpf:Lib.hasPrefix D.data.toList q.data.toList=bk q D:=rfl
    rw [hpf] at HH
    obtain ⟨y,hy⟩:∃y,y=preB q:=⟨_,rfl⟩
    obtain ⟨z,hz⟩:∃z,z=bk q D:=⟨_,rfl⟩
    rw [← hy] at HM HYES HNX
    rw [← hz] at HH HYES HNX
    clear hq hy hz hsz hpf
    cases y with
    | false =>
     have HR:=Lh (HNX.out rfl)
     go_wp2_with (go_at_call 139;refine (HM.out _).mono ?_;rintro e w3 ⟨rfl,rfl⟩)
     go_roundw
     case rel=>exact ⟨k+1,by omega,by go_num,HR.out,HBK.out⟩
     case measure=>simp [intOf];omega
    | true =>
     cases z with
     | false =>
      have HR:=Lh (HNX.out rfl)
      go_wp2_with (first|(go_at_call 139;refine (HM.out _).mono ?_;rintro e w3 ⟨rfl,rfl⟩)|(go_at_call 208;refine (HH.out _).mono ?_;rintro e w3 ⟨rfl,rfl⟩))
      go_roundw
      case rel=>exact ⟨k+1,by omega,by go_num,HR.out,HBK.out⟩
      case measure=>simp [intOf];omega
     | true =>
      have HR:=Lh (HV.out.trans (HYES.out rfl))
      go_wp2_with (first|(go_at_call 139;refine (HM.out _).mono ?_;rintro e w3 ⟨rfl,rfl⟩)|(go_at_call 208;refine (HH.out _).mono ?_;rintro e w3 ⟨rfl,rfl⟩))
      go_ret
      exact ⟨qz HR.out.symm,HBK.out⟩
  · have m3:decide ((k:Int)<(n:Int))=false:=by simpa using hlt
    have HR:=Lh (HV.out.trans (br (f:=fun q=>preB q && bk q D) (l:=l) (n:=k) (by rw [← HN.out];omega) HNO.out))
    go_wp2
    go_ret
    exact ⟨qz HR.out.symm,HBK.out⟩
end Go.Proofs.YthgembbgcbaghaaGreatDoor
