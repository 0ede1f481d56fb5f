/- The law SnapElse: the call returns true. Printed by genelse.py. -/
import Derived.Test.YtgghgcilpfdbjaaGreatDoorSu37
import Derived.Test.YtgghgcilpfdbjaaGreatDoorSu36
import Derived.Test.YtgghgcilpfdbjaaGreatDoorSu34
import Derived.Test.YtgghgcilpfdbjaaGreatDoorSu19
import Derived.Test.YtgghgcilpfdbjaaGreatDoorSu03
import Derived.Test.YtgghgcilpfdbjaaGreatDoorSu21

namespace Go.Proofs.YtgghgcilpfdbjaaGreatDoor
open Go.RowKit Go.Shelf Go.Sort
set_option maxHeartbeats 16000000 in
set_option maxRecDepth 100000 in
theorem lawElse (v e : Int) (l : List PinV) (a : Option Addr) (c : Nat) (P : PinV) (pa : Option Addr) (pc : Nat) (other : ByteArray) (u : JV) (uan uai : Option Addr) (ucn uci : Nat) (which : Int) (hwh : in64 which) (w : World) (hP : PinsAt w 0 w.heap.size a l) (hl : l.length ≤ 9223372036854775807) (hf : ∀ p ∈ l, PinFits p)
   (hK : KeysAt w 0 w.heap.size pa P.hs) (hkl : P.hs.length ≤ 9223372036854775807) (hR : Rep w 0 w.heap.size u (.agg #[.int .u8 u.kind, .int .i64 u.n, .string u.t, .slice uan u.names.length ucn, .slice uai u.items.length uci])) (hT : TabW w) (hP10 : Pow10 w) :
   Calls Tryz.prog 10 #[.agg #[.int .i64 v, .int .i64 e, .slice a l.length c], .agg #[.string P.name, .int .i64 P.ver, .int .i64 P.len, .slice pa P.hs.length pc], .string other, .agg #[.int .u8 u.kind, .int .i64 u.n, .string u.t, .slice uan u.names.length ucn, .slice uai u.items.length uci], .int .i64 which] w fun r w' => r = .returned (.bool true) ∧ Below w.heap.size w w' := by
 obtain ⟨W2, hW2⟩ : ∃ W2, W2 = ((w.alloc (.cells #[.int .i64 v, .int .i64 e, .slice a l.length c] 24)).alloc (.cells #[.string P.name, .int .i64 P.ver, .int .i64 P.len, .slice pa P.hs.length pc] 36)).alloc (.cells #[.int .u8 u.kind, .int .i64 u.n, .string u.t, .slice uan u.names.length ucn, .slice uai u.items.length uci] 30) := ⟨_, rfl⟩
 have hz1 : (w.alloc (.cells #[.int .i64 v, .int .i64 e, .slice a l.length c] 24)).heap.size = w.heap.size + 1 := by simp
 have hz2 : ((w.alloc (.cells #[.int .i64 v, .int .i64 e, .slice a l.length c] 24)).alloc (.cells #[.string P.name, .int .i64 P.ver, .int .i64 P.len, .slice pa P.hs.length pc] 36)).heap.size = w.heap.size + 2 := by simp
 have hb2 : Below w.heap.size w W2 := by rw [hW2]; exact (((Below.refl _ _).alloc (Nat.le_refl _) _).alloc (by simp) _).alloc (by simp; omega) _
 have HXS := Lib.hid (show W2.heap[w.heap.size]? = some (.cells #[.int .i64 v, .int .i64 e, .slice a l.length c] 24 (0, 0)) by rw [hW2, Below.heap_alloc _ _ _ (by simp; omega), Below.heap_alloc _ _ _ (by simp)]; exact heap_alloc_new w _)
 have HXP := Lib.hid (show W2.heap[w.heap.size + 1]? = some (.cells #[.string P.name, .int .i64 P.ver, .int .i64 P.len, .slice pa P.hs.length pc] 36 (0, 0)) by rw [hW2, Below.heap_alloc _ _ _ (by simp), ← hz1]; exact heap_alloc_new _ _)
 have HXV := Lib.hid (show W2.heap[w.heap.size + 2]? = some (.cells #[.int .u8 u.kind, .int .i64 u.n, .string u.t, .slice uan u.names.length ucn, .slice uai u.items.length uci] 30 (0, 0)) by rw [hW2, ← hz2]; exact heap_alloc_new _ _)
 have HPA := Lib.hid (show ∀ w' : World, Below W2.heap.size W2 w' → PinsAt w' 0 w'.heap.size a l from fun w' h => hP.below (hb2.trans (h.mono hb2.size)) (Nat.le_refl _) (Nat.zero_le _) (Nat.le_trans hb2.size h.size))
 have HKA := Lib.hid (show ∀ w' : World, Below W2.heap.size W2 w' → KeysAt w' 0 w'.heap.size pa P.hs from fun w' h => hK.below (hb2.trans (h.mono hb2.size)) (Nat.le_refl _) (Nat.zero_le _) (Nat.le_trans hb2.size h.size))
 have HRA := Lib.hid (show ∀ w' : World, Below W2.heap.size W2 w' → Rep w' 0 w'.heap.size u (.agg #[.int .u8 u.kind, .int .i64 u.n, .string u.t, .slice uan u.names.length ucn, .slice uai u.items.length uci]) from fun w' h => hR.below (hb2.trans (h.mono hb2.size)) (Nat.le_refl _) (Nat.zero_le _) (Nat.le_trans hb2.size h.size))
 have HTW := Lib.hid (show ∀ w' : World, Below W2.heap.size W2 w' → TabW w' ∧ Pow10 w' from fun w' h => ⟨hT.below (hb2.trans (h.mono hb2.size)), hP10.below (hb2.trans (h.mono hb2.size))⟩)
 have HAW := Lib.hid (show ∀ w' : World, Below W2.heap.size W2 w' → Calls Tryz.prog 14 #[] w' (fun e w'' => e = .returned (.bool true) ∧ Below w'.heap.size w' w'') from fun w' h => lawAwake23 w' (HTW.out w' h).1 (HTW.out w' h).2)
 have HF := Lib.hid hf
 have HB2 := Lib.hid hb2
 have HB := Lib.hid (Below.refl W2.heap.size W2)
 have HZ2 := Lib.hid (show 0 < W2.heap.size by rw [hW2]; simp)
 have HZ3 := Lib.hid (show W2.heap.size = w.heap.size + 3 by rw [hW2]; simp)
 have HW2 := Lib.hid hW2
 clear hW2 hb2 hP hT hP10 hf hK hR hz1 hz2
 go_enter Tryz.func10, Tryz.ntmps10
 go_upto_region 1 with fail
 rw [← HW2.out]
 clear HW2
 have xS0 := box_cell HXS.out (j := 0) rfl; have xS1 := box_cell HXS.out (j := 1) rfl; have xS2 := box_cell HXS.out (j := 2) rfl
 go_wp2_with fail
 clear xS0 xS1 xS2
 obtain ⟨W3, hW3⟩ : ∃ W3, W3 = W2.alloc (.cells #[.int .i64 v, .int .i64 e, .slice a l.length c] 24) := ⟨_, rfl⟩
 have hbx : Below W2.heap.size W2 W3 := by rw [hW3]; exact (Below.refl _ _).alloc (Nat.le_refl _) _
 replace HB := Lib.hid (HB.out.trans (hbx.mono HB.out.size))
 replace HXS := Lib.hid ((hbx.block _ (heap_lt HXS.out)).trans HXS.out)
 replace HXP := Lib.hid ((hbx.block _ (heap_lt HXP.out)).trans HXP.out)
 replace HXV := Lib.hid ((hbx.block _ (heap_lt HXV.out)).trans HXV.out)
 have HXL := Lib.hid (show W3.heap[W2.heap.size]? = some (.cells #[.int .i64 v, .int .i64 e, .slice a l.length c] 24 (0, 0)) by rw [hW3]; exact heap_alloc_new W2 _)
 have HW3 := Lib.hid hW3
 rw [← HW3.out]
 clear hbx hW3 HW3
 refine (lawLong1 l v e a c W2.heap.size 1 W3 (HPA.out W3 HB.out) HF.out hl HXL.out).mono ?_
 rintro r w4 ⟨b1, rfl, hs1, hb4⟩
 have HS1 := Lib.hid hs1
 replace HB := Lib.hid (HB.out.trans (hb4.mono HB.out.size))
 replace HXS := Lib.hid ((hb4.block _ (heap_lt HXS.out)).trans HXS.out)
 replace HXP := Lib.hid ((hb4.block _ (heap_lt HXP.out)).trans HXP.out)
 replace HXV := Lib.hid ((hb4.block _ (heap_lt HXV.out)).trans HXV.out)
 replace HXL := Lib.hid ((hb4.block _ (heap_lt HXL.out)).trans HXL.out)
 clear hs1 hb4 HXL
 have HWH := Lib.hid hwh
 clear hwh
 cases b1 with
 | true =>
   go_wp2_with fail
   refine (HAW.out w4 HB.out).mono ?_
   rintro r w5 ⟨rfl, hb5⟩
   replace HB := Lib.hid (HB.out.trans (hb5.mono HB.out.size))
   clear hb5
   go_wp2
   go_ret
   exact ⟨rfl, HB2.out.trans (HB.out.mono HB2.out.size)⟩
 | false =>
   have HSH1 := Lib.hid (HS1.out rfl)
   clear HS1
   have xP0 := box_cell HXP.out (j := 0) rfl; have xP1 := box_cell HXP.out (j := 1) rfl; have xP2 := box_cell HXP.out (j := 2) rfl; have xP3 := box_cell HXP.out (j := 3) rfl
   go_wp2_with fail
   refine (lawLongPin P.name P.ver P.len P.hs pa pc w4 (HKA.out w4 HB.out) hkl).mono ?_
   clear xP0 xP1 xP2 xP3
   rintro r w5 ⟨b2, rfl, hs2, hb5⟩
   replace HB := Lib.hid (HB.out.trans (hb5.mono HB.out.size))
   replace HXS := Lib.hid ((hb5.block _ (heap_lt HXS.out)).trans HXS.out)
   replace HXP := Lib.hid ((hb5.block _ (heap_lt HXP.out)).trans HXP.out)
   replace HXV := Lib.hid ((hb5.block _ (heap_lt HXV.out)).trans HXV.out)
   have HS2 := Lib.hid hs2
   clear hs2 hb5
   cases b2 with
   | true =>
     go_wp2_with fail
     refine (HAW.out w5 HB.out).mono ?_
     rintro r w6 ⟨rfl, hb5⟩
     replace HB := Lib.hid (HB.out.trans (hb5.mono HB.out.size))
     clear hb5
     go_wp2
     go_ret
     exact ⟨rfl, HB2.out.trans (HB.out.mono HB2.out.size)⟩
   | false =>
     have HSH2 := Lib.hid (HS2.out rfl)
     clear HS2
     by_cases hlong : 1000 < other.size
     · have hdr : decide ((1000 : Int) < other.size) = true := by simp; omega
       clear hlong
       go_wp2_with fail
       refine (HAW.out w5 HB.out).mono ?_
       rintro r w8 ⟨rfl, hb5⟩
       replace HB := Lib.hid (HB.out.trans (hb5.mono HB.out.size))
       clear hb5
       go_wp2
       go_ret
       exact ⟨rfl, HB2.out.trans (HB.out.mono HB2.out.size)⟩
     have hdr : decide ((1000 : Int) < other.size) = false := by simp; omega
     have HFS := Lib.hid (show other.size ≤ 1000 by omega)
     clear hlong
     have xV0 := box_cell HXV.out (j := 0) rfl; have xV1 := box_cell HXV.out (j := 1) rfl; have xV2 := box_cell HXV.out (j := 2) rfl; have xV3 := box_cell HXV.out (j := 3) rfl; have xV4 := box_cell HXV.out (j := 4) rfl
     go_wp2_with fail
     clear xV0 xV1 xV2 xV3 xV4
     obtain ⟨W6, hW6⟩ : ∃ W6, W6 = w5.alloc (.cells #[.int .u8 u.kind, .int .i64 u.n, .string u.t, .slice uan u.names.length ucn, .slice uai u.items.length uci] 30) := ⟨_, rfl⟩
     have hbx : Below w5.heap.size w5 W6 := by rw [hW6]; exact (Below.refl _ _).alloc (Nat.le_refl _) _
     replace HB := Lib.hid (HB.out.trans (hbx.mono HB.out.size))
     replace HXS := Lib.hid ((hbx.block _ (heap_lt HXS.out)).trans HXS.out)
     replace HXP := Lib.hid ((hbx.block _ (heap_lt HXP.out)).trans HXP.out)
     replace HXV := Lib.hid ((hbx.block _ (heap_lt HXV.out)).trans HXV.out)
     have HXL := Lib.hid (show W6.heap[w5.heap.size]? = some (.cells #[.int .u8 u.kind, .int .i64 u.n, .string u.t, .slice uan u.names.length ucn, .slice uai u.items.length uci] 30 (0, 0)) by rw [hW6]; exact heap_alloc_new w5 _)
     have HW6 := Lib.hid hW6
     rw [← HW6.out]
     clear hbx hW6 HW6
     refine (lawLong [u] (some ⟨w5.heap.size, 0, none⟩) 1 W6 (repL_one HXL.out (Nat.zero_le _) (heap_lt HXL.out) (HRA.out W6 HB.out))).mono ?_
     rintro r w7 ⟨b3, rfl, hs3, h'⟩
     subst h'
     have HS3 := Lib.hid hs3
     clear hs3 HXL
     cases b3 with
     | true =>
       go_wp2_with fail
       refine (HAW.out W6 HB.out).mono ?_
       rintro r w8 ⟨rfl, hb5⟩
       replace HB := Lib.hid (HB.out.trans (hb5.mono HB.out.size))
       clear hb5
       go_wp2
       go_ret
       exact ⟨rfl, HB2.out.trans (HB.out.mono HB2.out.size)⟩
     | false =>
       have hwt : u.wt ≤ 20000 := by have := HS3.out rfl; simpa [JV.wts] using this
       have HWT := Lib.hid hwt
       clear hwt HS3 hdr
       have HMY := Lib.hid (snapMay v e l a c W6 (HPA.out W6 HB.out) hl HF.out (HTW.out W6 HB.out).1 (HTW.out W6 HB.out).2)
       obtain ⟨mb, hmb⟩ : ∃ mb, mb = maySnap ⟨v, e, l⟩ := ⟨_, rfl⟩
       rw [← hmb] at HMY
       have HMB := Lib.hid hmb
       clear hmb
       have xS0 := box_cell HXS.out (j := 0) rfl; have xS1 := box_cell HXS.out (j := 1) rfl; have xS2 := box_cell HXS.out (j := 2) rfl
       go_wp2_with fail
       refine (HMY.out).mono ?_
       clear xS0 xS1 xS2
       rintro r w8 ⟨rfl, hb8⟩
       replace HB := Lib.hid (HB.out.trans (hb8.mono HB.out.size))
       replace HXS := Lib.hid ((hb8.block _ (heap_lt HXS.out)).trans HXS.out)
       replace HXP := Lib.hid ((hb8.block _ (heap_lt HXP.out)).trans HXP.out)
       replace HXV := Lib.hid ((hb8.block _ (heap_lt HXV.out)).trans HXV.out)
       clear hb8 HMY
       cases mb with
       | false =>
         go_wp2_with fail
         refine (HAW.out w8 HB.out).mono ?_
         rintro r w9 ⟨rfl, hb5⟩
         replace HB := Lib.hid (HB.out.trans (hb5.mono HB.out.size))
         clear hb5
         go_wp2
         go_ret
         exact ⟨rfl, HB2.out.trans (HB.out.mono HB2.out.size)⟩
       | true =>
         have HM := Lib.hid HMB.out.symm
         clear HMB
         have hzk : ∀ k ∈ P.hs, k.1.size ≤ 9223372036854775807 ∧ k.2.size ≤ 9223372036854775807 := fun k hk => ⟨Nat.le_trans (HSH2.out.2.2 k hk).1 (by decide), Nat.le_trans (HSH2.out.2.2 k hk).2 (by decide)⟩
         have hnm : P.name.size ≤ 9223372036854775807 := Nat.le_trans HSH2.out.1 (by decide)
         have HMY := Lib.hid (snapMayPin P.name P.ver P.len P.hs pa pc w8 (HKA.out w8 HB.out) hnm hkl hzk)
         obtain ⟨pb, hpb⟩ : ∃ pb, pb = mayPin P := ⟨_, rfl⟩
         rw [show mayPin ⟨P.name, P.ver, P.len, P.hs⟩ = pb from hpb.symm] at HMY
         have HMB := Lib.hid hpb
         clear hpb hzk hnm
         have xP0 := box_cell HXP.out (j := 0) rfl; have xP1 := box_cell HXP.out (j := 1) rfl; have xP2 := box_cell HXP.out (j := 2) rfl; have xP3 := box_cell HXP.out (j := 3) rfl
         go_wp2_with fail
         refine (HMY.out).mono ?_
         clear xP0 xP1 xP2 xP3
         rintro r w9 ⟨rfl, hb9⟩
         replace HB := Lib.hid (HB.out.trans (hb9.mono HB.out.size))
         replace HXS := Lib.hid ((hb9.block _ (heap_lt HXS.out)).trans HXS.out)
         replace HXP := Lib.hid ((hb9.block _ (heap_lt HXP.out)).trans HXP.out)
         replace HXV := Lib.hid ((hb9.block _ (heap_lt HXV.out)).trans HXV.out)
         clear hb9 HMY
         cases pb with
         | false =>
           go_wp2_with fail
           refine (HAW.out w9 HB.out).mono ?_
           rintro r w10 ⟨rfl, hb5⟩
           replace HB := Lib.hid (HB.out.trans (hb5.mono HB.out.size))
           clear hb5
           go_wp2
           go_ret
           exact ⟨rfl, HB2.out.trans (HB.out.mono HB2.out.size)⟩
         | true =>
           have HPM := Lib.hid HMB.out.symm
           clear HMB
           go_wp2_with fail
           refine (HAW.out w9 HB.out).mono ?_
           rintro r w10 ⟨rfl, hb10⟩
           replace HB := Lib.hid (HB.out.trans (hb10.mono HB.out.size))
           replace HXS := Lib.hid ((hb10.block _ (heap_lt HXS.out)).trans HXS.out)
           replace HXP := Lib.hid ((hb10.block _ (heap_lt HXP.out)).trans HXP.out)
           replace HXV := Lib.hid ((hb10.block _ (heap_lt HXV.out)).trans HXV.out)
           have HB80 := Lib.hid (show 0 < w10.heap.size from Nat.lt_of_lt_of_le HZ2.out HB.out.size)
           have HZ10 := Lib.hid (show W2.heap.size ≤ w10.heap.size from HB.out.size)
           clear hb10
           have hall : l.all mayPin = true := (maySnap_parts.1 HM.out).2.2.2.1
           have hl256 : l.length ≤ 256 := (maySnap_parts.1 HM.out).2.2.1
           have HSV := Lib.hid (snapValue v e l a c w10 (HPA.out w10 HB.out) HF.out (HTW.out w10 HB.out).1 (HTW.out w10 HB.out).2 HM.out (pins_made hall) (fun p hp => Nat.le_trans (pinJ_wt (List.all_eq_true.1 hall p hp)) (by decide)) (Nat.le_trans (metaJ_wt hall hl256) (by decide)))
           clear hall hl256
           have xS0 := box_cell HXS.out (j := 0) rfl; have xS1 := box_cell HXS.out (j := 1) rfl; have xS2 := box_cell HXS.out (j := 2) rfl
           go_wp2_with fail
           refine (HSV.out).mono ?_
           clear xS0 xS1 xS2
           rintro r w11 ⟨fan, fcn, fai, fci, rfl, hr11, hb11⟩
           replace HB := Lib.hid (HB.out.trans (hb11.mono HB.out.size))
           replace HXS := Lib.hid ((hb11.block _ (heap_lt HXS.out)).trans HXS.out)
           replace HXP := Lib.hid ((hb11.block _ (heap_lt HXP.out)).trans HXP.out)
           replace HXV := Lib.hid ((hb11.block _ (heap_lt HXV.out)).trans HXV.out)
           obtain ⟨W12, hW12⟩ : ∃ W12, W12 = w11.alloc (.cells #[.int .u8 5, .int .i64 0, .string { data := #[] }, .slice fan 4 fcn, .slice fai 4 fci] 30) := ⟨_, rfl⟩
           have hbx : Below w11.heap.size w11 W12 := by rw [hW12]; exact (Below.refl _ _).alloc (Nat.le_refl _) _
           replace HB := Lib.hid (HB.out.trans (hbx.mono HB.out.size))
           replace HXS := Lib.hid ((hbx.block _ (heap_lt HXS.out)).trans HXS.out)
           replace HXP := Lib.hid ((hbx.block _ (heap_lt HXP.out)).trans HXP.out)
           replace HXV := Lib.hid ((hbx.block _ (heap_lt HXV.out)).trans HXV.out)
           have HXW := Lib.hid (show W12.heap[w11.heap.size]? = some (.cells #[.int .u8 5, .int .i64 0, .string { data := #[] }, .slice fan 4 fcn, .slice fai 4 fci] 30 (0, 0)) by rw [hW12]; exact heap_alloc_new w11 _)
           have HW12 := Lib.hid hW12
           have HRJ := Lib.hid (show Rep W12 w10.heap.size W12.heap.size (snapJ ⟨v, e, l⟩) (.agg #[.int .u8 5, .int .i64 0, .string { data := #[] }, .slice fan 4 fcn, .slice fai 4 fci]) from hr11.below (B := w11.heap.size) hbx (Nat.le_refl _) (Nat.le_refl _) (Nat.le_of_lt (heap_lt HXW.out)))
           have HZ12 := Lib.hid (show w10.heap.size ≤ W12.heap.size from Nat.le_trans hb11.size (Nat.le_of_lt (heap_lt HXW.out)))
           clear hbx hr11 hb11 HSV
           go_upto_region 4 with fail
           rw [← HW12.out]
           clear hW12 HW12
           have HPV := Lib.hid (pins_made (l := [P]) (by simp [HPM.out]) P (by simp) pa pc W12 (HKA.out W12 HB.out))
           have xP0 := box_cell HXP.out (j := 0) rfl; have xP1 := box_cell HXP.out (j := 1) rfl; have xP2 := box_cell HXP.out (j := 2) rfl; have xP3 := box_cell HXP.out (j := 3) rfl
           go_wp2_with fail
           refine (HPV.out).mono ?_
           clear xP0 xP1 xP2 xP3
           rintro r w13 ⟨gan, gcn, gai, gci, rfl, hr13, hb13⟩
           replace HRJ := Lib.hid (HRJ.out.below hb13 (Nat.le_refl _) (Nat.le_refl _) hb13.size)
           have hjl := pinJ_lens P
           have HKJ := Lib.hid (show (pinJ P).kind = 5 ∧ (pinJ P).n = 0 ∧ (pinJ P).t = { data := #[] } from ⟨rfl, rfl, rfl⟩)
           generalize hjp : pinJ P = J at hr13 hjl HKJ ⊢
           rw [hjl.1] at hr13 ⊢
           have HJL := Lib.hid hjl
           have HJP := Lib.hid (show pinJ P = J from hjp)
           clear hjp hjl
           replace HB := Lib.hid (HB.out.trans (hb13.mono HB.out.size))
           replace HXS := Lib.hid ((hb13.block _ (heap_lt HXS.out)).trans HXS.out)
           replace HXP := Lib.hid ((hb13.block _ (heap_lt HXP.out)).trans HXP.out)
           replace HXV := Lib.hid ((hb13.block _ (heap_lt HXV.out)).trans HXV.out)
           replace HXW := Lib.hid ((hb13.block _ (heap_lt HXW.out)).trans HXW.out)
           obtain ⟨W14, hW14⟩ : ∃ W14, W14 = w13.alloc (.cells #[.int .u8 5, .int .i64 0, .string { data := #[] }, .slice gan J.names.length gcn, .slice gai J.names.length gci] 30) := ⟨_, rfl⟩
           have hbx : Below w13.heap.size w13 W14 := by rw [hW14]; exact (Below.refl _ _).alloc (Nat.le_refl _) _
           replace HB := Lib.hid (HB.out.trans (hbx.mono HB.out.size))
           replace HXS := Lib.hid ((hbx.block _ (heap_lt HXS.out)).trans HXS.out)
           replace HXP := Lib.hid ((hbx.block _ (heap_lt HXP.out)).trans HXP.out)
           replace HXV := Lib.hid ((hbx.block _ (heap_lt HXV.out)).trans HXV.out)
           replace HXW := Lib.hid ((hbx.block _ (heap_lt HXW.out)).trans HXW.out)
           have HXX := Lib.hid (show W14.heap[w13.heap.size]? = some (.cells #[.int .u8 5, .int .i64 0, .string { data := #[] }, .slice gan J.names.length gcn, .slice gai J.names.length gci] 30 (0, 0)) by rw [hW14]; exact heap_alloc_new w13 _)
           have HW14 := Lib.hid hW14
           replace HRJ := Lib.hid (HRJ.out.below hbx (Nat.le_refl _) (Nat.le_refl _) hbx.size)
           have HRP := Lib.hid (show Rep W14 W12.heap.size W14.heap.size J (.agg #[.int .u8 5, .int .i64 0, .string { data := #[] }, .slice gan J.names.length gcn, .slice gai J.names.length gci]) from hr13.below (B := w13.heap.size) hbx (Nat.le_refl _) (Nat.le_refl _) (Nat.le_of_lt (heap_lt HXX.out)))
           have HZW := Lib.hid (show w11.heap.size < W14.heap.size ∧ w13.heap.size < W14.heap.size from ⟨heap_lt HXW.out, heap_lt HXX.out⟩)
           have HZP := Lib.hid (show w10.heap.size ≤ W12.heap.size ∧ W12.heap.size ≤ W14.heap.size from ⟨HZ12.out, Nat.le_trans hb13.size (Nat.le_of_lt (heap_lt HXX.out))⟩)
           clear hbx hr13 hb13 HPV
           go_upto_region 5 with fail
           rw [← HW14.out]
           clear hW14 HW14
           have HMW := Lib.hid (show ∀ w' : World, Below W14.heap.size W14 w' → Calls Tryz.prog 41 #[.agg #[.int .u8 5, .int .i64 0, .string { data := #[] }, .slice fan 4 fcn, .slice fai 4 fci]] w' (fun r w2 => ∃ y, r = .returned y ∧ (MP.mem w10.heap.size W14.heap.size (snapJ ⟨v, e, l⟩)).p w2 y ∧ Below w'.heap.size w' w2) from fun w' h => by
             have hR := HRJ.out.below h (Nat.le_refl _) (Nat.le_refl _) (Nat.le_refl _)
             obtain ⟨hS, hV⟩ := rep_rows hR
             refine (lawMembers (snapJ ⟨v, e, l⟩) 4 fan fai fcn fci w10.heap.size W14.heap.size w' hS hV h.size (Nat.le_trans (Nat.le_trans HZP.out.1 HZP.out.2) h.size) rfl rfl (by decide)).mono ?_
             rintro r w2 ⟨s, ms, rfl, h1, h2, h4, h3, h5⟩
             refine ⟨s, rfl, ⟨Nat.le_trans h.size h3.size, ms, h1, h2, ?_, h5⟩, h3⟩
             have hl := congrArg List.length h2
             rw [List.length_map] at hl
             rw [hl]
             exact owns_mono h4 h.size)
           have HMX := Lib.hid (show ∀ w' : World, Below W14.heap.size W14 w' → Calls Tryz.prog 41 #[.agg #[.int .u8 5, .int .i64 0, .string { data := #[] }, .slice gan J.names.length gcn, .slice gai J.names.length gci]] w' (fun r w2 => ∃ y, r = .returned y ∧ (MP.mem W12.heap.size W14.heap.size J).p w2 y ∧ Below w'.heap.size w' w2) from fun w' h => by
             have hR := HRP.out.below h (Nat.le_refl _) (Nat.le_refl _) (Nat.le_refl _)
             obtain ⟨hS, hV⟩ := rep_rows hR
             obtain ⟨z1, z2, z3⟩ := HKJ.out
             have hq := lawMembers J J.names.length gan gai gcn gci W12.heap.size W14.heap.size w' hS hV h.size (Nat.le_trans HZP.out.2 h.size) rfl HJL.out.1 (by have := HJL.out.2.2; omega)
             rw [z1, z2, z3] at hq
             refine hq.mono ?_
             rintro r w2 ⟨s, ms, rfl, h1, h2, h4, h3, h5⟩
             refine ⟨s, rfl, ⟨Nat.le_trans h.size h3.size, ms, h1, h2, ?_, h5⟩, h3⟩
             have hl := congrArg List.length h2
             rw [List.length_map] at hl
             rw [hl]
             exact owns_mono h4 h.size)
           have HC5 := Lib.hid (show ∀ w' : World, Below W14.heap.size W14 w' → w'.cell? ⟨w11.heap.size, 0, none⟩ = some (.int .u8 5) ∧ w'.cell? ⟨w11.heap.size, 1, none⟩ = some (.int .i64 0) ∧ w'.cell? ⟨w11.heap.size, 2, none⟩ = some (.string { data := #[] }) ∧ w'.cell? ⟨w11.heap.size, 3, none⟩ = some (.slice fan 4 fcn) ∧ w'.cell? ⟨w11.heap.size, 4, none⟩ = some (.slice fai 4 fci) ∧ w'.cell? ⟨w13.heap.size, 0, none⟩ = some (.int .u8 5) ∧ w'.cell? ⟨w13.heap.size, 1, none⟩ = some (.int .i64 0) ∧ w'.cell? ⟨w13.heap.size, 2, none⟩ = some (.string { data := #[] }) ∧ w'.cell? ⟨w13.heap.size, 3, none⟩ = some (.slice gan J.names.length gcn) ∧ w'.cell? ⟨w13.heap.size, 4, none⟩ = some (.slice gai J.names.length gci) from fun w' h => by
             have e1 := (h.block _ (heap_lt HXW.out)).trans HXW.out
             have e2 := (h.block _ (heap_lt HXX.out)).trans HXX.out
             exact ⟨box_cell e1 rfl, box_cell e1 rfl, box_cell e1 rfl, box_cell e1 rfl, box_cell e1 rfl, box_cell e2 rfl, box_cell e2 rfl, box_cell e2 rfl, box_cell e2 rfl, box_cell e2 rfl⟩)
           obtain ⟨V, hV⟩ : ∃ V : List MP, V = [.con (.agg #[.int .u8 5, .int .i64 0, .string { data := #[] }, .slice fan 4 fcn, .slice fai 4 fci]), MP.mem w10.heap.size W14.heap.size (snapJ ⟨v, e, l⟩), .con (.agg #[.int .u8 5, .int .i64 0, .string { data := #[] }, .slice gan J.names.length gcn, .slice gai J.names.length gci]), MP.mem W12.heap.size W14.heap.size J, MP.mem w10.heap.size W14.heap.size (snapJ ⟨v, e, l⟩)] := ⟨_, rfl⟩
           have HV := Lib.hid hV
           clear hV
           refine wp_region_inv 5 (fun d a' w' => ∃ x78 x79 x80 x81 x15, a' = ⟨#[Value.agg #[Value.int IntKind.i64 v, Value.int IntKind.i64 e, Value.slice a l.length c], Value.agg #[Value.string P.name, Value.int IntKind.i64 P.ver, Value.int IntKind.i64 P.len, Value.slice pa P.hs.length pc], Value.string other, Value.agg #[Value.int IntKind.u8 u.kind, Value.int IntKind.i64 u.n, Value.string u.t, Value.slice uan u.names.length ucn, Value.slice uai u.items.length uci], Value.int IntKind.i64 which, Value.pointer (some { block := w.heap.size, off := 0 }), Value.pointer (some { block := w.heap.size + 1, off := 0 }), undef, Value.pointer (some { block := w.heap.size + 1 + 1, off := 0 }), undef, Value.bool false, Value.pointer (some { block := w11.heap.size, off := 0 }), Value.int IntKind.i64 0, Value.pointer (some { block := w13.heap.size, off := 0 }), Value.int IntKind.i64 0, x15, undef, undef, undef, undef, undef, undef, undef, undef, undef, undef, undef, undef, undef, undef, undef, undef, undef, undef, undef, undef, Value.agg #[Value.int IntKind.i64 v, Value.int IntKind.i64 e, Value.slice a l.length c], Value.slice (some { block := W2.heap.size, off := 0 }) 1 1, Value.bool false, Value.bool false, Value.agg #[Value.string P.name, Value.int IntKind.i64 P.ver, Value.int IntKind.i64 P.len, Value.slice pa P.hs.length pc], Value.bool false, Value.bool false, Value.bool false, Value.string other, Value.int IntKind.i64 (other.size : Int), Value.bool false, Value.bool false, Value.bool false, Value.agg #[Value.int IntKind.u8 u.kind, Value.int IntKind.i64 u.n, Value.string u.t, Value.slice uan u.names.length ucn, Value.slice uai u.items.length uci], Value.slice (some { block := w5.heap.size, off := 0 }) 1 1, Value.bool false, Value.bool false, Value.bool false, Value.agg #[Value.int IntKind.i64 v, Value.int IntKind.i64 e, Value.slice a l.length c], Value.bool true, Value.bool false, Value.bool false, Value.bool false, Value.agg #[Value.string P.name, Value.int IntKind.i64 P.ver, Value.int IntKind.i64 P.len, Value.slice pa P.hs.length pc], Value.bool true, Value.bool false, Value.bool false, Value.bool false, Value.bool true, Value.bool false, Value.bool false, undef, Value.tuple #[Value.agg #[Value.int IntKind.u8 5, Value.int IntKind.i64 0, Value.string { data := #[] }, Value.slice fan 4 fcn, Value.slice fai 4 fci], Value.int IntKind.i64 0], Value.agg #[Value.int IntKind.i64 v, Value.int IntKind.i64 e, Value.slice a l.length c], Value.tuple #[Value.agg #[Value.int IntKind.u8 5, Value.int IntKind.i64 0, Value.string { data := #[] }, Value.slice fan 4 fcn, Value.slice fai 4 fci], Value.int IntKind.i64 0], Value.agg #[Value.int IntKind.u8 5, Value.int IntKind.i64 0, Value.string { data := #[] }, Value.slice fan 4 fcn, Value.slice fai 4 fci], Value.int IntKind.i64 0, Value.tuple #[Value.agg #[Value.int IntKind.u8 5, Value.int IntKind.i64 0, Value.string { data := #[] }, Value.slice gan J.names.length gcn, Value.slice gai J.names.length gci], Value.int IntKind.i64 0], Value.agg #[Value.string P.name, Value.int IntKind.i64 P.ver, Value.int IntKind.i64 P.len, Value.slice pa P.hs.length pc], Value.tuple #[Value.agg #[Value.int IntKind.u8 5, Value.int IntKind.i64 0, Value.string { data := #[] }, Value.slice gan J.names.length gcn, Value.slice gai J.names.length gci], Value.int IntKind.i64 0], Value.agg #[Value.int IntKind.u8 5, Value.int IntKind.i64 0, Value.string { data := #[] }, Value.slice gan J.names.length gcn, Value.slice gai J.names.length gci], Value.int IntKind.i64 0, x78, x79, x80, x81, undef, undef, undef, undef, undef, undef, undef, undef, undef, undef, undef, undef, undef, undef, undef, undef, undef, undef, undef, undef, undef, undef, undef, undef, undef, undef, undef, undef, undef, undef, undef, undef, undef, undef, undef, undef, undef, undef, undef, undef, undef, undef, undef, undef, undef, undef, undef, undef, undef, undef, undef, undef, undef, undef, undef, undef, undef, undef, undef, undef, undef, undef, undef, undef, undef, undef, undef, undef, undef, undef, undef, undef, undef, undef, undef, undef, undef, undef, undef, undef, undef, undef, undef, undef, undef, undef, undef, undef, undef, undef, undef, undef, undef, undef, undef, undef, undef, undef, undef, undef, undef, undef, undef, undef, undef, undef, undef, undef, undef, undef, undef, undef, undef, undef, undef, undef, undef, undef, undef, undef, undef, undef, undef, undef, undef, undef, undef, undef, undef, undef, undef, undef, undef, undef, undef, undef, undef, undef, undef, undef, undef, undef, undef, undef, undef, undef, undef, undef, undef, undef, undef, undef, undef, undef, undef, undef, undef, undef, undef, undef, undef, undef, undef, undef, undef, undef, undef, undef, undef, undef, undef, undef, undef, undef, undef, undef, undef, undef], []⟩ ∧ RegI W14 V d w' [x78, x79, x80, x81, x15]) (by kernel_rfl) (by kernel_rfl) ?first ?step ?last
           case first => exact ⟨_, _, _, _, _, rfl, RegI.first _ _ _ (by rw [HV.out]; rfl)⟩
           case step =>
             rintro d a' w' ⟨x78, x79, x80, x81, x15, rfl, h⟩ q hq hn hw
             rcases q with _ | _ | _ | _ | _ | q
             · obtain ⟨q0, q1, q2, q3, q4, q5, q6, q7, q8, q9⟩ := HC5.out w' h.1
               refine wpOp_step rfl fun K hK => ?_
               go_simp
               exact hK _ _ ⟨_, x79, x80, x81, x15, rfl, h.same 0 _ (.con (.agg #[.int .u8 5, .int .i64 0, .string { data := #[] }, .slice fan 4 fcn, .slice fai 4 fci])) (by rw [HV.out]; rfl) rfl⟩
             · obtain rfl : x78 = .agg #[.int .u8 5, .int .i64 0, .string { data := #[] }, .slice fan 4 fcn, .slice fai 4 fci] := h.get 0 (hw _ rfl ⟨0, .data⟩ (by simp) rfl) (.con (.agg #[.int .u8 5, .int .i64 0, .string { data := #[] }, .slice fan 4 fcn, .slice fai 4 fci])) (by rw [HV.out]; rfl) _ rfl
               obtain ⟨q0, q1, q2, q3, q4, q5, q6, q7, q8, q9⟩ := HC5.out w' h.1
               refine wpOp_step rfl fun K hK => ?_
               go_simp
               refine (HMW.out w' h.1).mono ?_
               rintro e w2 ⟨y, rfl, hy, hb2⟩
               exact hK _ _ ⟨_, _, x80, x81, x15, rfl, h.did hb2 1 _ (MP.mem w10.heap.size W14.heap.size (snapJ ⟨v, e, l⟩)) (by rw [HV.out]; rfl) hy⟩
             · obtain ⟨q0, q1, q2, q3, q4, q5, q6, q7, q8, q9⟩ := HC5.out w' h.1
               refine wpOp_step rfl fun K hK => ?_
               go_simp
               exact hK _ _ ⟨x78, x79, _, x81, x15, rfl, h.same 2 _ (.con (.agg #[.int .u8 5, .int .i64 0, .string { data := #[] }, .slice gan J.names.length gcn, .slice gai J.names.length gci])) (by rw [HV.out]; rfl) rfl⟩
             · obtain rfl : x80 = .agg #[.int .u8 5, .int .i64 0, .string { data := #[] }, .slice gan J.names.length gcn, .slice gai J.names.length gci] := h.get 2 (hw _ rfl ⟨2, .data⟩ (by simp) rfl) (.con (.agg #[.int .u8 5, .int .i64 0, .string { data := #[] }, .slice gan J.names.length gcn, .slice gai J.names.length gci])) (by rw [HV.out]; rfl) _ rfl
               obtain ⟨q0, q1, q2, q3, q4, q5, q6, q7, q8, q9⟩ := HC5.out w' h.1
               refine wpOp_step rfl fun K hK => ?_
               go_simp
               refine (HMX.out w' h.1).mono ?_
               rintro e w2 ⟨y, rfl, hy, hb2⟩
               exact hK _ _ ⟨x78, x79, _, _, x15, rfl, h.did hb2 3 _ (MP.mem W12.heap.size W14.heap.size J) (by rw [HV.out]; rfl) hy⟩
             · have hs79 := h.get 1 (hw _ rfl ⟨1, .data⟩ (by simp) rfl) (MP.mem w10.heap.size W14.heap.size (snapJ ⟨v, e, l⟩)) (by rw [HV.out]; rfl) _ rfl
               refine wpOp_step rfl fun K hK => ?_
               go_simp
               exact hK _ _ ⟨x78, x79, x80, x81, _, rfl, h.same 4 _ (MP.mem w10.heap.size W14.heap.size (snapJ ⟨v, e, l⟩)) (by rw [HV.out]; rfl) hs79⟩
             · omega
           case last =>
             rintro d a' w' hall ⟨x78, x79, x80, x81, x15, rfl, h⟩
             have hle := h.1
             have hs81 := h.get 3 (hall _ (by omega)) (MP.mem W12.heap.size W14.heap.size J) (by rw [HV.out]; rfl) _ rfl
             have hs15 := h.get 4 (hall _ (by omega)) (MP.mem w10.heap.size W14.heap.size (snapJ ⟨v, e, l⟩)) (by rw [HV.out]; rfl) _ rfl
             have HLE := Lib.hid hle
             clear h hall hle HV
             generalize w' = w15 at *
             obtain ⟨-, ml, hml, hnl, hol, hrl⟩ := hs15
             obtain ⟨hz14, mm, hmm, hnm, hom, hrm⟩ := hs81
             replace HRJ := Lib.hid (show Rep w15 w10.heap.size W14.heap.size (snapJ ⟨v, e, l⟩) (.agg #[.int .u8 5, .int .i64 0, .string { data := #[] }, .slice fan 4 fcn, .slice fai 4 fci]) from HRJ.out.below HLE.out (Nat.le_refl _) (Nat.le_refl _) (Nat.le_refl _))
             have HRL := Lib.hid hrl
             have HRM := Lib.hid hrm
             have HZ14 := Lib.hid hz14
             have h4 : ml.length = 4 := by have := congrArg List.length hnl; simpa [snapJ, snapO, JV.names] using this
             have h5 : mm.length = J.names.length := by have := congrArg List.length hnm; simpa using this
             obtain ⟨g1, c1, hx1, -, -⟩ := hml.own.form (by omega)
             obtain ⟨g2, c2, hx2, -, -⟩ := hmm.own.form (by have := HJL.out.2.1; omega)
             have HO1 := Lib.hid (show w15.ownsRow W14.heap.size 74 6 (.slice (some ⟨g1, 0, none⟩) ml.length c1) ml.length (flatM ml) from hx1 ▸ hol)
             have HO2 := Lib.hid (show w15.ownsRow W14.heap.size 74 6 (.slice (some ⟨g2, 0, none⟩) mm.length c2) mm.length (flatM mm) from hx2 ▸ hom)
             obtain ⟨a1, ha1⟩ : ∃ a1 : Option Addr, a1 = some ⟨g1, 0, none⟩ := ⟨_, rfl⟩
             obtain ⟨a2, ha2⟩ : ∃ a2 : Option Addr, a2 = some ⟨g2, 0, none⟩ := ⟨_, rfl⟩
             rw [← ha1] at hx1
             rw [← ha2] at hx2
             subst hx1
             subst hx2
             obtain ⟨n1, hn1⟩ : ∃ n1, n1 = ml.length := ⟨_, rfl⟩
             obtain ⟨n2, hn2⟩ : ∃ n2, n2 = mm.length := ⟨_, rfl⟩
             rw [← hn1] at hml h4 ⊢
             rw [← hn2] at hmm h5 ⊢
             have HA1 := Lib.hid ha1
             have HA2 := Lib.hid ha2
             have HN1 := Lib.hid hn1
             have HN2 := Lib.hid hn2
             have HML := Lib.hid hml
             have HMM := Lib.hid hmm
             have HNL := Lib.hid hnl
             have HNM := Lib.hid hnm
             have HL4 := Lib.hid h4
             have HL5 := Lib.hid h5
             have q2 : ((n1 : Int) == 4) = true := by simp; omega
             have q3 : ((n1 : Int) != 4) = false := by simp; omega
             have q4 : decide ((n2 : Int) < 1) = false := by have := HJL.out.2.1; simp; omega
             clear hml hmm hnl hnm h4 h5 hol hom hrl hrm hz14 HMW HMX HC5 HRP ha1 ha2 hn1 hn2
             replace HB := Lib.hid (HB.out.trans (HLE.out.mono HB.out.size))
             replace HXS := Lib.hid ((HLE.out.block _ (heap_lt HXS.out)).trans HXS.out)
             replace HXP := Lib.hid ((HLE.out.block _ (heap_lt HXP.out)).trans HXP.out)
             replace HXV := Lib.hid ((HLE.out.block _ (heap_lt HXV.out)).trans HXV.out)
             replace HXW := Lib.hid ((HLE.out.block _ (heap_lt HXW.out)).trans HXW.out)
             replace HXX := Lib.hid ((HLE.out.block _ (heap_lt HXX.out)).trans HXX.out)
             have HZ15 := Lib.hid (show W14.heap.size ≤ w15.heap.size from HLE.out.size)
             have H15 := Lib.hid (show w10.heap.size ≤ w15.heap.size ∧ W12.heap.size ≤ w15.heap.size from ⟨Nat.le_trans (Nat.le_trans HZP.out.1 HZP.out.2) HLE.out.size, Nat.le_trans HZP.out.2 HLE.out.size⟩)
             clear HLE
             go_upto_region 8 with fail
             go_wp2_with fail
             clear q2 q3 q4
             obtain rfl : n1 = 4 := HL4.out
             obtain ⟨k, hk, hkw, -⟩ := ix_at which 4 (by decide) (by decide)
             replace hkw : wrap64 ((IntKind.u64.wrap which).tmod 4) = (k : Int) := hkw
             rw [hkw]
             generalize (IntKind.u64.wrap which).tmod 4 = wk
             clear hkw
             have hkc : k ≤ c1 := by have := own_cap HO1.out; have := HN1.out; omega
             have hnc : 4 ≤ c1 := by have := own_cap HO1.out; have := HN1.out; omega
             have hw110 : IntKind.i64.wrap ((k : Int) + 1) = (k : Int) + 1 := IntWalk.i64_in _ (by omega)
             have HKN := Lib.hid hk
             obtain ⟨a3, c3, hs3⟩ : ∃ a3 c3, Value.slice (if c1 = k + 1 then a1 else Option.map (fun x => x.add ((k + 1) * 6)) a1) (3 - k) (c1 - (k + 1)) = .slice a3 (4 - (k + 1)) c3 := ⟨_, _, by rw [show 3 - k = 4 - (k + 1) by omega]⟩
             have HSL := Lib.hid hs3
             have HNW1 := Lib.hid (show ∀ w' : World, Below w15.heap.size w15 w' → 0 < k → ∃ ad, a1 = some ad ∧ ∀ j u, (flatM (ml.take k))[j]? = some u → w'.cell? (ad.add j) = some u from fun w' h _ => ⟨_, HA1.out, own_first (owns_below HO1.out h) k⟩)
             have HNW2 := Lib.hid (show ∀ w' : World, Below w15.heap.size w15 w' → 0 < 4 - (k + 1) → ∃ ad, a3 = some ad ∧ ∀ j u, (flatM (ml.drop (k + 1)))[j]? = some u → w'.cell? (ad.add j) = some u from fun w' h h0 => by
               have := HN1.out
               refine ⟨(⟨g1, 0, none⟩ : Addr).add ((k + 1) * 6), ?_, own_behind (owns_below HO1.out h) (k + 1) (by omega)⟩
               have e := HSL.out
               rw [if_neg (by omega), HA1.out] at e
               injection e with e1
               exact e1.symm)
             have HOB := Lib.hid (show ∀ (w' : World) (y : Value), Below w15.heap.size w15 w' → w'.ownsRow w15.heap.size 74 6 y (k + (4 - (k + 1))) (flatM (ml.take k) ++ flatM (ml.drop (k + 1))) → (∃ g c, y = .slice (some ⟨g, 0, none⟩) (k + (4 - (k + 1))) c) → Calls Tryz.prog 42 #[y] w' (fun r w2 => ∃ an cn ai ci, r = .returned (tupR 0 (aggV (objJ ((snapM ⟨v, e, l⟩).eraseIdx k)) an cn ai ci)) ∧ Rep w2 w'.heap.size w2.heap.size (objJ ((snapM ⟨v, e, l⟩).eraseIdx k)) (.agg (aggV (objJ ((snapM ⟨v, e, l⟩).eraseIdx k)) an cn ai ci)) ∧ Below w'.heap.size w' w2) from fun w' y h ho hf => by
               have hn := HN1.out
               rw [hn] at ho hf
               have hml := HML.out
               exact less_obj (N := snapM ⟨v, e, l⟩) hml HNL.out H15.out.1 HB80.out h (by omega) ho hf (snapM_less_rises _ _ (by omega)) (show 4 ≤ 4294967296 by decide) (snapM_wts HM.out))
             clear hs3
             obtain ⟨i1, hi1, hy0, hy1, hy2⟩ := info_parts infoMember
             obtain ⟨V, hV⟩ : ∃ V : List MP, V = [.form 0, .con (.slice a1 4 c1), .con (.int .i64 (k : Int)), .con (.slice a1 k c1), .form k, .con (.slice a1 4 c1), .con (.int .i64 (k : Int)), .con (.int .i64 ((k : Int) + 1)), .con (.slice a3 (4 - (k + 1)) c3), .form (k + (4 - (k + 1))), .any, .any, .any, .con (.int .i64 0), .blk w15.heap.size 30 #[.int .u8 0, .int .i64 0, .string { data := #[] }, .slice none 0 0, .slice none 0 0]] := ⟨_, rfl⟩
             have HV := Lib.hid hV
             clear hV
             refine wp_region_free 15 13 (fun d a' w' => ∃ x103 x104 x105 x106 x107 x108 x109 x110 x111 x112 x113 x102 x114 x115 x18, a' = ⟨#[Value.agg #[Value.int IntKind.i64 v, Value.int IntKind.i64 e, Value.slice a l.length c], Value.agg #[Value.string P.name, Value.int IntKind.i64 P.ver, Value.int IntKind.i64 P.len, Value.slice pa P.hs.length pc], Value.string other, Value.agg #[Value.int IntKind.u8 u.kind, Value.int IntKind.i64 u.n, Value.string u.t, Value.slice uan u.names.length ucn, Value.slice uai u.items.length uci], Value.int IntKind.i64 which, Value.pointer (some { block := w.heap.size, off := 0 }), Value.pointer (some { block := w.heap.size + 1, off := 0 }), undef, Value.pointer (some { block := w.heap.size + 1 + 1, off := 0 }), undef, Value.bool false, Value.pointer (some { block := w11.heap.size, off := 0 }), Value.int IntKind.i64 0, Value.pointer (some { block := w13.heap.size, off := 0 }), Value.int IntKind.i64 0, Value.slice a1 4 c1, Value.slice a2 n2 c2, Value.int IntKind.i64 (k : Int), x18, undef, undef, undef, undef, undef, undef, undef, undef, undef, undef, undef, undef, undef, undef, undef, undef, undef, Value.agg #[Value.int IntKind.i64 v, Value.int IntKind.i64 e, Value.slice a l.length c], Value.slice (some { block := W2.heap.size, off := 0 }) 1 1, Value.bool false, Value.bool false, Value.agg #[Value.string P.name, Value.int IntKind.i64 P.ver, Value.int IntKind.i64 P.len, Value.slice pa P.hs.length pc], Value.bool false, Value.bool false, Value.bool false, Value.string other, Value.int IntKind.i64 (other.size : Int), Value.bool false, Value.bool false, Value.bool false, Value.agg #[Value.int IntKind.u8 u.kind, Value.int IntKind.i64 u.n, Value.string u.t, Value.slice uan u.names.length ucn, Value.slice uai u.items.length uci], Value.slice (some { block := w5.heap.size, off := 0 }) 1 1, Value.bool false, Value.bool false, Value.bool false, Value.agg #[Value.int IntKind.i64 v, Value.int IntKind.i64 e, Value.slice a l.length c], Value.bool true, Value.bool false, Value.bool false, Value.bool false, Value.agg #[Value.string P.name, Value.int IntKind.i64 P.ver, Value.int IntKind.i64 P.len, Value.slice pa P.hs.length pc], Value.bool true, Value.bool false, Value.bool false, Value.bool false, Value.bool true, Value.bool false, Value.bool false, undef, Value.tuple #[Value.agg #[Value.int IntKind.u8 5, Value.int IntKind.i64 0, Value.string { data := #[] }, Value.slice fan 4 fcn, Value.slice fai 4 fci], Value.int IntKind.i64 0], Value.agg #[Value.int IntKind.i64 v, Value.int IntKind.i64 e, Value.slice a l.length c], Value.tuple #[Value.agg #[Value.int IntKind.u8 5, Value.int IntKind.i64 0, Value.string { data := #[] }, Value.slice fan 4 fcn, Value.slice fai 4 fci], Value.int IntKind.i64 0], Value.agg #[Value.int IntKind.u8 5, Value.int IntKind.i64 0, Value.string { data := #[] }, Value.slice fan 4 fcn, Value.slice fai 4 fci], Value.int IntKind.i64 0, Value.tuple #[Value.agg #[Value.int IntKind.u8 5, Value.int IntKind.i64 0, Value.string { data := #[] }, Value.slice gan J.names.length gcn, Value.slice gai J.names.length gci], Value.int IntKind.i64 0], Value.agg #[Value.string P.name, Value.int IntKind.i64 P.ver, Value.int IntKind.i64 P.len, Value.slice pa P.hs.length pc], Value.tuple #[Value.agg #[Value.int IntKind.u8 5, Value.int IntKind.i64 0, Value.string { data := #[] }, Value.slice gan J.names.length gcn, Value.slice gai J.names.length gci], Value.int IntKind.i64 0], Value.agg #[Value.int IntKind.u8 5, Value.int IntKind.i64 0, Value.string { data := #[] }, Value.slice gan J.names.length gcn, Value.slice gai J.names.length gci], Value.int IntKind.i64 0, x78, x79, x80, Value.slice a2 n2 c2, Value.int IntKind.i64 0, Value.bool false, Value.bool false, Value.int IntKind.i64 0, Value.bool false, Value.bool false, Value.bool false, Value.slice a1 4 c1, Value.int IntKind.i64 (4 : Int), Value.bool false, Value.bool false, Value.bool false, Value.slice a2 n2 c2, Value.int IntKind.i64 (n2 : Int), Value.bool false, Value.bool false, Value.int IntKind.i64 which, Value.int IntKind.u64 (IntKind.u64.wrap which), Value.int IntKind.u64 wk, Value.int IntKind.i64 (k : Int), x102, x103, x104, x105, x106, x107, x108, x109, x110, x111, x112, x113, x114, x115, undef, undef, undef, undef, undef, undef, undef, undef, undef, undef, undef, undef, undef, undef, undef, undef, undef, undef, undef, undef, undef, undef, undef, undef, undef, undef, undef, undef, undef, undef, undef, undef, undef, undef, undef, undef, undef, undef, undef, undef, undef, undef, undef, undef, undef, undef, undef, undef, undef, undef, undef, undef, undef, undef, undef, undef, undef, undef, undef, undef, undef, undef, undef, undef, undef, undef, undef, undef, undef, undef, undef, undef, undef, undef, undef, undef, undef, undef, undef, undef, undef, undef, undef, undef, undef, undef, undef, undef, undef, undef, undef, undef, undef, undef, undef, undef, undef, undef, undef, undef, undef, undef, undef, undef, undef, undef, undef, undef, undef, undef, undef, undef, undef, undef, undef, undef, undef, undef, undef, undef, undef, undef, undef, undef, undef, undef, undef, undef, undef, undef, undef, undef, undef, undef, undef, undef, undef, undef, undef, undef, undef, undef, undef, undef], []⟩ ∧ RegI w15 V d w' [x103, x104, x105, x106, x107, x108, x109, x110, x111, x112, x113, x102, x114, x115, x18] ∧ LessI w15.heap.size 74 k (4 - (k + 1)) (flatM (ml.take k)) (flatM (ml.drop (k + 1))) w10.heap.size (fun v_ => v_ = objJ ((snapM ⟨v, e, l⟩).eraseIdx k)) 0 d w' x103 x107 x112 x113 x102 x114 x18) (fun ee a' w' => ∃ x103 x104 x105 x106 x107 x108 x109 x110 x111 x112 x113 x114 x115 b18 cs0, a' = ⟨#[Value.agg #[Value.int IntKind.i64 v, Value.int IntKind.i64 e, Value.slice a l.length c], Value.agg #[Value.string P.name, Value.int IntKind.i64 P.ver, Value.int IntKind.i64 P.len, Value.slice pa P.hs.length pc], Value.string other, Value.agg #[Value.int IntKind.u8 u.kind, Value.int IntKind.i64 u.n, Value.string u.t, Value.slice uan u.names.length ucn, Value.slice uai u.items.length uci], Value.int IntKind.i64 which, Value.pointer (some { block := w.heap.size, off := 0 }), Value.pointer (some { block := w.heap.size + 1, off := 0 }), undef, Value.pointer (some { block := w.heap.size + 1 + 1, off := 0 }), undef, Value.bool false, Value.pointer (some { block := w11.heap.size, off := 0 }), Value.int IntKind.i64 0, Value.pointer (some { block := w13.heap.size, off := 0 }), Value.int IntKind.i64 0, Value.slice a1 4 c1, Value.slice a2 n2 c2, Value.int IntKind.i64 (k : Int), .pointer (some ⟨b18, 0, none⟩), undef, undef, undef, undef, undef, undef, undef, undef, undef, undef, undef, undef, undef, undef, undef, undef, undef, Value.agg #[Value.int IntKind.i64 v, Value.int IntKind.i64 e, Value.slice a l.length c], Value.slice (some { block := W2.heap.size, off := 0 }) 1 1, Value.bool false, Value.bool false, Value.agg #[Value.string P.name, Value.int IntKind.i64 P.ver, Value.int IntKind.i64 P.len, Value.slice pa P.hs.length pc], Value.bool false, Value.bool false, Value.bool false, Value.string other, Value.int IntKind.i64 (other.size : Int), Value.bool false, Value.bool false, Value.bool false, Value.agg #[Value.int IntKind.u8 u.kind, Value.int IntKind.i64 u.n, Value.string u.t, Value.slice uan u.names.length ucn, Value.slice uai u.items.length uci], Value.slice (some { block := w5.heap.size, off := 0 }) 1 1, Value.bool false, Value.bool false, Value.bool false, Value.agg #[Value.int IntKind.i64 v, Value.int IntKind.i64 e, Value.slice a l.length c], Value.bool true, Value.bool false, Value.bool false, Value.bool false, Value.agg #[Value.string P.name, Value.int IntKind.i64 P.ver, Value.int IntKind.i64 P.len, Value.slice pa P.hs.length pc], Value.bool true, Value.bool false, Value.bool false, Value.bool false, Value.bool true, Value.bool false, Value.bool false, undef, Value.tuple #[Value.agg #[Value.int IntKind.u8 5, Value.int IntKind.i64 0, Value.string { data := #[] }, Value.slice fan 4 fcn, Value.slice fai 4 fci], Value.int IntKind.i64 0], Value.agg #[Value.int IntKind.i64 v, Value.int IntKind.i64 e, Value.slice a l.length c], Value.tuple #[Value.agg #[Value.int IntKind.u8 5, Value.int IntKind.i64 0, Value.string { data := #[] }, Value.slice fan 4 fcn, Value.slice fai 4 fci], Value.int IntKind.i64 0], Value.agg #[Value.int IntKind.u8 5, Value.int IntKind.i64 0, Value.string { data := #[] }, Value.slice fan 4 fcn, Value.slice fai 4 fci], Value.int IntKind.i64 0, Value.tuple #[Value.agg #[Value.int IntKind.u8 5, Value.int IntKind.i64 0, Value.string { data := #[] }, Value.slice gan J.names.length gcn, Value.slice gai J.names.length gci], Value.int IntKind.i64 0], Value.agg #[Value.string P.name, Value.int IntKind.i64 P.ver, Value.int IntKind.i64 P.len, Value.slice pa P.hs.length pc], Value.tuple #[Value.agg #[Value.int IntKind.u8 5, Value.int IntKind.i64 0, Value.string { data := #[] }, Value.slice gan J.names.length gcn, Value.slice gai J.names.length gci], Value.int IntKind.i64 0], Value.agg #[Value.int IntKind.u8 5, Value.int IntKind.i64 0, Value.string { data := #[] }, Value.slice gan J.names.length gcn, Value.slice gai J.names.length gci], Value.int IntKind.i64 0, x78, x79, x80, Value.slice a2 n2 c2, Value.int IntKind.i64 0, Value.bool false, Value.bool false, Value.int IntKind.i64 0, Value.bool false, Value.bool false, Value.bool false, Value.slice a1 4 c1, Value.int IntKind.i64 (4 : Int), Value.bool false, Value.bool false, Value.bool false, Value.slice a2 n2 c2, Value.int IntKind.i64 (n2 : Int), Value.bool false, Value.bool false, Value.int IntKind.i64 which, Value.int IntKind.u64 (IntKind.u64.wrap which), Value.int IntKind.u64 wk, Value.int IntKind.i64 (k : Int), .tuple #[.agg cs0, .int .i64 0], x103, x104, x105, x106, x107, x108, x109, x110, x111, x112, x113, x114, x115, undef, undef, undef, undef, undef, undef, undef, undef, undef, undef, undef, undef, undef, undef, undef, undef, undef, undef, undef, undef, undef, undef, undef, undef, undef, undef, undef, undef, undef, undef, undef, undef, undef, undef, undef, undef, undef, undef, undef, undef, undef, undef, undef, undef, undef, undef, undef, undef, undef, undef, undef, undef, undef, undef, undef, undef, undef, undef, undef, undef, undef, undef, undef, undef, undef, undef, undef, undef, undef, undef, undef, undef, undef, undef, undef, undef, undef, undef, undef, undef, undef, undef, undef, undef, undef, undef, undef, undef, undef, undef, undef, undef, undef, undef, undef, undef, undef, undef, undef, undef, undef, undef, undef, undef, undef, undef, undef, undef, undef, undef, undef, undef, undef, undef, undef, undef, undef, undef, undef, undef, undef, undef, undef, undef, undef, undef, undef, undef, undef, undef, undef, undef, undef, undef, undef, undef, undef, undef, undef, undef, undef, undef, undef, undef], []⟩ ∧ (ee → x115 = .int .i64 0) ∧ Below w15.heap.size w15 w' ∧ w15.heap.size ≤ b18 ∧ ∃ v_ an cn ai ci, (fun v_ => v_ = objJ ((snapM ⟨v, e, l⟩).eraseIdx k)) v_ ∧ w'.heap[b18]? = some (.cells (aggV v_ an cn ai ci) 30 (0, 0)) ∧ Rep w' w10.heap.size w'.heap.size v_ (.agg (aggV v_ an cn ai ci))) (by kernel_rfl) (by kernel_rfl) (by kernel_rfl) ?first ?step ?store ?late ?last
             case first => exact ⟨_, _, _, _, _, _, _, _, _, _, _, _, _, _, _, rfl, RegI.first _ _ _ (by rw [HV.out]; rfl), LessI.first⟩
             case step =>
               rintro d a' w' ⟨x103, x104, x105, x106, x107, x108, x109, x110, x111, x112, x113, x102, x114, x115, x18, rfl, h, ht⟩ q hq hn hw
               have hsz := h.1.size
               rcases q with _ | _ | _ | _ | _ | _ | _ | _ | _ | _ | _ | _ | _ | _ | _ | q
               · refine wpOp_step rfl fun K hK => ?_
                 go_simp
                 exact hK _ _ ⟨_, x104, x105, x106, x107, x108, x109, x110, x111, x112, x113, x102, x114, x115, x18, rfl, h.new _ 0 _ (.form 0) (by rw [HV.out]; rfl) ⟨_, _, rfl⟩, ht.s0 hsz hn⟩
               · refine wpOp_step rfl fun K hK => ?_
                 go_simp
                 exact hK _ _ ⟨x103, _, x105, x106, x107, x108, x109, x110, x111, x112, x113, x102, x114, x115, x18, rfl, h.same 1 _ _ (by rw [HV.out]; rfl) rfl, ht.same 1 (by decide)⟩
               · refine wpOp_step rfl fun K hK => ?_
                 go_simp
                 exact hK _ _ ⟨x103, x104, _, x106, x107, x108, x109, x110, x111, x112, x113, x102, x114, x115, x18, rfl, h.same 2 _ _ (by rw [HV.out]; rfl) rfl, ht.same 2 (by decide)⟩
               · have hd1 : d 1 := hw _ rfl ⟨1, .data⟩ (by simp) rfl
                 obtain rfl : x104 = .slice a1 4 c1 := h.get 1 hd1 (.con (.slice a1 4 c1)) (by rw [HV.out]; rfl) _ rfl
                 have hd2 : d 2 := hw _ rfl ⟨2, .data⟩ (by simp) rfl
                 obtain rfl : x105 = .int .i64 (k : Int) := h.get 2 hd2 (.con (.int .i64 (k : Int))) (by rw [HV.out]; rfl) _ rfl
                 refine wpOp_step rfl fun K hK => ?_
                 go_simp
                 exact hK _ _ ⟨x103, _, _, _, x107, x108, x109, x110, x111, x112, x113, x102, x114, x115, x18, rfl, h.same 3 _ _ (by rw [HV.out]; rfl) rfl, ht.same 3 (by decide)⟩
               · have hd0 : d 0 := hw _ rfl ⟨0, .data⟩ (by simp) rfl
                 have hd3 : d 3 := hw _ rfl ⟨3, .data⟩ (by simp) rfl
                 obtain rfl : x106 = .slice a1 k c1 := h.get 3 hd3 (.con (.slice a1 k c1)) (by rw [HV.out]; rfl) _ rfl
                 refine wpOp_step rfl fun K hK => ?_
                 have ho := ht.1.own0 hd0 hn
                 have hfm : ∃ g c, x103 = .slice (some ⟨g, 0, none⟩) 0 c := h.get 0 hd0 (.form 0) (by rw [HV.out]; rfl) _ rfl
                 refine wp_append_any (.tmp 103) (.tmp 106) 70 rfl w15.heap.size 74 i1 _ 6 96 Tryz.underlying70 hi1 hy0 hy1 hy2 rfl (by omega) x103 0 [] rfl ho a1 k c1 (flatM (ml.take k)) rfl (by rw [flatM_len]; have := HN1.out; simp only [List.length_take]; omega) (HNW1.out w' h.1) (fun u hu => flatM_one _ u hu) (by unfold maxLen; omega) (by omega) hsz _ rfl ?_
                 intro a5 c5 w5 ho5 hg5 hat5
                 simp only [Nat.zero_add, List.nil_append] at ho5 hat5 ⊢
                 have hf5 := own_form ho5 (by obtain ⟨g0, c0, e0⟩ := hfm; rw [e0] at hat5; rcases hat5 with e5 | e5 <;> rw [e5] <;> simp [Value.ownBlock])
                 have hb5 := below_grown h.1 hsz hg5 (fun b hb => (ho.lt b hb).1)
                 have hlt := ht.late fun e9 => hn (ht.1.o2 e9)
                 have hkeep : ∀ (j : Nat) (m : MP) (x : Value), V[j]? = some m → d j → m.p w' x → m.p w5 x := by
                   intro j m x hm hd hp
                   rw [HV.out] at hm
                   rcases j with _ | _ | _ | _ | _ | _ | _ | _ | _ | _ | _ | _ | _ | _ | _ | j
                   · obtain rfl := Option.some.inj hm
                     exact hp
                   · obtain rfl := Option.some.inj hm
                     exact hp
                   · obtain rfl := Option.some.inj hm
                     exact hp
                   · obtain rfl := Option.some.inj hm
                     exact hp
                   · obtain rfl := Option.some.inj hm
                     exact hp
                   · obtain rfl := Option.some.inj hm
                     exact hp
                   · obtain rfl := Option.some.inj hm
                     exact hp
                   · obtain rfl := Option.some.inj hm
                     exact hp
                   · obtain rfl := Option.some.inj hm
                     exact hp
                   · obtain rfl := Option.some.inj hm
                     exact hp
                   · exact absurd hd hlt.1
                   · exact absurd hd hlt.2.1
                   · exact absurd hd hlt.2.2
                   · obtain rfl := Option.some.inj hm
                     exact hp
                   · obtain rfl := Option.some.inj hm
                     obtain ⟨b, e1, e2, e3⟩ := hp
                     exact ⟨b, e1, e2, by rw [hg5.block b (heap_lt e3) (fun e => Boxed_ne ho e3 e.symm)]; exact e3⟩
                   · cases hm
                 exact hK _ _ ⟨x103, x104, x105, _, _, x108, x109, x110, x111, x112, x113, x102, x114, x115, x18, rfl, h.grow hb5 hkeep 4 _ (.form k) (by rw [HV.out]; rfl) hf5, ht.s4 hd0 hn ho5⟩
               · refine wpOp_step rfl fun K hK => ?_
                 go_simp
                 exact hK _ _ ⟨x103, x104, x105, x106, x107, _, x109, x110, x111, x112, x113, x102, x114, x115, x18, rfl, h.same 5 _ _ (by rw [HV.out]; rfl) rfl, ht.same 5 (by decide)⟩
               · refine wpOp_step rfl fun K hK => ?_
                 go_simp
                 exact hK _ _ ⟨x103, x104, x105, x106, x107, x108, _, x110, x111, x112, x113, x102, x114, x115, x18, rfl, h.same 6 _ _ (by rw [HV.out]; rfl) rfl, ht.same 6 (by decide)⟩
               · have hd6 : d 6 := hw _ rfl ⟨6, .data⟩ (by simp) rfl
                 obtain rfl : x109 = .int .i64 (k : Int) := h.get 6 hd6 (.con (.int .i64 (k : Int))) (by rw [HV.out]; rfl) _ rfl
                 refine wpOp_step rfl fun K hK => ?_
                 go_simp
                 exact hK _ _ ⟨x103, x104, x105, x106, x107, x108, _, _, x111, x112, x113, x102, x114, x115, x18, rfl, h.same 7 _ _ (by rw [HV.out]; rfl) rfl, ht.same 7 (by decide)⟩
               · have hd5 : d 5 := hw _ rfl ⟨5, .data⟩ (by simp) rfl
                 obtain rfl : x108 = .slice a1 4 c1 := h.get 5 hd5 (.con (.slice a1 4 c1)) (by rw [HV.out]; rfl) _ rfl
                 have hd7 : d 7 := hw _ rfl ⟨7, .data⟩ (by simp) rfl
                 obtain rfl : x110 = .int .i64 ((k : Int) + 1) := h.get 7 hd7 (.con (.int .i64 ((k : Int) + 1))) (by rw [HV.out]; rfl) _ rfl
                 refine wpOp_step rfl fun K hK => ?_
                 go_simp
                 rw [if_pos (by omega)]
                 rw [HSL.out]
                 exact hK _ _ ⟨x103, x104, x105, x106, x107, _, x109, _, _, x112, x113, x102, x114, x115, x18, rfl, h.same 8 _ _ (by rw [HV.out]; rfl) rfl, ht.same 8 (by decide)⟩
               · have hd4 : d 4 := hw _ rfl ⟨4, .data⟩ (by simp) rfl
                 have hd8 : d 8 := hw _ rfl ⟨8, .data⟩ (by simp) rfl
                 obtain rfl : x111 = .slice a3 (4 - (k + 1)) c3 := h.get 8 hd8 (.con (.slice a3 (4 - (k + 1)) c3)) (by rw [HV.out]; rfl) _ rfl
                 refine wpOp_step rfl fun K hK => ?_
                 have ho := ht.1.own1 hd4 hn
                 have hfm : ∃ g c, x107 = .slice (some ⟨g, 0, none⟩) k c := h.get 4 hd4 (.form k) (by rw [HV.out]; rfl) _ rfl
                 refine wp_append_any (.tmp 107) (.tmp 111) 70 rfl w15.heap.size 74 i1 _ 6 96 Tryz.underlying70 hi1 hy0 hy1 hy2 rfl (by omega) x107 k (flatM (ml.take k)) rfl ho a3 (4 - (k + 1)) c3 (flatM (ml.drop (k + 1))) rfl (by rw [flatM_len]; have := HN1.out; simp only [List.length_drop]; omega) (HNW2.out w' h.1) (fun u hu => flatM_one _ u hu) (by unfold maxLen; omega) (by omega) hsz _ rfl ?_
                 intro a5 c5 w5 ho5 hg5 hat5
                 have hf5 := own_form ho5 (by obtain ⟨g0, c0, e0⟩ := hfm; rw [e0] at hat5; rcases hat5 with e5 | e5 <;> rw [e5] <;> simp [Value.ownBlock])
                 have hb5 := below_grown h.1 hsz hg5 (fun b hb => (ho.lt b hb).1)
                 have hlt := ht.late hn
                 have hkeep : ∀ (j : Nat) (m : MP) (x : Value), V[j]? = some m → d j → m.p w' x → m.p w5 x := by
                   intro j m x hm hd hp
                   rw [HV.out] at hm
                   rcases j with _ | _ | _ | _ | _ | _ | _ | _ | _ | _ | _ | _ | _ | _ | _ | j
                   · obtain rfl := Option.some.inj hm
                     exact hp
                   · obtain rfl := Option.some.inj hm
                     exact hp
                   · obtain rfl := Option.some.inj hm
                     exact hp
                   · obtain rfl := Option.some.inj hm
                     exact hp
                   · obtain rfl := Option.some.inj hm
                     exact hp
                   · obtain rfl := Option.some.inj hm
                     exact hp
                   · obtain rfl := Option.some.inj hm
                     exact hp
                   · obtain rfl := Option.some.inj hm
                     exact hp
                   · obtain rfl := Option.some.inj hm
                     exact hp
                   · obtain rfl := Option.some.inj hm
                     exact hp
                   · exact absurd hd hlt.1
                   · exact absurd hd hlt.2.1
                   · exact absurd hd hlt.2.2
                   · obtain rfl := Option.some.inj hm
                     exact hp
                   · obtain rfl := Option.some.inj hm
                     obtain ⟨b, e1, e2, e3⟩ := hp
                     exact ⟨b, e1, e2, by rw [hg5.block b (heap_lt e3) (fun e => Boxed_ne ho e3 e.symm)]; exact e3⟩
                   · cases hm
                 exact hK _ _ ⟨x103, x104, x105, x106, x107, x108, x109, x110, _, _, x113, x102, x114, x115, x18, rfl, h.grow hb5 hkeep 9 _ (.form (k + (4 - (k + 1)))) (by rw [HV.out]; rfl) hf5, ht.s9 hd4 hn ho5⟩
               · have hd9 : d 9 := hw _ rfl ⟨9, .data⟩ (by simp) rfl
                 refine wpOp_step rfl fun K hK => ?_
                 go_simp
                 refine (HOB.out w' _ h.1 (ht.1.own2 hd9) (h.get 9 hd9 (.form (k + (4 - (k + 1)))) (by rw [HV.out]; rfl) _ rfl)).mono ?_
                 rintro r w2 ⟨an, cn, ai, ci, rfl, hr, hb⟩
                 exact hK _ _ ⟨x103, x104, x105, x106, x107, x108, x109, x110, x111, x112, _, x102, x114, x115, x18, rfl, h.did hb 10 _ .any (by rw [HV.out]; rfl) trivial, ht.s10 hd9 hb _ _ _ _ _ rfl (Nat.le_trans H15.out.1 hsz) hr (fun hd b e => by obtain ⟨b', _, e', m'⟩ := h.get 14 hd (.blk w15.heap.size 30 #[.int .u8 0, .int .i64 0, .string { data := #[] }, .slice none 0 0, .slice none 0 0]) (by rw [HV.out]; rfl) _ rfl; rw [e'] at e; cases e; exact heap_lt m')⟩
               · have hd10 : d 10 := hw _ rfl ⟨10, .data⟩ (by simp) rfl
                 refine wpOp_step rfl fun K hK => ?_
                 go_simp
                 exact hK _ _ ⟨x103, x104, x105, x106, x107, x108, x109, x110, x111, x112, x113, _, x114, x115, x18, rfl, h.same 11 _ .any (by rw [HV.out]; rfl) trivial, ht.s11 hd10⟩
               · have hd11 : d 11 := hw _ rfl ⟨11, .data⟩ (by simp) rfl
                 obtain ⟨cs0, rfl, hl⟩ := ht.s12 hd11
                 refine wpOp_step rfl fun K hK => ?_
                 go_simp
                 exact hK _ _ ⟨x103, x104, x105, x106, x107, x108, x109, x110, x111, x112, x113, _, _, x115, x18, rfl, h.same 12 _ .any (by rw [HV.out]; rfl) trivial, hl⟩
               · have hd11 : d 11 := hw _ rfl ⟨11, .data⟩ (by simp) rfl
                 obtain ⟨cs0, rfl⟩ := ht.tup hd11
                 refine wpOp_step rfl fun K hK => ?_
                 go_simp
                 exact hK _ _ ⟨x103, x104, x105, x106, x107, x108, x109, x110, x111, x112, x113, _, x114, _, x18, rfl, h.same 13 _ _ (by rw [HV.out]; rfl) rfl, ht.same 13 (by decide)⟩
               · refine wpOp_step rfl fun K hK => ?_
                 go_simp
                 exact hK _ _ ⟨x103, x104, x105, x106, x107, x108, x109, x110, x111, x112, x113, x102, x114, x115, _, rfl, h.new _ 14 _ (.blk w15.heap.size 30 #[.int .u8 0, .int .i64 0, .string { data := #[] }, .slice none 0 0, .slice none 0 0]) (by rw [HV.out]; rfl) (IsBlk.made _ hsz), ht.s14 _⟩
               · omega
             case store =>
               rintro d a' w' ⟨x103, x104, x105, x106, x107, x108, x109, x110, x111, x112, x113, x102, x114, x115, x18, rfl, h, ht⟩ hall
               obtain ⟨b18, k18, rfl, m18⟩ := h.get 14 (hall 14 (by omega) (by omega)) (.blk w15.heap.size 30 #[.int .u8 0, .int .i64 0, .string { data := #[] }, .slice none 0 0, .slice none 0 0]) (by rw [HV.out]; rfl) _ rfl
               obtain ⟨cs0, rfl⟩ := ht.tup (hall 11 (by omega) (by omega))
               obtain ⟨v_, lo, hi, an, cn, ai, ci, hq, rfl, h3, h4, h5, h6⟩ := ht.2.2.2.2 (hall 12 (by omega) (by omega))
               have h7 := h6 (hall 14 (by omega) (by omega)) b18 rfl
               refine wpOp_step rfl fun K hK => ?_
               refine step_store_row rfl 30 (.tmp 18) (.tmp 114) rfl b18 (aggV v_ an cn ai ci) rfl rfl 30 _ m18 (by kernel_rfl) rfl (by simp [aggV, Value.oneCell']) ?_
               exact hK _ _ ⟨x103, x104, x105, x106, x107, x108, x109, x110, x111, x112, x113, _, x115, b18, cs0, rfl, fun hd => h.get 13 hd (.con (.int .i64 0)) (by rw [HV.out]; rfl) _ rfl, below_setRowN h.1 k18 _, k18, v_, an, cn, ai, ci, hq, by simp [World.setRow, Array.getElem?_modify, m18], h5.carry h3 (by simpa [World.setRow] using h4) (fun b hb1 hb2 => by simp only [World.setRow, Array.getElem?_modify]; rw [if_neg (fun e => h7 (by rw [e]; exact ⟨hb1, hb2⟩))])⟩
             case late =>
               rintro a' w' ⟨x103, x104, x105, x106, x107, x108, x109, x110, x111, x112, x113, x114, x115, b18, cs0, rfl, hF⟩
               obtain ⟨-, hb, hF⟩ := hF
               refine wpOp_step rfl fun K hK => ?_
               go_simp
               exact hK _ _ ⟨x103, x104, x105, x106, x107, x108, x109, x110, x111, x112, x113, x114, _, b18, cs0, rfl, fun _ => rfl, hb, hF⟩
             case last =>
               rintro a' w' ⟨x103, x104, x105, x106, x107, x108, x109, x110, x111, x112, x113, x114, x115, b18, cs0, rfl, hF⟩
               obtain ⟨h115, hle, k18, v_, an, cn, ai, ci, hq, m18, hr18⟩ := hF
               obtain rfl := h115 trivial
               have HLE := Lib.hid hle
               have HR18 := Lib.hid hr18
               have HM18 := Lib.hid m18
               have HK18 := Lib.hid k18
               clear h115 hle k18 m18 hr18 HV
               generalize w' = w16 at *
               have hq' : v_ = objJ ((snapM ⟨v, e, l⟩).eraseIdx k) := hq
               have HJQ := Lib.hid hq'
               clear hq hq' HNW1 HNW2 HSL HOB
               have HB15 := Lib.hid (show Below w15.heap.size w15 w16 from HLE.out)
               have HXY := Lib.hid (show w16.heap[b18]? = some (.cells #[.int .u8 v_.kind, .int .i64 v_.n, .string v_.t, .slice an v_.names.length cn, .slice ai v_.items.length ci] 30 (0, 0)) from HM18.out)
               clear HM18
               replace HB := Lib.hid (HB.out.trans (HLE.out.mono HB.out.size))
               replace HXS := Lib.hid ((HLE.out.block _ (heap_lt HXS.out)).trans HXS.out)
               replace HXP := Lib.hid ((HLE.out.block _ (heap_lt HXP.out)).trans HXP.out)
               replace HXV := Lib.hid ((HLE.out.block _ (heap_lt HXV.out)).trans HXV.out)
               replace HXW := Lib.hid ((HLE.out.block _ (heap_lt HXW.out)).trans HXW.out)
               replace HXX := Lib.hid ((HLE.out.block _ (heap_lt HXX.out)).trans HXX.out)
               have HOF := Lib.hid (snapOfOwn v_ _ w16 w10.heap.size HB80.out (by rw [HJQ.out]; exact less_wt HM.out k) HR18.out (HTW.out w16 HB.out).1)
               rw [show snapOfA v_ = (snapZ, 6) by rw [HJQ.out]; exact snap_less HM.out k HKN.out] at HOF
               clear HLE hw110 hkc hnc
               have xY0 := box_cell HXY.out (j := 0) rfl; have xY1 := box_cell HXY.out (j := 1) rfl; have xY2 := box_cell HXY.out (j := 2) rfl; have xY3 := box_cell HXY.out (j := 3) rfl; have xY4 := box_cell HXY.out (j := 4) rfl
               go_wp2_with fail
               refine (HOF.out).mono ?_
               clear xY0 xY1 xY2 xY3 xY4
               rintro r w17 ⟨qs, ta, tc, rfl, hown, hqs, hb17⟩
               clear hown hqs HOF HR18
               replace HB := Lib.hid (HB.out.trans (hb17.mono HB.out.size))
               replace HXS := Lib.hid ((hb17.block _ (heap_lt HXS.out)).trans HXS.out)
               replace HXP := Lib.hid ((hb17.block _ (heap_lt HXP.out)).trans HXP.out)
               replace HXV := Lib.hid ((hb17.block _ (heap_lt HXV.out)).trans HXV.out)
               replace HXW := Lib.hid ((hb17.block _ (heap_lt HXW.out)).trans HXW.out)
               replace HXX := Lib.hid ((hb17.block _ (heap_lt HXX.out)).trans HXX.out)
               replace HXY := Lib.hid ((hb17.block _ (heap_lt HXY.out)).trans HXY.out)
               replace HB15 := Lib.hid (HB15.out.trans (hb17.mono HB15.out.size))
               clear hb17
               obtain ⟨W18, hW18⟩ : ∃ W18, W18 = w17.alloc (.cells #[.int .i64 snapZ.ver, .int .i64 snapZ.exp, .slice ta snapZ.pins.length tc] 24) := ⟨_, rfl⟩
               have hbx : Below w17.heap.size w17 W18 := by rw [hW18]; exact (Below.refl _ _).alloc (Nat.le_refl _) _
               replace HB := Lib.hid (HB.out.trans (hbx.mono HB.out.size))
               replace HXS := Lib.hid ((hbx.block _ (heap_lt HXS.out)).trans HXS.out)
               replace HXP := Lib.hid ((hbx.block _ (heap_lt HXP.out)).trans HXP.out)
               replace HXV := Lib.hid ((hbx.block _ (heap_lt HXV.out)).trans HXV.out)
               replace HXW := Lib.hid ((hbx.block _ (heap_lt HXW.out)).trans HXW.out)
               replace HXX := Lib.hid ((hbx.block _ (heap_lt HXX.out)).trans HXX.out)
               replace HB15 := Lib.hid (HB15.out.trans (hbx.mono HB15.out.size))
               have HXZ := Lib.hid (show W18.heap[w17.heap.size]? = some (.cells #[.int .i64 snapZ.ver, .int .i64 snapZ.exp, .slice ta snapZ.pins.length tc] 24 (0, 0)) by rw [hW18]; exact heap_alloc_new w17 _)
               have HW18 := Lib.hid hW18
               clear hbx HXZ
               go_upto_region 11 with fail
               rw [← HW18.out]
               clear hW18 HW18
               have ha := HA1.out
               subst ha
               go_wp2_with fail
               refine (lawTextB other W18).mono ?_
               rintro r w19 ⟨rfl, hb19⟩
               replace HB := Lib.hid (HB.out.trans (hb19.mono HB.out.size))
               replace HXS := Lib.hid ((hb19.block _ (heap_lt HXS.out)).trans HXS.out)
               replace HXP := Lib.hid ((hb19.block _ (heap_lt HXP.out)).trans HXP.out)
               replace HXV := Lib.hid ((hb19.block _ (heap_lt HXV.out)).trans HXV.out)
               replace HXW := Lib.hid ((hb19.block _ (heap_lt HXW.out)).trans HXW.out)
               replace HXX := Lib.hid ((hb19.block _ (heap_lt HXX.out)).trans HXX.out)
               replace HB15 := Lib.hid (HB15.out.trans (hb19.mono HB15.out.size))
               clear hb19
               replace HO1 := Lib.hid (owns_below HO1.out HB15.out)
               have HO2' := Lib.hid (owns_below HO2.out HB15.out)
               replace HML := Lib.hid (HML.out.below HB15.out)
               have HZ16 := Lib.hid HB15.out.size
               have hkm : k < ml.length := by rw [← HN1.out]; exact HKN.out
               obtain ⟨y0, y1, y2, y3, y4⟩ := own_val HO1.out k hkm
               obtain ⟨s0, s1, s2, s3, s4⟩ := own_froz HO1.out k
               have hk4 := HKN.out
               have hk0 : (k : Int) < 4 := by omega
               go_upto_region 12 with fail
               obtain ⟨W20, hW20⟩ : ∃ W20, W20 = (((((w19.setCell ⟨g1, k * 6 + 1, none⟩ (.int .u8 3)).setCell ⟨g1, k * 6 + 1 + 1, none⟩ (.int .i64 0)).setCell ⟨g1, k * 6 + 1 + 2, none⟩ (.string other)).setCell ⟨g1, k * 6 + 1 + 3, none⟩ (.slice none 0 0)).setCell ⟨g1, k * 6 + 1 + 4, none⟩ (.slice none 0 0)) := ⟨_, rfl⟩
               rw [← hW20]
               have hml := HML.out
               rw [HN1.out] at hml
               have hmt := mems_turn hml (Nat.le_trans H15.out.1 HZ16.out) hkm other
               have hot := own_turn HO1.out hkm other
               rw [← hW20] at hmt hot
               have e4 : ml.length = 4 := HN1.out.symm
               rw [e4] at hmt
               have HMT := Lib.hid hmt
               have hh20 : ∀ b, b ≠ g1 → W20.heap[b]? = w19.heap[b]? := fun b hb => by rw [hW20, Below.heap_setCell _ _ _ _ hb, Below.heap_setCell _ _ _ _ hb, Below.heap_setCell _ _ _ _ hb, Below.heap_setCell _ _ _ _ hb, Below.heap_setCell _ _ _ _ hb]
               have hz20 : W20.heap.size = w19.heap.size := by rw [hW20]; simp [World.setCell]
               have hg1 := HO1.out.lt g1 rfl
               have hz16 := HZ16.out
               have hzp := HZP.out
               have hz15 := H15.out
               have hw2 := HZ10.out
               have hzq := HZ15.out
               have HGT := Lib.hid (show W14.heap.size ≤ g1 from hg1.1)
               have hz14 : W14.heap.size ≤ W20.heap.size := by omega
               have hne : g1 ≠ g2 := by
                 have ho2 := HO2'.out
                 have hl5 := HL5.out
                 have hn2 := HN2.out
                 have hj := HJL.out.2.1
                 obtain ⟨q1, e1⟩ := first_name HNL.out 0 (by omega)
                 obtain ⟨q2, e2⟩ := first_name HNM.out 0 (by omega)
                 refine rows_ne HO1.out ho2 (by omega) (by omega) ?_
                 rw [e1, e2]
                 exact fun h => pinJ_nt P _ (by rw [HJP.out]; exact List.getElem_mem q2) (Eq.trans h.symm rfl)
               obtain ⟨hmm2, ho2, hrm2⟩ := mems_carry (w' := W20) HO2'.out HMM.out.len (fun i it m e1 e2 => (HRM.out i it m e1 e2).below HB15.out (by omega) (Nat.le_refl _) (Nat.le_refl _)) HZP.out.2 hz14 (fun b hb => hh20 b (by
                 rcases hb with hb | hb
                 · omega
                 · simp only [Value.ownBlock, Option.some.injEq] at hb
                   exact fun e => hne (e.symm.trans hb.symm)))
               replace HMM := Lib.hid hmm2
               replace HO2 := Lib.hid ho2
               replace HRJ := Lib.hid (show Rep W20 w10.heap.size W14.heap.size (snapJ ⟨v, e, l⟩) (.agg #[.int .u8 5, .int .i64 0, .string { data := #[] }, .slice fan 4 fcn, .slice fai 4 fci]) from Rep.carry (Nat.le_refl _) (Nat.le_refl _) (fun b _ hb => (hh20 b (by omega)).trans (HB15.out.block b (by omega))) _ _ HRJ.out)
               have hzw : w11.heap.size < W14.heap.size ∧ w13.heap.size < W14.heap.size := HZW.out
               replace HB := Lib.hid (show Below W2.heap.size W2 W20 by
                 rw [hW20]
                 have key : ∀ (w' : World) (j : Nat) (u : Value), Below W2.heap.size W2 w' → Below W2.heap.size W2 (w'.setCell ⟨g1, j, none⟩ u) := fun w' j u h => h.setCell (by show W2.heap.size ≤ g1; omega) _
                 exact key _ _ _ (key _ _ _ (key _ _ _ (key _ _ _ (key _ _ _ HB.out)))))
               have hzx := HZ3.out
               replace HXS := Lib.hid ((hh20 _ (by omega)).trans HXS.out)
               replace HXP := Lib.hid ((hh20 _ (by omega)).trans HXP.out)
               replace HXV := Lib.hid ((hh20 _ (by omega)).trans HXV.out)
               replace HXW := Lib.hid ((hh20 _ (by omega)).trans HXW.out)
               replace HXX := Lib.hid ((hh20 _ (by omega)).trans HXX.out)
               have HZ20 := Lib.hid (show W14.heap.size ≤ W20.heap.size ∧ w15.heap.size ≤ W20.heap.size from ⟨hz14, by omega⟩)
               have hmtn := (turnMem_names ml k hkm other).trans HNL.out
               generalize ml.set k (turnMem ml[k] other) = mt at HMT hmtn hot hmt
               have HTN := Lib.hid (show mt.map (·.name) = (snapM ⟨v, e, l⟩).map (·.1) from hmtn)
               have HTO := Lib.hid (turn_obj (s := ⟨v, e, l⟩) HMT.out hmtn HB80.out HKN.out HM.out HFS.out)
               have HB20 := Lib.hid (Below.refl W20.heap.size W20)
               clear y0 y1 y2 y3 y4 s0 s1 s2 s3 s4 hml hmt hot hW20 hh20 hz20 hk0 hg1 hz16 hzp hz15 hw2 hz14 hne hmm2 ho2 hrm2 hmtn e4 HO2' HO1 HML HRM HRL hzw hzx HB15 HZ16 hzq
               go_wp2_with fail
               refine (HTO.out).mono ?_
               rintro r w21 ⟨tan, tcn, tai, tci, rfl, hr21, hb21⟩
               replace HB := Lib.hid (HB.out.trans (hb21.mono HB.out.size))
               replace HXS := Lib.hid ((hb21.block _ (heap_lt HXS.out)).trans HXS.out)
               replace HXP := Lib.hid ((hb21.block _ (heap_lt HXP.out)).trans HXP.out)
               replace HXV := Lib.hid ((hb21.block _ (heap_lt HXV.out)).trans HXV.out)
               replace HXW := Lib.hid ((hb21.block _ (heap_lt HXW.out)).trans HXW.out)
               replace HXX := Lib.hid ((hb21.block _ (heap_lt HXX.out)).trans HXX.out)
               replace HB20 := Lib.hid (HB20.out.trans (hb21.mono HB20.out.size))
               obtain ⟨W22, hW22⟩ : ∃ W22, W22 = w21.alloc (.cells #[.int .u8 5, .int .i64 0, .string { data := #[] }, .slice tan 4 tcn, .slice tai 4 tci] 30) := ⟨_, rfl⟩
               have hbx : Below w21.heap.size w21 W22 := by rw [hW22]; exact (Below.refl _ _).alloc (Nat.le_refl _) _
               replace HB := Lib.hid (HB.out.trans (hbx.mono HB.out.size))
               replace HXS := Lib.hid ((hbx.block _ (heap_lt HXS.out)).trans HXS.out)
               replace HXP := Lib.hid ((hbx.block _ (heap_lt HXP.out)).trans HXP.out)
               replace HXV := Lib.hid ((hbx.block _ (heap_lt HXV.out)).trans HXV.out)
               replace HXW := Lib.hid ((hbx.block _ (heap_lt HXW.out)).trans HXW.out)
               replace HXX := Lib.hid ((hbx.block _ (heap_lt HXX.out)).trans HXX.out)
               replace HB20 := Lib.hid (HB20.out.trans (hbx.mono HB20.out.size))
               have HXT := Lib.hid (show W22.heap[w21.heap.size]? = some (.cells #[.int .u8 5, .int .i64 0, .string { data := #[] }, .slice tan 4 tcn, .slice tai 4 tci] 30 (0, 0)) by rw [hW22]; exact heap_alloc_new w21 _)
               have HW22 := Lib.hid hW22
               have HRT := Lib.hid (show Rep W22 W20.heap.size W22.heap.size (objJ (turnM ⟨v, e, l⟩ k other)) (.agg #[.int .u8 5, .int .i64 0, .string { data := #[] }, .slice tan 4 tcn, .slice tai 4 tci]) from hr21.below (B := w21.heap.size) hbx (Nat.le_refl _) (Nat.le_refl _) (Nat.le_of_lt (heap_lt HXT.out)))
               clear hbx hr21 hb21 HTO
               go_upto_region 13 with fail
               rw [← HW22.out]
               clear hW22 HW22
               have HOF := Lib.hid (snapOfOwn (objJ (turnM ⟨v, e, l⟩ k other)) _ W22 W20.heap.size (Nat.lt_of_lt_of_le HB80.out (by have := HZ20.out; have := HZP.out; omega)) (turn_wt HM.out k HKN.out HFS.out) HRT.out (HTW.out W22 HB.out).1)
               have HTT := Lib.hid (turn_tells (s := ⟨v, e, l⟩) HM.out k HKN.out other)
               obtain ⟨r3, hr3⟩ : ∃ r3, r3 = snapOfA (objJ (turnM ⟨v, e, l⟩ k other)) := ⟨_, rfl⟩
               rw [← hr3] at HOF HTT
               clear hr3
               obtain ⟨S3, E3⟩ := r3
               have xT0 := box_cell HXT.out (j := 0) rfl; have xT1 := box_cell HXT.out (j := 1) rfl; have xT2 := box_cell HXT.out (j := 2) rfl; have xT3 := box_cell HXT.out (j := 3) rfl; have xT4 := box_cell HXT.out (j := 4) rfl
               go_wp2_with fail
               refine (HOF.out).mono ?_
               clear xT0 xT1 xT2 xT3 xT4
               rintro r w23 ⟨qs2, ta2, tc2, rfl, hown, hqs, hb23⟩
               clear hown hqs HOF HRT
               dsimp only at HTT ⊢
               replace HB := Lib.hid (HB.out.trans (hb23.mono HB.out.size))
               replace HXS := Lib.hid ((hb23.block _ (heap_lt HXS.out)).trans HXS.out)
               replace HXP := Lib.hid ((hb23.block _ (heap_lt HXP.out)).trans HXP.out)
               replace HXV := Lib.hid ((hb23.block _ (heap_lt HXV.out)).trans HXV.out)
               replace HXW := Lib.hid ((hb23.block _ (heap_lt HXW.out)).trans HXW.out)
               replace HXX := Lib.hid ((hb23.block _ (heap_lt HXX.out)).trans HXX.out)
               replace HXT := Lib.hid ((hb23.block _ (heap_lt HXT.out)).trans HXT.out)
               replace HB20 := Lib.hid (HB20.out.trans (hb23.mono HB20.out.size))
               clear hb23 HXT
               obtain ⟨W24, hW24⟩ : ∃ W24, W24 = w23.alloc (.cells #[.int .i64 S3.ver, .int .i64 S3.exp, .slice ta2 S3.pins.length tc2] 24) := ⟨_, rfl⟩
               have hbx : Below w23.heap.size w23 W24 := by rw [hW24]; exact (Below.refl _ _).alloc (Nat.le_refl _) _
               replace HB := Lib.hid (HB.out.trans (hbx.mono HB.out.size))
               replace HXS := Lib.hid ((hbx.block _ (heap_lt HXS.out)).trans HXS.out)
               replace HXP := Lib.hid ((hbx.block _ (heap_lt HXP.out)).trans HXP.out)
               replace HXV := Lib.hid ((hbx.block _ (heap_lt HXV.out)).trans HXV.out)
               replace HXW := Lib.hid ((hbx.block _ (heap_lt HXW.out)).trans HXW.out)
               replace HXX := Lib.hid ((hbx.block _ (heap_lt HXX.out)).trans HXX.out)
               replace HB20 := Lib.hid (HB20.out.trans (hbx.mono HB20.out.size))
               have HXZ := Lib.hid (show W24.heap[w23.heap.size]? = some (.cells #[.int .i64 S3.ver, .int .i64 S3.exp, .slice ta2 S3.pins.length tc2] 24 (0, 0)) by rw [hW24]; exact heap_alloc_new w23 _)
               have HW24 := Lib.hid hW24
               clear hbx HXZ
               go_upto_region 14 with fail
               rw [← HW24.out]
               clear hW24 HW24
               have HNC := Lib.hid (show W24.cell? ⟨g1, k * 6, none⟩ = some (.string ((snapM ⟨v, e, l⟩).map (·.1))[k]) from name_cell (HMT.out.below HB20.out) HTN.out k HKN.out)
               go_cut [184] (fun cx wx => cx = .bool false ∧ Below W24.heap.size W24 wx)
               case first =>
                 have hkn := HKN.out
                 rcases (by omega : k = 0 ∨ k = 1 ∨ k = 2 ∨ k = 3) with rfl | rfl | rfl | rfl
                 · have q0 : W24.cell? ⟨g1, 0, none⟩ = some (.string { data := #[95, 116, 121, 112, 101] }) := HNC.out
                   by_cases ho : other.toList = [115, 110, 97, 112, 115, 104, 111, 116]
                   · go_wp2_with fail
                     go_meet
                     exact ⟨rfl, Below.refl _ _⟩
                   · have hno : other ≠ snpN := fun e => ho (by rw [e, ByteArray.toList_eq]; rfl)
                     have hs4 : (other.size : Int) ≤ 4096 := by have := HFS.out; omega
                     obtain ⟨tk, hto⟩ : ∃ tk, tk = txtOk other := ⟨_, rfl⟩
                     have HTQ := Lib.hid hto
                     have HNO := Lib.hid hno
                     clear hto hno
                     go_wp2_with fail
                     refine (lawTextB other W24).mono ?_
                     rintro r w25 ⟨rfl, hb25⟩
                     have hrm := refMay (txtJ other) (.agg #[.int .u8 3, .int .i64 0, .string other, .slice none 0 0, .slice none 0 0]) w25 (by rw [txt_wt]; have := HFS.out; omega) (rep_txt _ _ _ _)
                     rw [txtJ_mayB, ← HTQ.out] at hrm
                     go_wp2_with fail
                     refine hrm.mono ?_
                     rintro r w26 ⟨rfl, hb26⟩
                     have HBX := Lib.hid (hb25.trans (hb26.mono hb25.size))
                     have q1 : w26.cell? ⟨g1, 0, none⟩ = some (.string { data := #[95, 116, 121, 112, 101] }) := name_cell (HMT.out.below (HB20.out.trans (HBX.out.mono HB20.out.size))) HTN.out 0 HKN.out
                     clear hrm hb25 hb26
                     cases tk with
                     | false =>
                       go_wp2_with fail
                       go_meet
                       exact ⟨rfl, HBX.out⟩
                     | true =>
                       obtain rfl : E3 = 13 := HTT.out.1 (by first | rfl | trivial) HNO.out HTQ.out.symm
                       go_wp2_with fail
                       go_meet
                       exact ⟨rfl, HBX.out⟩
                 · have q0 : W24.cell? ⟨g1, 6, none⟩ = some (.string { data := #[101, 120, 112, 105, 114, 101, 115] }) := HNC.out
                   go_wp2_with fail
                   go_meet
                   exact ⟨rfl, Below.refl _ _⟩
                 · have q0 : W24.cell? ⟨g1, 12, none⟩ = some (.string { data := #[109, 101, 116, 97] }) := HNC.out
                   have qe : (E3 == 0) = false := by have := HTT.out.2 (.inl rfl); simpa using this
                   go_wp2_with fail
                   go_meet
                   exact ⟨rfl, Below.refl _ _⟩
                 · have q0 : W24.cell? ⟨g1, 18, none⟩ = some (.string { data := #[118, 101, 114, 115, 105, 111, 110] }) := HNC.out
                   have qe : (E3 == 0) = false := by have := HTT.out.2 (.inr rfl); simpa using this
                   go_wp2_with fail
                   go_meet
                   exact ⟨rfl, Below.refl _ _⟩
               case rest =>
                 obtain ⟨rfl, hcut⟩ := hcut
                 replace HB := Lib.hid (HB.out.trans (hcut.mono HB.out.size))
                 replace HXS := Lib.hid ((hcut.block _ (heap_lt HXS.out)).trans HXS.out)
                 replace HXP := Lib.hid ((hcut.block _ (heap_lt HXP.out)).trans HXP.out)
                 replace HXV := Lib.hid ((hcut.block _ (heap_lt HXV.out)).trans HXV.out)
                 replace HXW := Lib.hid ((hcut.block _ (heap_lt HXW.out)).trans HXW.out)
                 replace HXX := Lib.hid ((hcut.block _ (heap_lt HXX.out)).trans HXX.out)
                 replace HB20 := Lib.hid (HB20.out.trans (hcut.mono HB20.out.size))
                 generalize wc = w25 at *
                 have HZ24 := Lib.hid (show W14.heap.size ≤ w25.heap.size from Nat.le_trans HZ20.out.1 HB20.out.size)
                 have HZ25 := Lib.hid (show w10.heap.size ≤ w25.heap.size from Nat.le_trans HZP.out.1 (Nat.le_trans HZP.out.2 HZ24.out))
                 go_step
                 go_step
                 go_step
                 go_step
                 go_step
                 exact lawElseB v e l P pa pc other u uan uai ucn uci which w W2 w10 w11 W12 W14 w15 W20 w25 fan fai fcn fci J g2 c2 n2 a2 mm _ _ _ _ _ _ _ _ _ _ _ _ _ _ _ _ _ _ _ _ _ _ _ _ _ _ _ _ _ _ _ _ _ _ _ _ _ _ _ _ _ _ _ _ _ _ _ _ _ _ _ _ _ _ _ _ _ _ _ _ _ _ _ _ _ _ _ _ _ _ _ _ _ _ _ _ _ _ _ _ _ _ _ _ _ _ _ _ _ _ _ _ _ _ _ _ _ _ _ _ _ _ _ _ _ _ _ _ _ _ _ _ _ _ _ _ _ _ _ _ _ _ _ _ _ _ _ _ _ _ _ _ _ _ _ _ _ _ _ _ _ _ _ _ _ _ _ _ _ _ _ _ _ _ _ _ _ _ _ _ _ _ _ _ _ _ _ _ _ _ _ _ _ _ _ _ _ _ _ _ _ _ _ _ _ _ _ _ _ _ _ _ _ _ _ _ _ _ _ _ _ _ _ _ _ _ _ _ _ _ _ _ _ _ _ _ _ _ _ _ _ _ _ _ _ _ _ _ _ _ _ _ _ _ _ _ _ _ _ _ _ _ _ _ _ _ _ _ _ _ _ _ _ _ hkl HWH.out HB2.out HB.out HKA.out HRA.out HTW.out HWT.out HFS.out HM.out HPM.out HSH2.out HB80.out HZP.out HZ20.out HB20.out HZ24.out HZ25.out HRJ.out HMM.out HO2.out HNM.out HJP.out HJL.out HL5.out HN2.out HA2.out HXP.out HXV.out HXW.out
end Go.Proofs.YtgghgcilpfdbjaaGreatDoor
