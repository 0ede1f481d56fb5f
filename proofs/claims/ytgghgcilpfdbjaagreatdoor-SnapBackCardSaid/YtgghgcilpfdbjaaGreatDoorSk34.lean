/- The law SnapBack: the call returns true. Printed by genback.py. -/
import Derived.Test.YtgghgcilpfdbjaaGreatDoorSk22
import Derived.Test.YtgghgcilpfdbjaaGreatDoorSk29
import Derived.Test.YtgghgcilpfdbjaaGreatDoorSk30
import Derived.Test.YtgghgcilpfdbjaaGreatDoorSk25
import Derived.Test.YtgghgcilpfdbjaaGreatDoorSk17
import Derived.Test.YtgghgcilpfdbjaaGreatDoorSk09
import Derived.Test.YtgghgcilpfdbjaaGreatDoorSk32
import Derived.Test.YtgghgcilpfdbjaaGreatDoorSk33
import Derived.Test.YtgghgcilpfdbjaaGreatDoorSk26

namespace Go.Proofs.YtgghgcilpfdbjaaGreatDoor
open Go.RowKit Go.Shelf Go.Sort

def pinR (p : PinV) : JV × Int := if mayPin p then (pinJ p, 0) else (zeroJ, 3)
theorem pinFits_may {p : PinV} (h : mayPin p = true) : PinFits p := by
  obtain ⟨h1, h2, h3, h4⟩ := mayPin_parts h
  have hf := file_size h1
  refine ⟨by unfold in64; omega, by unfold in64; omega, by unfold maxLen; omega, ?_, fun k hk => ?_⟩
  · rcases h4 with h4 | h4
    · rw [h4]; exact Nat.zero_le _
    · have := (mayHashes_parts h4).1.2; unfold maxLen; omega
  · rcases h4 with h4 | h4
    · rw [h4] at hk; cases hk
    · have h5 := (mayHashes_parts h4).2.1 k hk
      have h6 := role_size2 h5.1
      have h7 := pub_size h5.2
      unfold maxLen
      omega
theorem repL_one {w : World} {lo hi b T : Nat} {v : JV} {c0 c1 c2 c3 c4 : Value} (hb : w.heap[b]? = some (.cells #[c0, c1, c2, c3, c4] T (0, 0))) (h1 : lo ≤ b) (h2 : b < hi) (hR : Rep w lo hi v (.agg #[c0, c1, c2, c3, c4])) : ValsAt w lo hi (some ⟨b, 0, none⟩) [v] := by
  refine .inr ⟨b, 0, rfl, h1, h2, ⟨_, _, _, hb, fun _ => rfl⟩, ?_⟩
  unfold RepL
  refine ⟨⟨c0, c1, c2, c3, c4, box_cell hb rfl, box_cell hb rfl, box_cell hb rfl, box_cell hb rfl, box_cell hb rfl, by simp [World.frozen?, hb], hR⟩, by unfold RepL; trivial⟩

set_option maxHeartbeats 16000000 in
set_option maxRecDepth 100000 in
theorem lawBack (v e : Int) (l : List PinV) (a : Option Addr) (c : Nat) (P : PinV) (pa : Option Addr) (pc : Nat) (u : JV) (uan uai : Option Addr) (ucn uci : Nat) (file : ByteArray) (w : World) (hP : PinsAt w 0 w.heap.size a l) (hl : l.length ≤ 9223372036854775807) (hf : ∀ p ∈ l, PinFits p)
    (hK : KeysAt w 0 w.heap.size pa P.hs) (hkl : P.hs.length ≤ 9223372036854775807) (hR : Rep w 0 w.heap.size u (.agg #[.int .u8 u.kind, .int .i64 u.n, .string u.t, .slice uan u.names.length ucn, .slice uai u.items.length uci])) (hT : TabW w) (hP10 : Pow10 w) :
    Calls Tryz.prog 7 #[.agg #[.int .i64 v, .int .i64 e, .slice a l.length c], .agg #[.string P.name, .int .i64 P.ver, .int .i64 P.len, .slice pa P.hs.length pc], .agg #[.int .u8 u.kind, .int .i64 u.n, .string u.t, .slice uan u.names.length ucn, .slice uai u.items.length uci], .string file] w fun r w' => r = .returned (.bool true) ∧ Below w.heap.size w w' := by
  obtain ⟨W2, hW2⟩ : ∃ W2, W2 = ((w.alloc (.cells #[.int .i64 v, .int .i64 e, .slice a l.length c] 24)).alloc (.cells #[.string P.name, .int .i64 P.ver, .int .i64 P.len, .slice pa P.hs.length pc] 36)).alloc (.cells #[.int .u8 u.kind, .int .i64 u.n, .string u.t, .slice uan u.names.length ucn, .slice uai u.items.length uci] 30) := ⟨_, rfl⟩
  have hz1 : (w.alloc (.cells #[.int .i64 v, .int .i64 e, .slice a l.length c] 24)).heap.size = w.heap.size + 1 := by simp
  have hz2 : ((w.alloc (.cells #[.int .i64 v, .int .i64 e, .slice a l.length c] 24)).alloc (.cells #[.string P.name, .int .i64 P.ver, .int .i64 P.len, .slice pa P.hs.length pc] 36)).heap.size = w.heap.size + 2 := by simp
  have hb2 : Below w.heap.size w W2 := by rw [hW2]; exact (((Below.refl _ _).alloc (Nat.le_refl _) _).alloc (by simp) _).alloc (by simp; omega) _
  have HXS := Lib.hid (show W2.heap[w.heap.size]? = some (.cells #[.int .i64 v, .int .i64 e, .slice a l.length c] 24 (0, 0)) by rw [hW2, Below.heap_alloc _ _ _ (by simp; omega), Below.heap_alloc _ _ _ (by simp)]; exact heap_alloc_new w _)
  have HXP := Lib.hid (show W2.heap[w.heap.size + 1]? = some (.cells #[.string P.name, .int .i64 P.ver, .int .i64 P.len, .slice pa P.hs.length pc] 36 (0, 0)) by rw [hW2, Below.heap_alloc _ _ _ (by simp), ← hz1]; exact heap_alloc_new _ _)
  have HXV := Lib.hid (show W2.heap[w.heap.size + 2]? = some (.cells #[.int .u8 u.kind, .int .i64 u.n, .string u.t, .slice uan u.names.length ucn, .slice uai u.items.length uci] 30 (0, 0)) by rw [hW2, ← hz2]; exact heap_alloc_new _ _)
  have HPA := Lib.hid (show ∀ w' : World, Below W2.heap.size W2 w' → PinsAt w' 0 w'.heap.size a l from fun w' h => hP.below (hb2.trans (h.mono hb2.size)) (Nat.le_refl _) (Nat.zero_le _) (Nat.le_trans hb2.size h.size))
  have HKA := Lib.hid (show ∀ w' : World, Below W2.heap.size W2 w' → KeysAt w' 0 w'.heap.size pa P.hs from fun w' h => hK.below (hb2.trans (h.mono hb2.size)) (Nat.le_refl _) (Nat.zero_le _) (Nat.le_trans hb2.size h.size))
  have HRA := Lib.hid (show ∀ w' : World, Below W2.heap.size W2 w' → Rep w' 0 w'.heap.size u (.agg #[.int .u8 u.kind, .int .i64 u.n, .string u.t, .slice uan u.names.length ucn, .slice uai u.items.length uci]) from fun w' h => hR.below (hb2.trans (h.mono hb2.size)) (Nat.le_refl _) (Nat.zero_le _) (Nat.le_trans hb2.size h.size))
  have HTW := Lib.hid (show ∀ w' : World, Below W2.heap.size W2 w' → TabW w' ∧ Pow10 w' from fun w' h => ⟨hT.below (hb2.trans (h.mono hb2.size)), hP10.below (hb2.trans (h.mono hb2.size))⟩)
  have HAW := Lib.hid (show ∀ w' : World, Below W2.heap.size W2 w' → Calls Tryz.prog 14 #[] w' (fun e w'' => e = .returned (.bool true) ∧ Below w'.heap.size w' w'') from fun w' h => lawAwake23 w' (HTW.out w' h).1 (HTW.out w' h).2)
  have HF := Lib.hid hf
  have HB2 := Lib.hid hb2
  have HB := Lib.hid (Below.refl W2.heap.size W2)
  have HZ2 := Lib.hid (show 0 < W2.heap.size by rw [hW2]; simp)
  have HZ3 := Lib.hid (show W2.heap.size = w.heap.size + 3 by rw [hW2]; simp)
  have HW2 := Lib.hid hW2
  clear hW2 hb2 hP hT hP10 hf hK hR hz1 hz2
  go_enter Tryz.func7, Tryz.ntmps7
  go_upto_region 1 with fail
  rw [← HW2.out]
  clear HW2
  have xS0 := box_cell HXS.out (j := 0) rfl; have xS1 := box_cell HXS.out (j := 1) rfl; have xS2 := box_cell HXS.out (j := 2) rfl
  go_wp2_with fail
  clear xS0 xS1 xS2
  obtain ⟨W3, hW3⟩ : ∃ W3, W3 = W2.alloc (.cells #[.int .i64 v, .int .i64 e, .slice a l.length c] 24) := ⟨_, rfl⟩
  have hbx : Below W2.heap.size W2 W3 := by rw [hW3]; exact (Below.refl _ _).alloc (Nat.le_refl _) _
  replace HB := Lib.hid (HB.out.trans (hbx.mono HB.out.size))
  replace HXS := Lib.hid ((hbx.block _ (heap_lt HXS.out)).trans HXS.out)
  replace HXP := Lib.hid ((hbx.block _ (heap_lt HXP.out)).trans HXP.out)
  replace HXV := Lib.hid ((hbx.block _ (heap_lt HXV.out)).trans HXV.out)
  have HXL := Lib.hid (show W3.heap[W2.heap.size]? = some (.cells #[.int .i64 v, .int .i64 e, .slice a l.length c] 24 (0, 0)) by rw [hW3]; exact heap_alloc_new W2 _)
  have HW3 := Lib.hid hW3
  rw [← HW3.out]
  clear hbx hW3 HW3
  refine (lawLong1 l v e a c W2.heap.size 1 W3 (HPA.out W3 HB.out) HF.out hl HXL.out).mono ?_
  rintro r w4 ⟨b1, rfl, hs1, hb4⟩
  have HS1 := Lib.hid hs1
  replace HB := Lib.hid (HB.out.trans (hb4.mono HB.out.size))
  replace HXS := Lib.hid ((hb4.block _ (heap_lt HXS.out)).trans HXS.out)
  replace HXP := Lib.hid ((hb4.block _ (heap_lt HXP.out)).trans HXP.out)
  replace HXV := Lib.hid ((hb4.block _ (heap_lt HXV.out)).trans HXV.out)
  replace HXL := Lib.hid ((hb4.block _ (heap_lt HXL.out)).trans HXL.out)
  clear hs1 hb4 HXL
  cases b1 with
  | true =>
    go_wp2_with fail
    refine (HAW.out w4 HB.out).mono ?_
    rintro r w5 ⟨rfl, hb5⟩
    replace HB := Lib.hid (HB.out.trans (hb5.mono HB.out.size))
    clear hb5
    go_wp2
    go_ret
    exact ⟨rfl, HB2.out.trans (HB.out.mono HB2.out.size)⟩
  | false =>
    have hsh1 := HS1.out rfl
    have HSH1 := Lib.hid hsh1
    clear hsh1 HS1
    have xP0 := box_cell HXP.out (j := 0) rfl; have xP1 := box_cell HXP.out (j := 1) rfl; have xP2 := box_cell HXP.out (j := 2) rfl; have xP3 := box_cell HXP.out (j := 3) rfl
    go_wp2_with fail
    refine (lawLongPin P.name P.ver P.len P.hs pa pc w4 (HKA.out w4 HB.out) hkl).mono ?_
    clear xP0 xP1 xP2 xP3
    rintro r w5 ⟨b2, rfl, hs2, hb5⟩
    replace HB := Lib.hid (HB.out.trans (hb5.mono HB.out.size))
    replace HXS := Lib.hid ((hb5.block _ (heap_lt HXS.out)).trans HXS.out)
    replace HXP := Lib.hid ((hb5.block _ (heap_lt HXP.out)).trans HXP.out)
    replace HXV := Lib.hid ((hb5.block _ (heap_lt HXV.out)).trans HXV.out)
    have HS2 := Lib.hid hs2
    clear hs2 hb5
    cases b2 with
    | true =>
      go_wp2_with fail
      refine (HAW.out w5 HB.out).mono ?_
      rintro r w6 ⟨rfl, hb5⟩
      replace HB := Lib.hid (HB.out.trans (hb5.mono HB.out.size))
      clear hb5
      go_wp2
      go_ret
      exact ⟨rfl, HB2.out.trans (HB.out.mono HB2.out.size)⟩
    | false =>
      have HSH2 := Lib.hid (HS2.out rfl)
      clear HS2
      have xV0 := box_cell HXV.out (j := 0) rfl; have xV1 := box_cell HXV.out (j := 1) rfl; have xV2 := box_cell HXV.out (j := 2) rfl; have xV3 := box_cell HXV.out (j := 3) rfl; have xV4 := box_cell HXV.out (j := 4) rfl
      go_wp2_with fail
      clear xV0 xV1 xV2 xV3 xV4
      obtain ⟨W6, hW6⟩ : ∃ W6, W6 = w5.alloc (.cells #[.int .u8 u.kind, .int .i64 u.n, .string u.t, .slice uan u.names.length ucn, .slice uai u.items.length uci] 30) := ⟨_, rfl⟩
      have hbx : Below w5.heap.size w5 W6 := by rw [hW6]; exact (Below.refl _ _).alloc (Nat.le_refl _) _
      replace HB := Lib.hid (HB.out.trans (hbx.mono HB.out.size))
      replace HXS := Lib.hid ((hbx.block _ (heap_lt HXS.out)).trans HXS.out)
      replace HXP := Lib.hid ((hbx.block _ (heap_lt HXP.out)).trans HXP.out)
      replace HXV := Lib.hid ((hbx.block _ (heap_lt HXV.out)).trans HXV.out)
      have HXL := Lib.hid (show W6.heap[w5.heap.size]? = some (.cells #[.int .u8 u.kind, .int .i64 u.n, .string u.t, .slice uan u.names.length ucn, .slice uai u.items.length uci] 30 (0, 0)) by rw [hW6]; exact heap_alloc_new w5 _)
      have HW6 := Lib.hid hW6
      rw [← HW6.out]
      clear hbx hW6 HW6
      refine (lawLong [u] (some ⟨w5.heap.size, 0, none⟩) 1 W6 (repL_one HXL.out (Nat.zero_le _) (heap_lt HXL.out) (HRA.out W6 HB.out))).mono ?_
      rintro r w7 ⟨b3, rfl, hs3, h'⟩
      subst h'
      have HS3 := Lib.hid hs3
      clear hs3 HXL
      cases b3 with
      | true =>
        go_wp2_with fail
        refine (HAW.out W6 HB.out).mono ?_
        rintro r w8 ⟨rfl, hb5⟩
        replace HB := Lib.hid (HB.out.trans (hb5.mono HB.out.size))
        clear hb5
        go_wp2
        go_ret
        exact ⟨rfl, HB2.out.trans (HB.out.mono HB2.out.size)⟩
      | false =>
        have hwt : u.wt ≤ 20000 := by have := HS3.out rfl; simpa [JV.wts] using this
        have HWT := Lib.hid (show u.wt ≤ 4294967296 by omega)
        clear hwt HS3
        by_cases hlong : 1000 < file.size
        · have hdr : decide ((1000 : Int) < file.size) = true := by simp; omega
          clear hlong
          go_wp2_with fail
          refine (HAW.out W6 HB.out).mono ?_
          rintro r w8 ⟨rfl, hb5⟩
          replace HB := Lib.hid (HB.out.trans (hb5.mono HB.out.size))
          clear hb5
          go_wp2
          go_ret
          exact ⟨rfl, HB2.out.trans (HB.out.mono HB2.out.size)⟩
        have hdr : decide ((1000 : Int) < file.size) = false := by simp; omega
        have HFS := Lib.hid (show file.size ≤ 9223372036854775807 by omega)
        clear hlong
        go_wp2_with fail
        refine (HAW.out W6 HB.out).mono ?_
        rintro r w8 ⟨rfl, hb8⟩
        replace HB := Lib.hid (HB.out.trans (hb8.mono HB.out.size))
        replace HXS := Lib.hid ((hb8.block _ (heap_lt HXS.out)).trans HXS.out)
        replace HXP := Lib.hid ((hb8.block _ (heap_lt HXP.out)).trans HXP.out)
        replace HXV := Lib.hid ((hb8.block _ (heap_lt HXV.out)).trans HXV.out)
        have HZX := Lib.hid (show W2.heap.size = w.heap.size + 3 from HZ3.out)
        have HB80 := Lib.hid (show 0 < w8.heap.size from Nat.lt_of_lt_of_le HZ2.out HB.out.size)
        clear hb8 hdr
        have HPSH := Lib.hid (show ∀ p ∈ l, p.hs.length ≤ 9223372036854775807 from fun p hp => Nat.le_trans (HSH1.out.2 p hp).2.1 (by decide))
        obtain ⟨mb, hmb⟩ : ∃ mb, mb = maySnap ⟨v, e, l⟩ := ⟨_, rfl⟩
        have HSV := Lib.hid (show Calls Tryz.prog 15 #[.agg #[.int .i64 v, .int .i64 e, .slice a l.length c]] w8 (TellV (valR ⟨v, e, l⟩) w8) from by
          cases hm : maySnap ⟨v, e, l⟩ with
          | true =>
            have hall : l.all mayPin = true := (maySnap_parts.1 hm).2.2.2.1
            have hl256 : l.length ≤ 256 := (maySnap_parts.1 hm).2.2.1
            exact (snapValue v e l a c w8 (HPA.out w8 HB.out) HF.out (HTW.out w8 HB.out).1 (HTW.out w8 HB.out).2 hm (pins_made hall) (fun p hp => Nat.le_trans (pinJ_wt (List.all_eq_true.1 hall p hp)) (by decide)) (Nat.le_trans (metaJ_wt hall hl256) (by decide))).mono fun _ _ hp => tellV_good hm hp
          | false => exact (snapValueBad v e l a c w8 (HPA.out w8 HB.out) hl HF.out (HTW.out w8 HB.out).1 (HTW.out w8 HB.out).2 hm).mono fun _ _ hp => tellV_bad hm hp)
        have HVR := Lib.hid (show (mb = true → (valR ⟨v, e, l⟩) = (snapJ ⟨v, e, l⟩, 0)) ∧ ((valR ⟨v, e, l⟩).2 == 0) = mb from by
          rw [hmb]
          unfold valR
          cases maySnap ⟨v, e, l⟩ with
          | true => exact ⟨fun _ => rfl, rfl⟩
          | false => exact ⟨(fun h => by cases h), rfl⟩)
        have HMB := Lib.hid hmb
        have HMY := Lib.hid (show ∀ w' : World, Below W2.heap.size W2 w' → Calls Tryz.prog 21 #[.agg #[.int .i64 v, .int .i64 e, .slice a l.length c]] w' (fun e w'' => e = .returned (.bool mb) ∧ Below w'.heap.size w' w'') from fun w' h => by
          rw [hmb]; exact snapMay v e l a c w' (HPA.out w' h) hl HF.out (HTW.out w' h).1 (HTW.out w' h).2)
        generalize hr0 : valR ⟨v, e, l⟩ = r0 at HSV HVR
        obtain ⟨J, KE⟩ := r0
        clear hmb hr0
        have xS0 := box_cell HXS.out (j := 0) rfl; have xS1 := box_cell HXS.out (j := 1) rfl; have xS2 := box_cell HXS.out (j := 2) rfl
        go_wp2_with fail
        refine (HSV.out).mono ?_
        clear xS0 xS1 xS2
        rintro r w9 ⟨fan, fcn, fai, fci, rfl, hr9, hb9⟩
        dsimp only at hr9 ⊢
        replace HB := Lib.hid (HB.out.trans (hb9.mono HB.out.size))
        replace HXS := Lib.hid ((hb9.block _ (heap_lt HXS.out)).trans HXS.out)
        replace HXP := Lib.hid ((hb9.block _ (heap_lt HXP.out)).trans HXP.out)
        replace HXV := Lib.hid ((hb9.block _ (heap_lt HXV.out)).trans HXV.out)
        have HB9S := Lib.hid HB.out.size
        obtain ⟨W10, hW10⟩ : ∃ W10, W10 = w9.alloc (.cells #[.int .u8 J.kind, .int .i64 J.n, .string J.t, .slice fan J.names.length fcn, .slice fai J.items.length fci] 30) := ⟨_, rfl⟩
        have hbx : Below w9.heap.size w9 W10 := by rw [hW10]; exact (Below.refl _ _).alloc (Nat.le_refl _) _
        replace HB := Lib.hid (HB.out.trans (hbx.mono HB.out.size))
        replace HXS := Lib.hid ((hbx.block _ (heap_lt HXS.out)).trans HXS.out)
        replace HXP := Lib.hid ((hbx.block _ (heap_lt HXP.out)).trans HXP.out)
        replace HXV := Lib.hid ((hbx.block _ (heap_lt HXV.out)).trans HXV.out)
        have HXT := Lib.hid (show W10.heap[w9.heap.size]? = some (.cells #[.int .u8 J.kind, .int .i64 J.n, .string J.t, .slice fan J.names.length fcn, .slice fai J.items.length fci] 30 (0, 0)) by rw [hW10]; exact heap_alloc_new w9 _)
        have HW10 := Lib.hid hW10
        have HRT := Lib.hid (show Rep W10 w8.heap.size W10.heap.size J (.agg #[.int .u8 J.kind, .int .i64 J.n, .string J.t, .slice fan J.names.length fcn, .slice fai J.items.length fci]) from hr9.below (B := w9.heap.size) hbx (Nat.le_refl _) (Nat.le_refl _) (Nat.le_of_lt (heap_lt HXT.out)))
        have HRW := Lib.hid (show W10.rowIs w9.heap.size 30 5 (pick5 (.int .u8 J.kind) (.int .i64 J.n) (.string J.t) (.slice fan J.names.length fcn) (.slice fai J.items.length fci)) by rw [hW10]; exact rowIs_box5 w9 _ _ _ _ _ _)
        have HW8 := HB80
        have HW29 := Lib.hid (show W2.heap.size ≤ w9.heap.size from HB9S.out)
        clear hbx hW10 hr9 hb9 HSV
        go_upto_region 4 with fail
        rw [← HW10.out]
        clear HW10
        have hkb := HVR.out.2
        have hbb : (mb != mb) = false := by cases mb <;> rfl
        have xS0 := box_cell HXS.out (j := 0) rfl; have xS1 := box_cell HXS.out (j := 1) rfl; have xS2 := box_cell HXS.out (j := 2) rfl
        go_wp2_with fail
        refine (HMY.out W10 HB.out).mono ?_
        clear xS0 xS1 xS2
        rintro r w11 ⟨rfl, hb11⟩
        replace HRT := Lib.hid (HRT.out.below hb11 (Nat.le_refl _) (Nat.le_refl _) hb11.size)
        replace HRW := Lib.hid (below_row hb11 HRW.out HRW.out.lt)
        replace HB := Lib.hid (HB.out.trans (hb11.mono HB.out.size))
        replace HXS := Lib.hid ((hb11.block _ (heap_lt HXS.out)).trans HXS.out)
        replace HXP := Lib.hid ((hb11.block _ (heap_lt HXP.out)).trans HXP.out)
        replace HXV := Lib.hid ((hb11.block _ (heap_lt HXV.out)).trans HXV.out)
        replace HXT := Lib.hid ((hb11.block _ (heap_lt HXT.out)).trans HXT.out)
        clear hb11
        go_upto_if 55 with fail
        go_cut [8] (fun _ wx => Below w11.heap.size w11 wx)
        case first =>
          cases mb with
          | false =>
            go_wp2_with fail
            go_meet
            exact Below.refl _ _
          | true =>
            have hjk := HVR.out.1 rfl
            obtain ⟨rfl, rfl⟩ : J = snapJ ⟨v, e, l⟩ ∧ KE = 0 := by simpa using hjk
            have hm := HMB.out.symm
            have hdone : snapOfA (snapJ ⟨v, e, l⟩) = (⟨v, e, l⟩, 0) := by
              unfold snapOfA
              rw [if_neg (by rw [snapJ_may hm]; decide), if_neg (by simp [snapJ, snapO, JV.kind]), snap_back hm]
            have HOW := Lib.hid (snapOfOwn (snapJ ⟨v, e, l⟩) _ w11 w8.heap.size HW8.out (by have := @valR_wt ⟨v, e, l⟩; unfold valR at this; rwa [if_pos hm] at this) HRT.out (HTW.out w11 HB.out).1)
            rw [hdone] at HOW
            dsimp only at HOW
            clear hdone hm hjk hkb
            have xT0 := box_cell HXT.out (j := 0) rfl; have xT1 := box_cell HXT.out (j := 1) rfl; have xT2 := box_cell HXT.out (j := 2) rfl; have xT3 := box_cell HXT.out (j := 3) rfl; have xT4 := box_cell HXT.out (j := 4) rfl
            go_wp2_with fail
            refine (HOW.out).mono ?_
            clear xT0 xT1 xT2 xT3 xT4
            rintro r w12 ⟨qs, ta, tc, rfl, hown, hqs, hb12⟩
            obtain ⟨hql, hpt⟩ := hown.pins
            rw [hqs] at hpt
            have HLX := Lib.hid hb12
            replace HB := Lib.hid (HB.out.trans (hb12.mono HB.out.size))
            replace HXS := Lib.hid ((hb12.block _ (heap_lt HXS.out)).trans HXS.out)
            replace HXP := Lib.hid ((hb12.block _ (heap_lt HXP.out)).trans HXP.out)
            replace HXV := Lib.hid ((hb12.block _ (heap_lt HXV.out)).trans HXV.out)
            replace HXT := Lib.hid ((hb12.block _ (heap_lt HXT.out)).trans HXT.out)
            obtain ⟨W13, hW13⟩ : ∃ W13, W13 = w12.alloc (.cells #[.int .i64 v, .int .i64 e, .slice ta l.length tc] 24) := ⟨_, rfl⟩
            have hbx : Below w12.heap.size w12 W13 := by rw [hW13]; exact (Below.refl _ _).alloc (Nat.le_refl _) _
            replace HB := Lib.hid (HB.out.trans (hbx.mono HB.out.size))
            replace HXS := Lib.hid ((hbx.block _ (heap_lt HXS.out)).trans HXS.out)
            replace HXP := Lib.hid ((hbx.block _ (heap_lt HXP.out)).trans HXP.out)
            replace HXV := Lib.hid ((hbx.block _ (heap_lt HXV.out)).trans HXV.out)
            replace HXT := Lib.hid ((hbx.block _ (heap_lt HXT.out)).trans HXT.out)
            have HXQ := Lib.hid (show W13.heap[w12.heap.size]? = some (.cells #[.int .i64 v, .int .i64 e, .slice ta l.length tc] 24 (0, 0)) by rw [hW13]; exact heap_alloc_new w12 _)
            have HW13 := Lib.hid hW13
            have HPT := Lib.hid (hpt.below hbx (Nat.le_refl _) (Nat.zero_le 0 |> fun _ => Nat.zero_le _) hbx.size)
            have HLY := Lib.hid (HLX.out.trans (hbx.mono HLX.out.size))
            clear hbx hW13 hpt hown hqs hql hb12
            go_upto_region 8 with fail
            rw [← HW13.out]
            clear HW13
            have xQ0 := box_cell HXQ.out (j := 0) rfl; have xQ1 := box_cell HXQ.out (j := 1) rfl; have xQ2 := box_cell HXQ.out (j := 2) rfl
            have xS0 := box_cell HXS.out (j := 0) rfl; have xS1 := box_cell HXS.out (j := 1) rfl; have xS2 := box_cell HXS.out (j := 2) rfl
            go_wp2_with fail
            refine ((ref23SameG v e l v e l ta a tc c W13 (HPT.out) (HPA.out W13 HB.out) HF.out HF.out hl hl).mono fun _ _ ht => tells_bool (b := true) (by simp) ht).mono ?_
            clear xQ0 xQ1 xQ2
            clear xS0 xS1 xS2
            rintro r w14 ⟨rfl, hb14⟩
            have HPT2 := Lib.hid (HPT.out.below hb14 (Nat.le_refl _) (Nat.le_refl _) hb14.size)
            replace HLY := Lib.hid (HLY.out.trans (hb14.mono HLY.out.size))
            replace HB := Lib.hid (HB.out.trans (hb14.mono HB.out.size))
            replace HXS := Lib.hid ((hb14.block _ (heap_lt HXS.out)).trans HXS.out)
            replace HXP := Lib.hid ((hb14.block _ (heap_lt HXP.out)).trans HXP.out)
            replace HXV := Lib.hid ((hb14.block _ (heap_lt HXV.out)).trans HXV.out)
            replace HXT := Lib.hid ((hb14.block _ (heap_lt HXT.out)).trans HXT.out)
            replace HXQ := Lib.hid ((hb14.block _ (heap_lt HXQ.out)).trans HXQ.out)
            clear hb14
            have xQ0 := box_cell HXQ.out (j := 0) rfl; have xQ1 := box_cell HXQ.out (j := 1) rfl; have xQ2 := box_cell HXQ.out (j := 2) rfl
            have xS0 := box_cell HXS.out (j := 0) rfl; have xS1 := box_cell HXS.out (j := 1) rfl; have xS2 := box_cell HXS.out (j := 2) rfl
            go_wp2_with fail
            refine ((snapSame v e l v e l ta a tc c w14 (HPT2.out) (HPA.out w14 HB.out) HF.out HF.out hl hl).mono fun _ _ ht => tells_bool (b := true) (by simp) ht).mono ?_
            clear xQ0 xQ1 xQ2
            clear xS0 xS1 xS2
            rintro r w15 ⟨rfl, hb15⟩
            replace HLY := Lib.hid (HLY.out.trans (hb15.mono HLY.out.size))
            clear hb15
            go_wp2_with fail
            go_meet
            exact HLY.out
        case rest =>
          have HCUT := Lib.hid hcut
          replace HRW := Lib.hid (below_row hcut HRW.out HRW.out.lt)
          replace HB := Lib.hid (HB.out.trans (hcut.mono HB.out.size))
          replace HXS := Lib.hid ((hcut.block _ (heap_lt HXS.out)).trans HXS.out)
          replace HXP := Lib.hid ((hcut.block _ (heap_lt HXP.out)).trans HXP.out)
          replace HXV := Lib.hid ((hcut.block _ (heap_lt HXV.out)).trans HXV.out)
          replace HXT := Lib.hid ((hcut.block _ (heap_lt HXT.out)).trans HXT.out)
          clear hcut hkb hbb HVR HMB HRT HMY
          obtain ⟨pb, hpb⟩ : ∃ pb, pb = mayPin P := ⟨_, rfl⟩
          have hzk : ∀ k ∈ P.hs, k.1.size ≤ 9223372036854775807 ∧ k.2.size ≤ 9223372036854775807 := fun k hk => ⟨Nat.le_trans (HSH2.out.2.2 k hk).1 (by decide), Nat.le_trans (HSH2.out.2.2 k hk).2 (by decide)⟩
          have hnm : P.name.size ≤ 9223372036854775807 := Nat.le_trans HSH2.out.1 (by decide)
          have HPV := Lib.hid (show Calls Tryz.prog 27 #[.agg #[.string P.name, .int .i64 P.ver, .int .i64 P.len, .slice pa P.hs.length pc]] wc (TellV (pinR P) wc) from by
            unfold pinR
            cases hm : mayPin P with
            | true => exact (pins_made (l := [P]) (by simp [hm]) P (by simp) pa pc wc (HKA.out wc HB.out)).mono fun _ _ hp => hp
            | false =>
              refine (snapPinValueBad P.name P.ver P.len P.hs pa pc wc (HKA.out wc HB.out) hnm hkl hzk hm).mono ?_
              rintro e w' ⟨h1, h2⟩
              exact ⟨none, 0, none, 0, h1, rep_zeroJW _ _ _, h2⟩)
          have HVR := Lib.hid (show (pb = true → pinR P = (pinJ P, 0)) ∧ ((pinR P).2 == 0) = pb from by
            rw [hpb]
            unfold pinR
            cases mayPin P with
            | true => exact ⟨fun _ => rfl, rfl⟩
            | false => exact ⟨(fun h => by cases h), rfl⟩)
          have HMB := Lib.hid hpb
          have HMP := Lib.hid (show ∀ w' : World, Below W2.heap.size W2 w' → Calls Tryz.prog 31 #[.agg #[.string P.name, .int .i64 P.ver, .int .i64 P.len, .slice pa P.hs.length pc]] w' (fun e w'' => e = .returned (.bool pb) ∧ Below w'.heap.size w' w'') from fun w' h => by
            rw [hpb]; exact snapMayPin P.name P.ver P.len P.hs pa pc w' (HKA.out w' h) hnm hkl hzk)
          generalize hr0 : pinR P = r0 at HPV HVR
          obtain ⟨J2, K2⟩ := r0
          have HZC := Lib.hid (show w9.heap.size < wc.heap.size ∧ W2.heap.size ≤ w9.heap.size ∧ 0 < wc.heap.size from ⟨HRW.out.lt, HW29.out, by have := HRW.out.lt; omega⟩)
          clear hpb hr0
          have xP0 := box_cell HXP.out (j := 0) rfl; have xP1 := box_cell HXP.out (j := 1) rfl; have xP2 := box_cell HXP.out (j := 2) rfl; have xP3 := box_cell HXP.out (j := 3) rfl
          go_wp2_with fail
          refine (HPV.out).mono ?_
          clear xP0 xP1 xP2 xP3
          rintro r w13 ⟨gan, gcn, gai, gci, rfl, hr13, hb13⟩
          dsimp only at hr13 ⊢
          replace HRW := Lib.hid (below_row hb13 HRW.out HRW.out.lt)
          replace HB := Lib.hid (HB.out.trans (hb13.mono HB.out.size))
          replace HXS := Lib.hid ((hb13.block _ (heap_lt HXS.out)).trans HXS.out)
          replace HXP := Lib.hid ((hb13.block _ (heap_lt HXP.out)).trans HXP.out)
          replace HXV := Lib.hid ((hb13.block _ (heap_lt HXV.out)).trans HXV.out)
          replace HXT := Lib.hid ((hb13.block _ (heap_lt HXT.out)).trans HXT.out)
          have HZ13 := Lib.hid (show wc.heap.size ≤ w13.heap.size from hb13.size)
          have hq := HRW.out
          have t0 := hq.cell (i := 0) (by decide); have t1 := hq.cell (i := 1) (by decide); have t2 := hq.cell (i := 2) (by decide); have t3 := hq.cell (i := 3) (by decide); have t4 := hq.cell (i := 4) (by decide)
          have s0 := hq.frozen 0; have s1 := hq.frozen 1; have s2 := hq.frozen 2; have s3 := hq.frozen 3; have s4 := hq.frozen 4
          simp only [pick5] at t0 t1 t2 t3 t4
          clear hq hb13 HPV
          go_upto_region 11 with fail
          obtain ⟨W14, hW14⟩ : ∃ W14, W14 = ((((w13.setCell ⟨w9.heap.size, 0, none⟩ (.int .u8 J2.kind)).setCell ⟨w9.heap.size, 1, none⟩ (.int .i64 J2.n)).setCell ⟨w9.heap.size, 2, none⟩ (.string J2.t)).setCell ⟨w9.heap.size, 3, none⟩ (.slice gan J2.names.length gcn)).setCell ⟨w9.heap.size, 4, none⟩ (.slice gai J2.items.length gci) := ⟨_, rfl⟩
          rw [← hW14]
          clear t0 t1 t2 t3 t4 s0 s1 s2 s3 s4
          have hz14 : W14.heap.size = w13.heap.size := by rw [hW14]; simp [World.setCell]
          have hh14 : ∀ x, x ≠ w9.heap.size → W14.heap[x]? = w13.heap[x]? := fun x hx => by rw [hW14]; exact heap5 _ _ _ _ _ hx
          replace HB := Lib.hid (show Below W2.heap.size W2 W14 by rw [hW14]; exact below5 _ _ _ _ _ HB.out HZC.out.2.1)
          replace HRW := Lib.hid (show W14.rowIs w9.heap.size 30 5 (pick5 (.int .u8 J2.kind) (.int .i64 J2.n) (.string J2.t) (.slice gan J2.names.length gcn) (.slice gai J2.items.length gci)) by rw [hW14]; exact set5 _ _ _ _ _ HRW.out)
          have HRT := Lib.hid (show Rep W14 wc.heap.size W14.heap.size J2 (.agg #[.int .u8 J2.kind, .int .i64 J2.n, .string J2.t, .slice gan J2.names.length gcn, .slice gai J2.items.length gci]) from Rep.carry (Nat.le_refl _) (Nat.le_of_eq hz14.symm) (fun x h1 _ => hh14 x (by have := HZC.out; omega)) _ _ hr13)
          replace HXS := Lib.hid ((hh14 _ (by have := HZC.out; have := HZX.out; omega)).trans HXS.out)
          replace HXP := Lib.hid ((hh14 _ (by have := HZC.out; have := HZX.out; omega)).trans HXP.out)
          replace HXV := Lib.hid ((hh14 _ (by have := HZC.out; have := HZX.out; omega)).trans HXV.out)
          clear hW14 hz14 hh14 hr13 hnm
          have hkb := HVR.out.2
          have hbb : (pb != pb) = false := by cases pb <;> rfl
          have xP0 := box_cell HXP.out (j := 0) rfl; have xP1 := box_cell HXP.out (j := 1) rfl; have xP2 := box_cell HXP.out (j := 2) rfl; have xP3 := box_cell HXP.out (j := 3) rfl
          go_wp2_with fail
          refine (HMP.out W14 HB.out).mono ?_
          clear xP0 xP1 xP2 xP3
          rintro r w15 ⟨rfl, hb15⟩
          replace HRT := Lib.hid (HRT.out.below hb15 (Nat.le_refl _) (Nat.le_refl _) hb15.size)
          replace HRW := Lib.hid (below_row hb15 HRW.out HRW.out.lt)
          replace HB := Lib.hid (HB.out.trans (hb15.mono HB.out.size))
          replace HXS := Lib.hid ((hb15.block _ (heap_lt HXS.out)).trans HXS.out)
          replace HXP := Lib.hid ((hb15.block _ (heap_lt HXP.out)).trans HXP.out)
          replace HXV := Lib.hid ((hb15.block _ (heap_lt HXV.out)).trans HXV.out)
          clear hb15
          go_upto_if 86 with fail
          go_cut [8] (fun _ wx => Below w15.heap.size w15 wx)
          case first =>
            cases pb with
            | false =>
              go_wp2_with fail
              go_meet
              exact Below.refl _ _
            | true =>
              have hjk := HVR.out.1 rfl
              obtain ⟨rfl, rfl⟩ : J2 = pinJ P ∧ K2 = 0 := by simpa using hjk
              have hm := HMB.out.symm
              have HOW := Lib.hid (snapPinOfA P.name (pinJ P) _ w15 wc.heap.size w15.heap.size (Nat.le_trans (pinJ_wt hm) (by decide)) HZC.out.2.2 (Nat.le_refl _) HRT.out (Nat.le_trans HSH2.out.1 (by decide)))
              rw [pin_back hm] at HOW
              have hq := HRW.out
              have t0 := hq.cell (i := 0) (by decide); have t1 := hq.cell (i := 1) (by decide); have t2 := hq.cell (i := 2) (by decide); have t3 := hq.cell (i := 3) (by decide); have t4 := hq.cell (i := 4) (by decide)
              simp only [pick5] at t0 t1 t2 t3 t4
              clear hm hjk hkb hq
              have xP0 := box_cell HXP.out (j := 0) rfl; have xP1 := box_cell HXP.out (j := 1) rfl; have xP2 := box_cell HXP.out (j := 2) rfl; have xP3 := box_cell HXP.out (j := 3) rfl
              go_wp2_with fail
              refine (HOW.out).mono ?_
              clear xP0 xP1 xP2 xP3
              rintro r w16 ⟨qa, qc, rfl, hkw, _, hb16⟩
              dsimp only at hkw ⊢
              clear t0 t1 t2 t3 t4
              have HLX := Lib.hid hb16
              replace HB := Lib.hid (HB.out.trans (hb16.mono HB.out.size))
              replace HXS := Lib.hid ((hb16.block _ (heap_lt HXS.out)).trans HXS.out)
              replace HXP := Lib.hid ((hb16.block _ (heap_lt HXP.out)).trans HXP.out)
              replace HXV := Lib.hid ((hb16.block _ (heap_lt HXV.out)).trans HXV.out)
              obtain ⟨W17, hW17⟩ : ∃ W17, W17 = w16.alloc (.cells #[.string P.name, .int .i64 P.ver, .int .i64 P.len, .slice qa P.hs.length qc] 36) := ⟨_, rfl⟩
              have hbx : Below w16.heap.size w16 W17 := by rw [hW17]; exact (Below.refl _ _).alloc (Nat.le_refl _) _
              replace HB := Lib.hid (HB.out.trans (hbx.mono HB.out.size))
              replace HXS := Lib.hid ((hbx.block _ (heap_lt HXS.out)).trans HXS.out)
              replace HXP := Lib.hid ((hbx.block _ (heap_lt HXP.out)).trans HXP.out)
              replace HXV := Lib.hid ((hbx.block _ (heap_lt HXV.out)).trans HXV.out)
              have HXQ := Lib.hid (show W17.heap[w16.heap.size]? = some (.cells #[.string P.name, .int .i64 P.ver, .int .i64 P.len, .slice qa P.hs.length qc] 36 (0, 0)) by rw [hW17]; exact heap_alloc_new w16 _)
              have HW17 := Lib.hid hW17
              have HKT := Lib.hid (hkw.1.below hbx (Nat.le_refl _) (Nat.zero_le _) hbx.size)
              have HLY := Lib.hid (HLX.out.trans (hbx.mono HLX.out.size))
              clear hbx hW17 hkw hb16
              go_upto_region 15 with fail
              rw [← HW17.out]
              clear HW17
              have xP0 := box_cell HXP.out (j := 0) rfl; have xP1 := box_cell HXP.out (j := 1) rfl; have xP2 := box_cell HXP.out (j := 2) rfl; have xP3 := box_cell HXP.out (j := 3) rfl
              have xQ0 := box_cell HXQ.out (j := 0) rfl; have xQ1 := box_cell HXQ.out (j := 1) rfl; have xQ2 := box_cell HXQ.out (j := 2) rfl; have xQ3 := box_cell HXQ.out (j := 3) rfl
              go_wp2_with fail
              refine ((ref23SamePinG P.name P.ver P.len P.hs P.name P.ver P.len P.hs pa qa pc qc W17 (HKA.out W17 HB.out) HKT.out hkl hkl).mono fun _ _ ht => tells_bool (b := true) (by simp) ht).mono ?_
              clear xP0 xP1 xP2 xP3
              clear xQ0 xQ1 xQ2 xQ3
              rintro r w18 ⟨rfl, hb18⟩
              have HKT2 := Lib.hid (HKT.out.below hb18 (Nat.le_refl _) (Nat.le_refl _) hb18.size)
              replace HLY := Lib.hid (HLY.out.trans (hb18.mono HLY.out.size))
              replace HB := Lib.hid (HB.out.trans (hb18.mono HB.out.size))
              replace HXS := Lib.hid ((hb18.block _ (heap_lt HXS.out)).trans HXS.out)
              replace HXP := Lib.hid ((hb18.block _ (heap_lt HXP.out)).trans HXP.out)
              replace HXV := Lib.hid ((hb18.block _ (heap_lt HXV.out)).trans HXV.out)
              replace HXQ := Lib.hid ((hb18.block _ (heap_lt HXQ.out)).trans HXQ.out)
              clear hb18
              have xP0 := box_cell HXP.out (j := 0) rfl; have xP1 := box_cell HXP.out (j := 1) rfl; have xP2 := box_cell HXP.out (j := 2) rfl; have xP3 := box_cell HXP.out (j := 3) rfl
              have xQ0 := box_cell HXQ.out (j := 0) rfl; have xQ1 := box_cell HXQ.out (j := 1) rfl; have xQ2 := box_cell HXQ.out (j := 2) rfl; have xQ3 := box_cell HXQ.out (j := 3) rfl
              go_wp2_with fail
              refine ((snapSamePin P.name P.ver P.len P.hs P.name P.ver P.len P.hs pa qa pc qc w18 (HKA.out w18 HB.out) HKT2.out hkl hkl).mono fun _ _ ht => tells_bool (b := true) (by simp) ht).mono ?_
              clear xP0 xP1 xP2 xP3
              clear xQ0 xQ1 xQ2 xQ3
              rintro r w19 ⟨rfl, hb19⟩
              replace HLY := Lib.hid (HLY.out.trans (hb19.mono HLY.out.size))
              clear hb19
              go_wp2_with fail
              go_meet
              exact HLY.out
          case rest =>
            replace HB := Lib.hid (HB.out.trans (hcut.mono HB.out.size))
            replace HXS := Lib.hid ((hcut.block _ (heap_lt HXS.out)).trans HXS.out)
            replace HXP := Lib.hid ((hcut.block _ (heap_lt HXP.out)).trans HXP.out)
            replace HXV := Lib.hid ((hcut.block _ (heap_lt HXV.out)).trans HXV.out)
            clear hcut hkb hbb HVR HMB HRT HMP HRW HZC HZ13 HCUT
            generalize wc = wd at *
            have HOI := Lib.hid (snapOfIn u _ wd HWT.out (HRA.out wd HB.out) (HTW.out wd HB.out).1)
            have xV0 := box_cell HXV.out (j := 0) rfl; have xV1 := box_cell HXV.out (j := 1) rfl; have xV2 := box_cell HXV.out (j := 2) rfl; have xV3 := box_cell HXV.out (j := 3) rfl; have xV4 := box_cell HXV.out (j := 4) rfl
            go_wp2_with fail
            refine (HOI.out).mono ?_
            clear xV0 xV1 xV2 xV3 xV4
            rintro r w20 ⟨s2, er, qs, ta, tc, rfl, hown, hqs, hb20, hok, -⟩
            obtain ⟨sv, se, sl⟩ := s2
            dsimp only at hown hqs ⊢
            obtain ⟨hql, hpt⟩ := hown.pins
            rw [hqs] at hpt
            have HOK := Lib.hid hok
            replace HB := Lib.hid (HB.out.trans (hb20.mono HB.out.size))
            replace HXS := Lib.hid ((hb20.block _ (heap_lt HXS.out)).trans HXS.out)
            replace HXP := Lib.hid ((hb20.block _ (heap_lt HXP.out)).trans HXP.out)
            replace HXV := Lib.hid ((hb20.block _ (heap_lt HXV.out)).trans HXV.out)
            obtain ⟨W21, hW21⟩ : ∃ W21, W21 = w20.alloc (.cells #[.int .i64 sv, .int .i64 se, .slice ta sl.length tc] 24) := ⟨_, rfl⟩
            have hbx : Below w20.heap.size w20 W21 := by rw [hW21]; exact (Below.refl _ _).alloc (Nat.le_refl _) _
            replace HB := Lib.hid (HB.out.trans (hbx.mono HB.out.size))
            replace HXS := Lib.hid ((hbx.block _ (heap_lt HXS.out)).trans HXS.out)
            replace HXP := Lib.hid ((hbx.block _ (heap_lt HXP.out)).trans HXP.out)
            replace HXV := Lib.hid ((hbx.block _ (heap_lt HXV.out)).trans HXV.out)
            have HXT := Lib.hid (show W21.heap[w20.heap.size]? = some (.cells #[.int .i64 sv, .int .i64 se, .slice ta sl.length tc] 24 (0, 0)) by rw [hW21]; exact heap_alloc_new w20 _)
            have HW21 := Lib.hid hW21
            have HPT := Lib.hid (hpt.below hbx (Nat.le_refl _) (Nat.zero_le _) hbx.size)
            clear hbx hW21 hpt hown hqs hql hb20 hok HOI
            go_upto_region 18 with fail
            rw [← HW21.out]
            clear HW21
            go_upto_if 114 with fail
            go_cut [8] (fun _ wx => Below W21.heap.size W21 wx)
            case first =>
              by_cases her : er = 0
              · subst er
                obtain ⟨hu, hm⟩ := HOK.out rfl
                have HU := Lib.hid hu
                have HM := Lib.hid hm
                have hall : sl.all mayPin = true := (maySnap_parts.1 hm).2.2.2.1
                have hl256 : sl.length ≤ 256 := (maySnap_parts.1 hm).2.2.1
                have hfit : ∀ p ∈ sl, PinFits p := fun p hp => pinFits_may (List.all_eq_true.1 hall p hp)
                have HFT := Lib.hid hfit
                have HL2 := Lib.hid (show sl.length ≤ 9223372036854775807 by omega)
                have HSV := Lib.hid (snapValue sv se sl ta tc W21 HPT.out hfit (HTW.out W21 HB.out).1 (HTW.out W21 HB.out).2 hm (pins_made hall) (fun p hp => Nat.le_trans (pinJ_wt (List.all_eq_true.1 hall p hp)) (by decide)) (Nat.le_trans (metaJ_wt hall hl256) (by decide)))
                clear hu hm hall hl256 hfit HOK
                have xT0 := box_cell HXT.out (j := 0) rfl; have xT1 := box_cell HXT.out (j := 1) rfl; have xT2 := box_cell HXT.out (j := 2) rfl
                go_wp2_with fail
                refine (HSV.out).mono ?_
                clear xT0 xT1 xT2
                rintro r w22 ⟨fan2, fcn2, fai2, fci2, rfl, hr22, hb22⟩
                have HR22 := Lib.hid (show Rep w22 0 w22.heap.size u (.agg #[.int .u8 5, .int .i64 0, .string { data := #[] }, .slice fan2 4 fcn2, .slice fai2 4 fci2]) by rw [HU.out]; exact hr22.carry (Nat.zero_le _) (Nat.le_refl _) fun _ _ _ => rfl)
                have HPT2 := Lib.hid (HPT.out.below hb22 (Nat.le_refl _) (Nat.le_refl _) hb22.size)
                have HLY := Lib.hid hb22
                replace HB := Lib.hid (HB.out.trans (hb22.mono HB.out.size))
                replace HXS := Lib.hid ((hb22.block _ (heap_lt HXS.out)).trans HXS.out)
                replace HXP := Lib.hid ((hb22.block _ (heap_lt HXP.out)).trans HXP.out)
                replace HXV := Lib.hid ((hb22.block _ (heap_lt HXV.out)).trans HXV.out)
                replace HXT := Lib.hid ((hb22.block _ (heap_lt HXT.out)).trans HXT.out)
                obtain ⟨W23, hW23⟩ : ∃ W23, W23 = w22.alloc (.cells #[.int .u8 5, .int .i64 0, .string { data := #[] }, .slice fan2 4 fcn2, .slice fai2 4 fci2] 30) := ⟨_, rfl⟩
                have hbx : Below w22.heap.size w22 W23 := by rw [hW23]; exact (Below.refl _ _).alloc (Nat.le_refl _) _
                replace HB := Lib.hid (HB.out.trans (hbx.mono HB.out.size))
                replace HXS := Lib.hid ((hbx.block _ (heap_lt HXS.out)).trans HXS.out)
                replace HXP := Lib.hid ((hbx.block _ (heap_lt HXP.out)).trans HXP.out)
                replace HXV := Lib.hid ((hbx.block _ (heap_lt HXV.out)).trans HXV.out)
                replace HXT := Lib.hid ((hbx.block _ (heap_lt HXT.out)).trans HXT.out)
                have HXQ := Lib.hid (show W23.heap[w22.heap.size]? = some (.cells #[.int .u8 5, .int .i64 0, .string { data := #[] }, .slice fan2 4 fcn2, .slice fai2 4 fci2] 30 (0, 0)) by rw [hW23]; exact heap_alloc_new w22 _)
                have HW23 := Lib.hid hW23
                replace HR22 := Lib.hid (HR22.out.below hbx (Nat.le_refl _) (Nat.le_refl _) hbx.size)
                replace HPT2 := Lib.hid (HPT2.out.below hbx (Nat.le_refl _) (Nat.le_refl _) hbx.size)
                replace HLY := Lib.hid (HLY.out.trans (hbx.mono HLY.out.size))
                clear hbx hW23 hr22 hb22 HSV
                go_upto_region 20 with fail
                rw [← HW23.out]
                clear HW23
                have HSM := Lib.hid (refSame 4294967296 u u _ _ 0 W23.heap.size W23 HWT.out HWT.out (Nat.le_refl _) (Nat.le_refl _) HR22.out (HRA.out W23 HB.out))
                rw [(JV.sameB_iff u u).2 rfl] at HSM
                have xQ0 := box_cell HXQ.out (j := 0) rfl; have xQ1 := box_cell HXQ.out (j := 1) rfl; have xQ2 := box_cell HXQ.out (j := 2) rfl; have xQ3 := box_cell HXQ.out (j := 3) rfl; have xQ4 := box_cell HXQ.out (j := 4) rfl
                have xV0 := box_cell HXV.out (j := 0) rfl; have xV1 := box_cell HXV.out (j := 1) rfl; have xV2 := box_cell HXV.out (j := 2) rfl; have xV3 := box_cell HXV.out (j := 3) rfl; have xV4 := box_cell HXV.out (j := 4) rfl
                go_wp2_with fail
                refine (HSM.out).mono ?_
                clear xQ0 xQ1 xQ2 xQ3 xQ4
                clear xV0 xV1 xV2 xV3 xV4
                rintro r w24 ⟨rfl, hb24⟩
                replace HPT2 := Lib.hid (HPT2.out.below hb24 (Nat.le_refl _) (Nat.le_refl _) hb24.size)
                replace HLY := Lib.hid (HLY.out.trans (hb24.mono HLY.out.size))
                replace HB := Lib.hid (HB.out.trans (hb24.mono HB.out.size))
                replace HXS := Lib.hid ((hb24.block _ (heap_lt HXS.out)).trans HXS.out)
                replace HXP := Lib.hid ((hb24.block _ (heap_lt HXP.out)).trans HXP.out)
                replace HXV := Lib.hid ((hb24.block _ (heap_lt HXV.out)).trans HXV.out)
                replace HXT := Lib.hid ((hb24.block _ (heap_lt HXT.out)).trans HXT.out)
                replace HXQ := Lib.hid ((hb24.block _ (heap_lt HXQ.out)).trans HXQ.out)
                have HMY2 := Lib.hid (snapMay sv se sl ta tc w24 HPT2.out HL2.out HFT.out (HTW.out w24 HB.out).1 (HTW.out w24 HB.out).2)
                rw [HM.out] at HMY2
                clear hb24 HSM
                have xT0 := box_cell HXT.out (j := 0) rfl; have xT1 := box_cell HXT.out (j := 1) rfl; have xT2 := box_cell HXT.out (j := 2) rfl
                go_wp2_with fail
                refine (HMY2.out).mono ?_
                clear xT0 xT1 xT2
                rintro r w25 ⟨rfl, hb25⟩
                replace HLY := Lib.hid (HLY.out.trans (hb25.mono HLY.out.size))
                clear hb25
                go_wp2_with fail
                go_meet
                exact HLY.out
              · have hne : (er == 0) = false := by simpa using her
                clear her
                go_wp2_with fail
                go_meet
                exact Below.refl _ _
            case rest =>
              replace HB := Lib.hid (HB.out.trans (hcut.mono HB.out.size))
              replace HXS := Lib.hid ((hcut.block _ (heap_lt HXS.out)).trans HXS.out)
              replace HXP := Lib.hid ((hcut.block _ (heap_lt HXP.out)).trans HXP.out)
              replace HXV := Lib.hid ((hcut.block _ (heap_lt HXV.out)).trans HXV.out)
              replace HXT := Lib.hid ((hcut.block _ (heap_lt HXT.out)).trans HXT.out)
              clear hcut HOK HPT
              have HOI := Lib.hid (pinOfIn file u _ wc HWT.out (HRA.out wc HB.out) HFS.out)
              have xV0 := box_cell HXV.out (j := 0) rfl; have xV1 := box_cell HXV.out (j := 1) rfl; have xV2 := box_cell HXV.out (j := 2) rfl; have xV3 := box_cell HXV.out (j := 3) rfl; have xV4 := box_cell HXV.out (j := 4) rfl
              go_wp2_with fail
              refine (HOI.out).mono ?_
              clear xV0 xV1 xV2 xV3 xV4
              rintro r w26 ⟨p2, er2, qa, qc, rfl, hk26, hb26, hok, hbad⟩
              have HOK := Lib.hid hok
              have HBD := Lib.hid hbad
              replace HB := Lib.hid (HB.out.trans (hb26.mono HB.out.size))
              replace HXS := Lib.hid ((hb26.block _ (heap_lt HXS.out)).trans HXS.out)
              replace HXP := Lib.hid ((hb26.block _ (heap_lt HXP.out)).trans HXP.out)
              replace HXV := Lib.hid ((hb26.block _ (heap_lt HXV.out)).trans HXV.out)
              obtain ⟨W27, hW27⟩ : ∃ W27, W27 = w26.alloc (.cells #[.string p2.name, .int .i64 p2.ver, .int .i64 p2.len, .slice qa p2.hs.length qc] 36) := ⟨_, rfl⟩
              have hbx : Below w26.heap.size w26 W27 := by rw [hW27]; exact (Below.refl _ _).alloc (Nat.le_refl _) _
              replace HB := Lib.hid (HB.out.trans (hbx.mono HB.out.size))
              replace HXS := Lib.hid ((hbx.block _ (heap_lt HXS.out)).trans HXS.out)
              replace HXP := Lib.hid ((hbx.block _ (heap_lt HXP.out)).trans HXP.out)
              replace HXV := Lib.hid ((hbx.block _ (heap_lt HXV.out)).trans HXV.out)
              have HXT := Lib.hid (show W27.heap[w26.heap.size]? = some (.cells #[.string p2.name, .int .i64 p2.ver, .int .i64 p2.len, .slice qa p2.hs.length qc] 36 (0, 0)) by rw [hW27]; exact heap_alloc_new w26 _)
              have HW27 := Lib.hid hW27
              have HKT := Lib.hid (hk26.below hbx (Nat.le_refl _) (Nat.le_refl _) hbx.size)
              clear hbx hW27 hk26 hb26 hok hbad HOI
              go_upto_region 23 with fail
              rw [← HW27.out]
              clear HW27
              by_cases her : er2 = 0
              · subst er2
                obtain ⟨hu, hm, hn⟩ := HOK.out rfl
                have HU := Lib.hid hu
                have hfe : (p2.name.toList == file.toList) = true := by rw [hn]; simp
                have HPV := Lib.hid (pins_made (l := [p2]) (by simp [hm]) p2 (by simp) qa qc W27 HKT.out)
                clear hu hm hn HOK HBD
                have xT0 := box_cell HXT.out (j := 0) rfl; have xT1 := box_cell HXT.out (j := 1) rfl; have xT2 := box_cell HXT.out (j := 2) rfl; have xT3 := box_cell HXT.out (j := 3) rfl
                go_wp2_with fail
                refine (HPV.out).mono ?_
                clear xT0 xT1 xT2 xT3
                rintro r w28 ⟨fan2, fcn2, fai2, fci2, rfl, hr28, hb28⟩
                generalize hjp : pinJ p2 = J3 at hr28 ⊢
                have hju : u = J3 := HU.out.trans hjp
                have HK3 := Lib.hid (show J3.kind = 5 ∧ J3.n = 0 ∧ J3.t = { data := #[] } from by rw [← hjp]; exact ⟨rfl, rfl, rfl⟩)
                clear hjp
                have HR28 := Lib.hid (show Rep w28 0 w28.heap.size u (.agg #[.int .u8 5, .int .i64 0, .string { data := #[] }, .slice fan2 J3.names.length fcn2, .slice fai2 J3.items.length fci2]) by rw [hju]; exact hr28.carry (Nat.zero_le _) (Nat.le_refl _) fun _ _ _ => rfl)
                replace HB := Lib.hid (HB.out.trans (hb28.mono HB.out.size))
                replace HXS := Lib.hid ((hb28.block _ (heap_lt HXS.out)).trans HXS.out)
                replace HXP := Lib.hid ((hb28.block _ (heap_lt HXP.out)).trans HXP.out)
                replace HXV := Lib.hid ((hb28.block _ (heap_lt HXV.out)).trans HXV.out)
                replace HXT := Lib.hid ((hb28.block _ (heap_lt HXT.out)).trans HXT.out)
                obtain ⟨W29, hW29⟩ : ∃ W29, W29 = w28.alloc (.cells #[.int .u8 5, .int .i64 0, .string { data := #[] }, .slice fan2 J3.names.length fcn2, .slice fai2 J3.items.length fci2] 30) := ⟨_, rfl⟩
                have hbx : Below w28.heap.size w28 W29 := by rw [hW29]; exact (Below.refl _ _).alloc (Nat.le_refl _) _
                replace HB := Lib.hid (HB.out.trans (hbx.mono HB.out.size))
                replace HXS := Lib.hid ((hbx.block _ (heap_lt HXS.out)).trans HXS.out)
                replace HXP := Lib.hid ((hbx.block _ (heap_lt HXP.out)).trans HXP.out)
                replace HXV := Lib.hid ((hbx.block _ (heap_lt HXV.out)).trans HXV.out)
                replace HXT := Lib.hid ((hbx.block _ (heap_lt HXT.out)).trans HXT.out)
                have HXQ := Lib.hid (show W29.heap[w28.heap.size]? = some (.cells #[.int .u8 5, .int .i64 0, .string { data := #[] }, .slice fan2 J3.names.length fcn2, .slice fai2 J3.items.length fci2] 30 (0, 0)) by rw [hW29]; exact heap_alloc_new w28 _)
                have HW29 := Lib.hid hW29
                replace HR28 := Lib.hid (HR28.out.below hbx (Nat.le_refl _) (Nat.le_refl _) hbx.size)
                clear hbx hW29 hr28 hb28 HPV hju
                go_upto_region 26 with fail
                rw [← HW29.out]
                clear HW29
                have HSM := Lib.hid (refSame 4294967296 u u _ _ 0 W29.heap.size W29 HWT.out HWT.out (Nat.le_refl _) (Nat.le_refl _) HR28.out (HRA.out W29 HB.out))
                rw [(JV.sameB_iff u u).2 rfl] at HSM
                have xQ0 := box_cell HXQ.out (j := 0) rfl; have xQ1 := box_cell HXQ.out (j := 1) rfl; have xQ2 := box_cell HXQ.out (j := 2) rfl; have xQ3 := box_cell HXQ.out (j := 3) rfl; have xQ4 := box_cell HXQ.out (j := 4) rfl
                have xV0 := box_cell HXV.out (j := 0) rfl; have xV1 := box_cell HXV.out (j := 1) rfl; have xV2 := box_cell HXV.out (j := 2) rfl; have xV3 := box_cell HXV.out (j := 3) rfl; have xV4 := box_cell HXV.out (j := 4) rfl
                go_wp2_with fail
                refine (HSM.out).mono ?_
                clear xQ0 xQ1 xQ2 xQ3 xQ4
                clear xV0 xV1 xV2 xV3 xV4
                rintro r w30 ⟨rfl, hb30⟩
                replace HB := Lib.hid (HB.out.trans (hb30.mono HB.out.size))
                replace HXS := Lib.hid ((hb30.block _ (heap_lt HXS.out)).trans HXS.out)
                replace HXP := Lib.hid ((hb30.block _ (heap_lt HXP.out)).trans HXP.out)
                replace HXV := Lib.hid ((hb30.block _ (heap_lt HXV.out)).trans HXV.out)
                replace HXT := Lib.hid ((hb30.block _ (heap_lt HXT.out)).trans HXT.out)
                replace HXQ := Lib.hid ((hb30.block _ (heap_lt HXQ.out)).trans HXQ.out)
                clear hb30 HSM
                have xT0 := box_cell HXT.out (j := 0) rfl; have xT1 := box_cell HXT.out (j := 1) rfl; have xT2 := box_cell HXT.out (j := 2) rfl; have xT3 := box_cell HXT.out (j := 3) rfl
                go_wp2
                go_ret
                exact ⟨rfl, HB2.out.trans (HB.out.mono HB2.out.size)⟩
              · have hne : (er2 != 0) = true := by simpa using her
                obtain rfl := HBD.out her
                clear her HOK HBD
                have HSP := Lib.hid ((ref23SamePinG pinZ.name pinZ.ver pinZ.len pinZ.hs { data := #[] } 0 0 [] qa none qc 0 W27 HKT.out (.inl rfl) (Nat.zero_le _) (Nat.zero_le _)).mono fun _ _ ht => tells_bool (b := true) (by simp [pinZ]) ht)
                have xT0 := box_cell HXT.out (j := 0) rfl; have xT1 := box_cell HXT.out (j := 1) rfl; have xT2 := box_cell HXT.out (j := 2) rfl; have xT3 := box_cell HXT.out (j := 3) rfl
                go_wp2_with fail
                refine (HSP.out).mono ?_
                clear xT0 xT1 xT2 xT3
                rintro r w28 ⟨rfl, hb28⟩
                replace HB := Lib.hid (HB.out.trans (hb28.mono HB.out.size))
                replace HXS := Lib.hid ((hb28.block _ (heap_lt HXS.out)).trans HXS.out)
                replace HXP := Lib.hid ((hb28.block _ (heap_lt HXP.out)).trans HXP.out)
                replace HXV := Lib.hid ((hb28.block _ (heap_lt HXV.out)).trans HXV.out)
                replace HXT := Lib.hid ((hb28.block _ (heap_lt HXT.out)).trans HXT.out)
                clear hb28 HSP
                go_wp2
                go_ret
                exact ⟨rfl, HB2.out.trans (HB.out.mono HB2.out.size)⟩
end Go.Proofs.YtgghgcilpfdbjaaGreatDoor
