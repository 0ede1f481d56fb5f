/- The contract of the law KeyForm: it returns true, whatever the key. The contract of the law KeyReads: it returns true, whatever the value. -/
import Derived.Test.YtcahpjejpimdhaaGreatDoorZr24
import Derived.Test.YtcahpjejpimdhaaGreatDoorZr15
import Derived.Test.YtcahpjejpimdhaaGreatDoorZr21
import Derived.Test.YtcahpjejpimdhaaGreatDoorZr22

namespace Go.Proofs.YtcahpjejpimdhaaGreatDoor
open Go.RowKit

theorem short_iff {s t : ByteArray} : shortK s t = true ↔ s.size ≤ 300 ∧ t.size ≤ 300 := by unfold shortK; simp

theorem isHex_char (n : Nat) (h : n < 16) : isHex (hexChar n) = true := by
  have : ∀ m : Fin 16, isHex (hexChar m.val) = true := by decide
  exact this ⟨n, h⟩
theorem allHex_enc : ∀ l : List UInt8, allHex (hexEnc l) = true
  | [] => rfl
  | c :: r => by
    have h := allHex_enc r
    have hc : c.toNat < 256 := c.toNat_lt
    unfold allHex at h ⊢
    simp only [hexEnc, List.all_cons, Bool.and_eq_true]
    exact ⟨isHex_char _ (by omega), isHex_char _ (by omega), h⟩
theorem allHex_sha (l : List UInt8) : allHex (shaHex l) = true := allHex_enc _

set_option maxHeartbeats 1000000 in
set_option maxRecDepth 100000 in
theorem lawKeyForm (s t : ByteArray) (w : World) (hT : Tabs w) :
    Calls Tryz.prog 5 #[.agg #[.string s, .string t]] w fun e w' => e = .returned (.bool true) ∧ Below w.heap.size w w' := by
  have HT := Lib.hid hT
  clear hT
  have HB0 := Lib.hid (show Below w.heap.size w (w.alloc (.cells #[.string s, .string t] 23)) from (Below.refl _ _).alloc (Nat.le_refl _) _)
  have HX0 := Lib.hid (heap_alloc_new w (.cells #[.string s, .string t] 23))
  have HSH := Lib.hid (lawShort s t (w.alloc (.cells #[.string s, .string t] 23)))
  cases hsh : shortK s t
  · rw [hsh] at HSH
    clear hsh
    go_enter Tryz.func5, Tryz.ntmps5
    go_wp2_with fail
    refine HSH.out.mono ?_
    rintro e w1 ⟨rfl, hb1⟩
    have HB1 := Lib.hid (HB0.out.trans (hb1.mono (by simp)))
    clear hb1
    go_wp2_with fail
    refine (lawAwake w1 (HT.out.below HB1.out)).mono ?_
    rintro e w2 ⟨rfl, hb2⟩
    have HB2 := Lib.hid (HB1.out.trans (hb2.mono HB1.out.size))
    clear hb2
    go_wp2
    go_ret
    exact ⟨rfl, HB2.out⟩
  · obtain ⟨hs, ht⟩ := short_iff.1 hsh
    rw [hsh] at HSH
    clear hsh
    go_enter Tryz.func5, Tryz.ntmps5
    go_wp2_with fail
    refine HSH.out.mono ?_
    rintro e w1 ⟨rfl, hb1⟩
    have hx1 : w1.heap[w.heap.size]? = some (.cells #[.string s, .string t] 23 (0, 0)) := by rw [hb1.block _ (by simp)]; exact HX0.out
    have HX1 := Lib.hid hx1
    have HB1 := Lib.hid (HB0.out.trans (hb1.mono (by simp)))
    clear hb1 hx1
    go_wp2_with fail
    refine (lawAwake w1 (HT.out.below HB1.out)).mono ?_
    rintro e w2 ⟨rfl, hb2⟩
    have hx2 : w2.heap[w.heap.size]? = some (.cells #[.string s, .string t] 23 (0, 0)) := by rw [hb2.block _ (heap_lt HX1.out)]; exact HX1.out
    have HX2 := Lib.hid hx2
    have HB2 := Lib.hid (HB1.out.trans (hb2.mono HB1.out.size))
    have c0 : w2.cell? ⟨w.heap.size, 0, none⟩ = some (.string s) := box_cell hx2 rfl
    have c1 : w2.cell? ⟨w.heap.size, 1, none⟩ = some (.string t) := box_cell hx2 rfl
    clear hb2 hx2 HX1 HB1
    have HI := Lib.hid (keyID s t w2 (by omega) (by omega) (HT.out.below HB2.out))
    unfold KeyIdPost keyId at HI
    cases hk : keyOk s.data.toList t.data.toList
    · rw [hk] at HI
      have HKF := Lib.hid hk
      clear hk
      simp only [Bool.false_eq_true, if_false] at HI
      go_wp2_with fail
      refine HI.out.mono ?_
      clear HI c0 c1
      rintro e w3 ⟨rfl, hb3⟩
      have hx3 : w3.heap[w.heap.size]? = some (.cells #[.string s, .string t] 23 (0, 0)) := by rw [hb3.block _ (heap_lt HX2.out)]; exact HX2.out
      have HB3 := Lib.hid (HB2.out.trans (hb3.mono HB2.out.size))
      have c0 : w3.cell? ⟨w.heap.size, 0, none⟩ = some (.string s) := box_cell hx3 rfl
      have c1 : w3.cell? ⟨w.heap.size, 1, none⟩ = some (.string t) := box_cell hx3 rfl
      have HM := Lib.hid (keyMay s t w3 (by omega) (by omega))
      rw [HKF.out] at HM
      clear hb3 hx3
      go_wp2_with fail
      refine HM.out.mono ?_
      clear HM
      rintro e w4 ⟨rfl, hb4⟩
      have HB4 := Lib.hid (HB3.out.trans (hb4.mono HB3.out.size))
      clear hb4
      go_wp2
      go_ret
      exact ⟨rfl, HB4.out⟩
    · have HKF := Lib.hid hk
      rw [hk, if_pos rfl, if_pos rfl] at HI
      clear hk
      obtain ⟨ID, hID⟩ : ∃ ID : ByteArray, ID = ⟨(shaHex (keyForm s.data.toList t.data.toList)).toArray⟩ := ⟨_, rfl⟩
      obtain ⟨FM, hFM⟩ : ∃ FM : ByteArray, FM = ⟨(keyForm s.data.toList t.data.toList).toArray⟩ := ⟨_, rfl⟩
      rw [← hID] at HI
      have HID := Lib.hid hID
      have HFM := Lib.hid hFM
      clear hID hFM
      go_wp2_with fail
      refine HI.out.mono ?_
      clear HI c0 c1
      rintro e w3 ⟨rfl, hb3⟩
      have hx3 : w3.heap[w.heap.size]? = some (.cells #[.string s, .string t] 23 (0, 0)) := by rw [hb3.block _ (heap_lt HX2.out)]; exact HX2.out
      have HX3 := Lib.hid hx3
      have HB3 := Lib.hid (HB2.out.trans (hb3.mono HB2.out.size))
      have c0 : w3.cell? ⟨w.heap.size, 0, none⟩ = some (.string s) := box_cell hx3 rfl
      have c1 : w3.cell? ⟨w.heap.size, 1, none⟩ = some (.string t) := box_cell hx3 rfl
      have HM := Lib.hid (keyMay s t w3 (by omega) (by omega))
      rw [HKF.out] at HM
      clear hb3 hx3
      go_wp2_with fail
      refine HM.out.mono ?_
      clear HM c0 c1
      rintro e w4 ⟨rfl, hb4⟩
      have hx4 : w4.heap[w.heap.size]? = some (.cells #[.string s, .string t] 23 (0, 0)) := by rw [hb4.block _ (heap_lt HX3.out)]; exact HX3.out
      have HX4 := Lib.hid hx4
      have HB4 := Lib.hid (HB3.out.trans (hb4.mono HB3.out.size))
      have c0 : w4.cell? ⟨w.heap.size, 0, none⟩ = some (.string s) := box_cell hx4 rfl
      have c1 : w4.cell? ⟨w.heap.size, 1, none⟩ = some (.string t) := box_cell hx4 rfl
      clear hb4 hx4
      go_wp2_with fail
      refine (keyValue_yes s t w4 (by omega) (by omega) HKF.out).mono ?_
      rintro e w5 ⟨an, cn, ai, ci, rfl, hr5, hb5⟩
      have hx5 : w5.heap[w.heap.size]? = some (.cells #[.string s, .string t] 23 (0, 0)) := by rw [hb5.block _ (heap_lt HX4.out)]; exact HX4.out
      have HX5 := Lib.hid hx5
      have HR5 := Lib.hid hr5
      have HB5 := Lib.hid (HB4.out.trans (hb5.mono HB4.out.size))
      clear hr5 hb5 c0 c1 hx5
      have HC := Lib.hid (canonEncode false (keyJ s t) _ (w5.alloc (.cells #[.int .u8 5, .int .i64 0, .string { data := #[] }, .slice an 2 cn, .slice ai 2 ci] 29)) (keyJ_wt (by omega) (by omega)) (HR5.out.below ((Below.refl _ _).alloc (Nat.le_refl _) _) (Nat.le_refl _) (Nat.zero_le _) (by simp)) (fun _ => keyJ_form HKF.out) (fun h => by cases h))
      unfold CanonPost at HC
      rw [keyJ_may HKF.out, keyJ_enc HKF.out, if_pos rfl, if_pos rfl, ← HFM.out] at HC
      go_wp2_with fail
      refine HC.out.mono ?_
      clear HC
      rintro e w6 ⟨rfl, hb6⟩
      have hx6 : w6.heap[w.heap.size]? = some (.cells #[.string s, .string t] 23 (0, 0)) := by rw [hb6.block _ (by have := heap_lt HX5.out; simp; omega), Below.heap_alloc _ _ _ (heap_lt HX5.out)]; exact HX5.out
      have HB6 := Lib.hid ((HB5.out.alloc HB5.out.size _).trans (hb6.mono (by have := HB5.out.size; simp; omega)))
      have c0 : w6.cell? ⟨w.heap.size, 0, none⟩ = some (.string s) := box_cell hx6 rfl
      have c1 : w6.cell? ⟨w.heap.size, 1, none⟩ = some (.string t) := box_cell hx6 rfl
      clear hb6 hx6 HX2 HX3 HX4 HX5 HB0 HX0
      have hcmp : (FM.toList == ({ data := #[123, 34, 112, 117, 98, 108, 105, 99, 34, 58, 34] } ++ t ++ { data := #[34, 44, 34, 115, 99, 104, 101, 109, 101, 34, 58, 34] } ++ s ++ { data := #[34, 125] } : ByteArray).toList) = true := by
        rw [beq_iff_eq, HFM.out, ByteArray.toList_eq, ByteArray.toList_eq]
        simp [keyForm, keyF1, keyF2]
      have hidz : ((ID.size : Int) == 64) = true := by
        have : ID.size = 64 := by rw [HID.out]; show (shaHex _).toArray.size = 64; rw [List.size_toArray, shaHex_length]
        simp; omega
      have HD := Lib.hid (digest FM w6 (by rw [HFM.out]; show (keyForm s.data.toList t.data.toList).toArray.size ≤ _; rw [List.size_toArray, keyForm_len, toList_length, toList_length]; omega) (HT.out.below HB6.out))
      rw [show (⟨(shaHex FM.data.toList).toArray⟩ : ByteArray) = ID by rw [HID.out, HFM.out]] at HD
      have HHX := Lib.hid (show allHex ID.data.toList = true by rw [HID.out]; exact allHex_sha _)
      have hids : ID.size ≤ 9223372036854775807 := by
        have : ID.size = 64 := by rw [HID.out]; show (shaHex _).toArray.size = 64; rw [List.size_toArray, shaHex_length]
        omega
      go_wp2_with fail
      refine HD.out.mono ?_
      clear HD
      rintro e w7 ⟨rfl, hb7⟩
      have HB7 := Lib.hid (HB6.out.trans (hb7.mono HB6.out.size))
      have HH := Lib.hid (hexIs ID w7 hids)
      rw [HHX.out] at HH
      clear hb7
      go_wp2_with fail
      refine HH.out.mono ?_
      rintro e w8 ⟨rfl, rfl⟩
      go_wp2
      go_ret
      exact ⟨rfl, HB7.out⟩

end Go.Proofs.YtcahpjejpimdhaaGreatDoor

namespace Go.Proofs.YtcahpjejpimdhaaGreatDoor
open Go.RowKit

/-- A value that lies in a row of one. -/
theorem vals_one {w : World} {hi g T : Nat} {v : JV} {c0 c1 c2 c3 c4 : Value} (h : w.heap[g]? = some (.cells #[c0, c1, c2, c3, c4] T (0, 0))) (hg : g < hi) (hR : Rep w 0 hi v (.agg #[c0, c1, c2, c3, c4])) : ValsAt w 0 hi (some ⟨g, 0, none⟩) [v] := by
  refine .inr ⟨g, 0, rfl, Nat.zero_le _, hg, ⟨_, _, _, h, fun _ => rfl⟩, ?_⟩
  unfold RepL RepL
  exact ⟨⟨c0, c1, c2, c3, c4, box_cell h rfl, box_cell h rfl, box_cell h rfl, box_cell h rfl, box_cell h rfl, by simp [World.frozen?, h], hR⟩, trivial⟩

set_option maxHeartbeats 1000000 in
set_option maxRecDepth 100000 in
theorem lawKeyReads (v : JV) (x : Value) (w : World) (hR : Rep w 0 w.heap.size v x) (hT : Tabs w) :
    Calls Tryz.prog 4 #[x] w fun e w' => e = .returned (.bool true) ∧ Below w.heap.size w w' := by
  obtain ⟨an, cn, ai, ci, rfl, h1, h2, h3, h4⟩ := hR.parts
  have HT := Lib.hid hT
  have HR := Lib.hid hR
  clear h1 h2 h3 h4 hR hT
  have HAW := Lib.hid (show ∀ w', Below w.heap.size w w' → Calls Tryz.prog 14 #[] w' (fun e w'' => e = .returned (.bool true) ∧ Below w.heap.size w w'') from fun w' h => by
    refine (lawAwake w' (HT.out.below h)).mono ?_
    rintro e w'' ⟨rfl, hb⟩
    exact ⟨rfl, h.trans (hb.mono h.size)⟩)
  obtain ⟨W0, hW0⟩ : ∃ W0, W0 = (w.alloc (.cells #[.int .u8 v.kind, .int .i64 v.n, .string v.t, .slice an v.names.length cn, .slice ai v.items.length ci] 29)).alloc (.cells #[.int .u8 v.kind, .int .i64 v.n, .string v.t, .slice an v.names.length cn, .slice ai v.items.length ci] 29) := ⟨_, rfl⟩
  have HB0 := Lib.hid (show Below w.heap.size w W0 by rw [hW0]; exact ((Below.refl _ _).alloc (Nat.le_refl _) _).alloc (by simp) _)
  have hz0 : W0.heap.size = w.heap.size + 2 := by rw [hW0]; simp
  have HX0 := Lib.hid (show W0.heap[w.heap.size]? = some (.cells #[.int .u8 v.kind, .int .i64 v.n, .string v.t, .slice an v.names.length cn, .slice ai v.items.length ci] 29 (0, 0)) by rw [hW0, Below.heap_alloc _ _ _ (by simp)]; exact heap_alloc_new w _)
  have HL := Lib.hid (show Calls Tryz.prog 22 #[.slice (some ⟨w.heap.size + 1, 0, none⟩) 1 1] W0 (LongPost [v] W0) from
    lawLong [v] (some ⟨w.heap.size + 1, 0, none⟩) 1 W0 (vals_one (by
      rw [hW0]
      have := heap_alloc_new (w.alloc (.cells #[.int .u8 v.kind, .int .i64 v.n, .string v.t, .slice an v.names.length cn, .slice ai v.items.length ci] 29)) (.cells #[.int .u8 v.kind, .int .i64 v.n, .string v.t, .slice an v.names.length cn, .slice ai v.items.length ci] 29)
      rwa [show (w.alloc (.cells #[.int .u8 v.kind, .int .i64 v.n, .string v.t, .slice an v.names.length cn, .slice ai v.items.length ci] 29)).heap.size = w.heap.size + 1 by simp] at this) (by omega) (HR.out.below HB0.out (Nat.le_refl _) (Nat.le_refl _) (by omega))))
  have HW0 := Lib.hid hW0
  have HZ0 := Lib.hid hz0
  clear hW0 hz0
  go_enter Tryz.func4, Tryz.ntmps4
  go_wp2_with fail
  rw [← HW0.out]
  refine HL.out.mono ?_
  clear HL HW0
  rintro e w1 ⟨b, rfl, hlong, hw1⟩
  subst hw1
  cases b
  · have hwt : v.wt ≤ 4294967296 := by have := hlong rfl; simp [JV.wts] at this; omega
    clear hlong
    have c0 : W0.cell? ⟨w.heap.size, 0, none⟩ = some (.int .u8 v.kind) := box_cell HX0.out rfl
    have c1 : W0.cell? ⟨w.heap.size, 1, none⟩ = some (.int .i64 v.n) := box_cell HX0.out rfl
    have c2 : W0.cell? ⟨w.heap.size, 2, none⟩ = some (.string v.t) := box_cell HX0.out rfl
    have c3 : W0.cell? ⟨w.heap.size, 3, none⟩ = some (.slice an v.names.length cn) := box_cell HX0.out rfl
    have c4 : W0.cell? ⟨w.heap.size, 4, none⟩ = some (.slice ai v.items.length ci) := box_cell HX0.out rfl
    have HKA := Lib.hid (keyOfW v _ W0 w.heap.size hwt (by have := HZ0.out; omega) (HR.out.below HB0.out (Nat.le_refl _) (Nat.le_refl _) (Nat.le_refl _)))
    unfold KeyOfPost at HKA
    obtain ⟨K, hK⟩ : ∃ K, K = keyOfJ v := ⟨_, rfl⟩
    rw [← hK] at HKA
    have HKE := Lib.hid hK
    clear hK
    obtain ⟨⟨ks, kp⟩, ke⟩ := K
    go_wp2_with fail
    refine HKA.out.mono ?_
    clear HKA c0 c1 c2 c3 c4
    rintro e w2 ⟨rfl, hb2⟩
    have hz2 : w.heap.size + 2 ≤ w2.heap.size := by have := hb2.size; have := HZ0.out; omega
    obtain ⟨W2, hW2⟩ : ∃ W2, W2 = w2.alloc (.cells #[.string ks, .string kp] 23) := ⟨_, rfl⟩
    have HB2 := Lib.hid (show Below w.heap.size w W2 by rw [hW2]; exact (HB0.out.trans (hb2.mono (by have := HZ0.out; omega))).alloc (by omega) _)
    have HX2 := Lib.hid (show W2.heap[w.heap.size]? = some (.cells #[.int .u8 v.kind, .int .i64 v.n, .string v.t, .slice an v.names.length cn, .slice ai v.items.length ci] 29 (0, 0)) by
      rw [hW2, Below.heap_alloc _ _ _ (by omega), hb2.block _ (by have := HZ0.out; omega)]; exact HX0.out)
    have HY2 := Lib.hid (show W2.heap[w2.heap.size]? = some (.cells #[.string ks, .string kp] 23 (0, 0)) by rw [hW2]; exact heap_alloc_new w2 _)
    have c0 : W2.cell? ⟨w.heap.size, 0, none⟩ = some (.int .u8 v.kind) := box_cell HX2.out rfl
    have c1 : W2.cell? ⟨w.heap.size, 1, none⟩ = some (.int .i64 v.n) := box_cell HX2.out rfl
    have c2 : W2.cell? ⟨w.heap.size, 2, none⟩ = some (.string v.t) := box_cell HX2.out rfl
    have c3 : W2.cell? ⟨w.heap.size, 3, none⟩ = some (.slice an v.names.length cn) := box_cell HX2.out rfl
    have c4 : W2.cell? ⟨w.heap.size, 4, none⟩ = some (.slice ai v.items.length ci) := box_cell HX2.out rfl
    rw [hW2] at c0 c1 c2 c3 c4
    have HW2 := Lib.hid hW2
    have HKB := Lib.hid (ref14Of v _ W2 hwt (HR.out.below HB2.out (Nat.le_refl _) (Nat.le_refl _) HB2.out.size))
    unfold KeyOfPost at HKB
    rw [← HKE.out] at HKB
    clear hb2 hW2 HX0
    go_wp2_with fail
    clear c0 c1 c2 c3 c4
    rw [← HW2.out]
    refine HKB.out.mono ?_
    clear HKB HW2
    rintro e w3 ⟨rfl, hb3⟩
    have hz3 : w2.heap.size < w3.heap.size := Nat.lt_of_lt_of_le (heap_lt HY2.out) hb3.size
    have HB3 := Lib.hid ((HB2.out.trans (hb3.mono HB2.out.size)).alloc (by have := HB2.out.size; have := hb3.size; omega) (.cells #[.string ks, .string kp] 23))
    have hy3 : (w3.alloc (.cells #[.string ks, .string kp] 23)).heap[w2.heap.size]? = some (.cells #[.string ks, .string kp] 23 (0, 0)) := by rw [Below.heap_alloc _ _ _ hz3, hb3.block _ (heap_lt HY2.out)]; exact HY2.out
    have d0 : (w3.alloc (.cells #[.string ks, .string kp] 23)).cell? ⟨w2.heap.size, 0, none⟩ = some (.string ks) := box_cell hy3 rfl
    have d1 : (w3.alloc (.cells #[.string ks, .string kp] 23)).cell? ⟨w2.heap.size, 1, none⟩ = some (.string kp) := box_cell hy3 rfl
    clear hb3 hy3
    go_wp2_with fail
    refine (HAW.out _ HB3.out).mono ?_
    rintro e w4 ⟨rfl, hb4⟩
    go_wp2
    go_ret
    exact ⟨rfl, hb4⟩
  · clear hlong
    go_wp2_with fail
    refine (HAW.out _ HB0.out).mono ?_
    rintro e w2 ⟨rfl, hb2⟩
    go_wp2
    go_ret
    exact ⟨rfl, hb2⟩

end Go.Proofs.YtcahpjejpimdhaaGreatDoor
