/- The contract of legatelaw14.awake: the examples are as they are told. -/
import Derived.Test.YtcahpjejpimdhaaGreatDoorZt220
import Derived.Test.YtcahpjejpimdhaaGreatDoorZt215
import Derived.Test.YtcahpjejpimdhaaGreatDoorZt218

namespace Go.Proofs.YtcahpjejpimdhaaGreatDoor
open Go.RowKit

theorem objectTwo (t s : ByteArray) (w : World) (ht : t.size ≤ 4096) (hs : s.size ≤ 4096) (h0 : 0 < t.size) (h1 : 0 < s.size) :
    Calls Tryz.prog 41 #[.string t, .string s] w (ObjectPost [pubN, schN] [txtJ t, txtJ s] w) := by
  have := lawObject t s w ht hs h0
  rwa [if_neg (by omega), if_neg (by omega)] at this
theorem objectOne (t : ByteArray) (w : World) (ht : t.size ≤ 4096) (h0 : 0 < t.size) :
    Calls Tryz.prog 41 #[.string t, .string { data := #[] }] w (ObjectPost [pubN] [txtJ t] w) := by
  have := lawObject t { data := #[] } w ht (by decide) h0
  have e : ({ data := #[] } : ByteArray).size = 0 := rfl
  rwa [if_pos e, if_pos e] at this
theorem seen_txt (lo : Nat) (l : List JV) (h : ∀ x ∈ l, x.items = []) : ∀ k (hk : k < l.length), Seen lo l[k] := fun k hk => .inr fun j hj => by
  have := h _ (List.getElem_mem hk); rw [this] at hj; simp at hj

set_option maxHeartbeats 1000000 in
set_option maxRecDepth 100000 in
theorem lawAwake (w : World) (hT : Tabs w) : Calls Tryz.prog 14 #[] w fun e w' => e = .returned (.bool true) ∧ Below w.heap.size w w' := by
  have HT := Lib.hid hT
  clear hT
  obtain ⟨ID, hID⟩ : ∃ ID : ByteArray, ID = ⟨(shaHex [123, 34, 112, 117, 98, 108, 105, 99, 34, 58, 34, 48, 48, 102, 102, 34, 44, 34, 115, 99, 104, 101, 109, 101, 34, 58, 34, 101, 100, 50, 53, 53, 49, 57, 34, 125]).toArray⟩ := ⟨_, rfl⟩
  have hidz : ((ID.size : Int) == 64) = true := by
    have : ID.size = 64 := by rw [hID]; show (shaHex _).toArray.size = 64; rw [List.size_toArray, shaHex_length]
    simp; omega
  have HID := Lib.hid hID
  clear hID
  go_enter Tryz.func14, Tryz.ntmps14
  go_wp2_with fail
  refine (lawEx _).mono ?_
  rintro e w1 ⟨rfl, hb1⟩
  have HB1 := Lib.hid hb1
  clear hb1
  go_wp2_with fail
  refine (keyValue_yes exS exP w1 (by decide) (by decide) ex_ok).mono ?_
  rintro e w2 ⟨an, cn, ai, ci, rfl, hr2, hb2⟩
  have HR2 := Lib.hid hr2
  have HB2 := Lib.hid (HB1.out.trans (hb2.mono HB1.out.size))
  clear hr2 hb2
  have HC := Lib.hid (canonEncode false (keyJ exS exP) _ (w2.alloc (.cells #[.int .u8 5, .int .i64 0, .string { data := #[] }, .slice an 2 cn, .slice ai 2 ci] 29)) (keyJ_wt (by decide) (by decide)) (HR2.out.below ((Below.refl _ _).alloc (Nat.le_refl _) _) (Nat.le_refl _) (Nat.zero_le _) (by simp)) (fun _ => keyJ_form ex_ok) (fun h => by cases h))
  unfold CanonPost at HC
  rw [keyJ_may ex_ok, keyJ_enc ex_ok, ex_form] at HC
  go_wp2_with fail
  refine HC.out.mono ?_
  clear HC
  rintro e w3 ⟨rfl, hb3⟩
  have HB3 := Lib.hid ((HB2.out.alloc HB2.out.size _).trans (hb3.mono (by have := HB2.out.size; simp; omega)))
  clear hb3
  go_wp2_with fail
  refine (lawEx _).mono ?_
  rintro e w4 ⟨rfl, hb4⟩
  have HB4 := Lib.hid (HB3.out.trans (hb4.mono HB3.out.size))
  clear hb4
  have HI := Lib.hid (keyID exS exP w4 (by decide) (by decide) (HT.out.below HB4.out))
  unfold KeyIdPost keyId at HI
  rw [ex_ok, if_pos rfl, if_pos rfl, ex_form, ← HID.out] at HI
  go_wp2_with fail
  refine HI.out.mono ?_
  clear HI
  rintro e w5 ⟨rfl, hb5⟩
  have HB5 := Lib.hid (HB4.out.trans (hb5.mono HB4.out.size))
  clear hb5
  go_wp2_with fail
  refine (objectTwo exP exS w5 (by decide) (by decide) (by decide) (by decide)).mono ?_
  rintro e w6 ⟨an6, cn6, ai6, ci6, rfl, hr6, hb6⟩
  have HO := Lib.hid (keyOf (keyJ exS exP) _ w6 w5.heap.size w6.heap.size (keyJ_wt (by decide) (by decide)) (Nat.le_refl _) hr6 (fun _ _ => seen_txt _ _ (fun x hx => by
    have : x = txtJ exP ∨ x = txtJ exS := by simpa [keyJ, JV.items] using hx
    rcases this with rfl | rfl <;> rfl)))
  unfold KeyOfPost at HO
  rw [keyOf_keyJ ex_ok] at HO
  have HB6 := Lib.hid (HB5.out.trans (hb6.mono HB5.out.size))
  clear hr6 hb6
  go_wp2_with fail
  refine HO.out.mono ?_
  clear HO
  rintro e w7 ⟨rfl, hb7⟩
  have HB7 := Lib.hid ((HB6.out.trans (hb7.mono HB6.out.size)).alloc (by have := HB6.out.size; have := hb7.size; omega) (.cells #[.string exS, .string exP] 23))
  clear hb7
  go_wp2_with fail
  refine (objectOne exP _ (by decide) (by decide)).mono ?_
  rintro e w8 ⟨an8, cn8, ai8, ci8, rfl, hr8, hb8⟩
  have HO := Lib.hid (keyOf (oneJ exP) _ w8 _ w8.heap.size (by decide) (Nat.le_refl _) hr8 (fun _ _ => seen_txt _ _ (fun x hx => by
    have : x = txtJ exP := by simpa [oneJ, JV.items] using hx
    rcases this with rfl; rfl)))
  unfold KeyOfPost at HO
  rw [keyOf_oneJ (key_txt ex_ok).2.1] at HO
  have HB8 := Lib.hid (HB7.out.trans (hb8.mono HB7.out.size))
  have hx8 : w8.heap[w7.heap.size]? = some (.cells #[.string exS, .string exP] 23 (0, 0)) := by rw [hb8.block _ (by simp)]; exact heap_alloc_new _ _
  have hz8 : w7.heap.size < w8.heap.size := by have := hb8.size; simp at this; omega
  have HX8 := Lib.hid hx8
  clear hr8 hb8 hx8
  go_wp2_with fail
  refine HO.out.mono ?_
  clear HO
  rintro e w9 ⟨rfl, hb9⟩
  have HB9 := Lib.hid ((HB8.out.trans (hb9.mono HB8.out.size)).alloc (by have := HB8.out.size; have := hb9.size; omega) (.cells #[.string { data := #[] }, .string { data := #[] }] 23))
  have hx9 : (w9.alloc (.cells #[.string { data := #[] }, .string { data := #[] }] 23)).heap[w7.heap.size]? = some (.cells #[.string exS, .string exP] 23 (0, 0)) := by
    rw [Below.heap_alloc _ _ _ (by have := hb9.size; omega), hb9.block _ hz8]; exact HX8.out
  have HX9 := Lib.hid hx9
  clear hb9 hx9
  have HT9 := Lib.hid (HT.out.below HB9.out)
  go_wp2_with fail
  clear HB1 HB2 HB3 HB4 HB5 HB6 HB7 HB8 HR2 HX8 HT
  generalize (w9.alloc (.cells #[.string { data := #[] }, .string { data := #[] }] 23)) = W at HB9 HX9 HT9 ⊢
  have hzw : w7.heap.size < W.heap.size := heap_lt HX9.out
  generalize w7.heap.size = kb at HX9 hzw ⊢
  have HC := Lib.hid (show ∀ w' : World, Below W.heap.size W w' → w'.cell? ⟨kb, 0, none⟩ = some (.string { data := #[101, 100, 50, 53, 53, 49, 57] }) ∧ w'.cell? ⟨kb, 1, none⟩ = some (.string { data := #[48, 48, 102, 102] }) from fun w' h =>
    ⟨by rw [h.cell hzw]; exact box_cell HX9.out rfl, by rw [h.cell hzw]; exact box_cell HX9.out rfl⟩)
  have HD := Lib.hid (show ∀ w' : World, Below W.heap.size W w' → Calls Tryz.prog 26 #[.string { data := #[123, 34, 112, 117, 98, 108, 105, 99, 34, 58, 34, 48, 48, 102, 102, 34, 44, 34, 115, 99, 104, 101, 109, 101, 34, 58, 34, 101, 100, 50, 53, 53, 49, 57, 34, 125] }] w' (fun e w'' => e = .returned (.string ID) ∧ Below W.heap.size W w'' ∧ w''.cell? ⟨kb, 0, none⟩ = some (.string { data := #[101, 100, 50, 53, 53, 49, 57] }) ∧ w''.cell? ⟨kb, 1, none⟩ = some (.string { data := #[48, 48, 102, 102] })) from fun w' h => by
    refine (digest _ w' (by decide) (HT9.out.below h)).mono ?_
    rintro e w'' ⟨rfl, hb⟩
    have hb2 := h.trans (hb.mono h.size)
    exact ⟨by rw [HID.out], hb2, HC.out _ hb2⟩)
  have HE := Lib.hid (show ∀ w' : World, Below W.heap.size W w' → Calls Tryz.prog 43 #[] w' (fun e w'' => e = .returned (.agg #[.string { data := #[101, 100, 50, 53, 53, 49, 57] }, .string { data := #[48, 48, 102, 102] }]) ∧ Below W.heap.size W w'' ∧ w''.cell? ⟨kb, 0, none⟩ = some (.string { data := #[101, 100, 50, 53, 53, 49, 57] }) ∧ w''.cell? ⟨kb, 1, none⟩ = some (.string { data := #[48, 48, 102, 102] })) from fun w' h => by
    refine (lawEx w').mono ?_
    rintro e w'' ⟨rfl, hb⟩
    have hb2 := h.trans (hb.mono h.size)
    exact ⟨rfl, hb2, HC.out _ hb2⟩)
  have HM := Lib.hid (show ∀ w' : World, Below W.heap.size W w' → Calls Tryz.prog 20 #[.agg #[.string { data := #[101, 100, 50, 53, 53, 49, 57] }, .string { data := #[48, 102, 48] }]] w' (fun e w'' => e = .returned (.bool false) ∧ Below W.heap.size W w'' ∧ w''.cell? ⟨kb, 0, none⟩ = some (.string { data := #[101, 100, 50, 53, 53, 49, 57] }) ∧ w''.cell? ⟨kb, 1, none⟩ = some (.string { data := #[48, 48, 102, 102] })) from fun w' h => by
    refine (keyMay _ _ w' (by decide) (by decide)).mono ?_
    rintro e w'' ⟨rfl, hb⟩
    have hb2 := h.trans (hb.mono h.size)
    exact ⟨ret_bool ex_bad, hb2, HC.out _ hb2⟩)
  have hbz : Below W.heap.size W W.drew := (Below.refl _ _).drew
  obtain ⟨q0, q1⟩ := HC.out W.drew hbz
  go_region_held3 (fun w' => w'.cell? ⟨kb, 0, none⟩ = some (.string { data := #[101, 100, 50, 53, 53, 49, 57] }) ∧ w'.cell? ⟨kb, 1, none⟩ = some (.string { data := #[48, 48, 102, 102] })) (first | (with_reducible exact ⟨q0, q1⟩) | (go_keep; done)) (first | (go_at_call 26; (with_reducible refine (HD.out _ hbz).mono ?_); rintro e w2 ⟨rfl, hbz, q0, q1⟩) | (go_at_call 43; (with_reducible refine (HE.out _ hbz).mono ?_); rintro e w2 ⟨rfl, hbz, q0, q1⟩) | (go_at_call 20; (with_reducible refine (HM.out _ hbz).mono ?_); rintro e w2 ⟨rfl, hbz, q0, q1⟩))
  go_wp2
  go_ret
  exact ⟨rfl, HB9.out.trans (hbz.mono HB9.out.size)⟩

end Go.Proofs.YtcahpjejpimdhaaGreatDoor
