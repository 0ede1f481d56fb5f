/- The contract of the law KeyForm: it returns true, whatever the key. The contracts of key.entryOf and of (key.entry).compare. slices.SortFunc of entries: the same ones, by their IDs. Key tables, in plain words: what is refused, and what a table is; rows of entries, and how they lie. No program in sight. slices.SortFunc of no entries. -/
import Derived.Test.YtcahpjejpimdhaaGreatDoorZt221
import Derived.Test.YtcahpjejpimdhaaGreatDoorZt218
import Derived.Shelf.SlSortCmp.WholeK
import Derived.Test.YtcahpjejpimdhaaGreatDoorZt201

namespace Go.Proofs.YtcahpjejpimdhaaGreatDoor
open Go.RowKit

theorem short_iff {s t : ByteArray} : shortK s t = true ↔ s.size ≤ 300 ∧ t.size ≤ 300 := by unfold shortK; simp

theorem isHex_char (n : Nat) (h : n < 16) : isHex (hexChar n) = true := by
  have : ∀ m : Fin 16, isHex (hexChar m.val) = true := by decide
  exact this ⟨n, h⟩
theorem allHex_enc : ∀ l : List UInt8, allHex (hexEnc l) = true
  | [] => rfl
  | c :: r => by
    have h := allHex_enc r
    have hc : c.toNat < 256 := c.toNat_lt
    unfold allHex at h ⊢
    simp only [hexEnc, List.all_cons, Bool.and_eq_true]
    exact ⟨isHex_char _ (by omega), isHex_char _ (by omega), h⟩
theorem allHex_sha (l : List UInt8) : allHex (shaHex l) = true := allHex_enc _

set_option maxHeartbeats 1000000 in
set_option maxRecDepth 100000 in
theorem lawKeyForm (s t : ByteArray) (w : World) (hT : Tabs w) :
    Calls Tryz.prog 5 #[.agg #[.string s, .string t]] w fun e w' => e = .returned (.bool true) ∧ Below w.heap.size w w' := by
  have HT := Lib.hid hT
  clear hT
  have HB0 := Lib.hid (show Below w.heap.size w (w.alloc (.cells #[.string s, .string t] 23)) from (Below.refl _ _).alloc (Nat.le_refl _) _)
  have HX0 := Lib.hid (heap_alloc_new w (.cells #[.string s, .string t] 23))
  have HSH := Lib.hid (lawShort s t (w.alloc (.cells #[.string s, .string t] 23)))
  cases hsh : shortK s t
  · rw [hsh] at HSH
    clear hsh
    go_enter Tryz.func5, Tryz.ntmps5
    go_wp2_with fail
    refine HSH.out.mono ?_
    rintro e w1 ⟨rfl, hb1⟩
    have HB1 := Lib.hid (HB0.out.trans (hb1.mono (by simp)))
    clear hb1
    go_wp2_with fail
    refine (lawAwake w1 (HT.out.below HB1.out)).mono ?_
    rintro e w2 ⟨rfl, hb2⟩
    have HB2 := Lib.hid (HB1.out.trans (hb2.mono HB1.out.size))
    clear hb2
    go_wp2
    go_ret
    exact ⟨rfl, HB2.out⟩
  · obtain ⟨hs, ht⟩ := short_iff.1 hsh
    rw [hsh] at HSH
    clear hsh
    go_enter Tryz.func5, Tryz.ntmps5
    go_wp2_with fail
    refine HSH.out.mono ?_
    rintro e w1 ⟨rfl, hb1⟩
    have hx1 : w1.heap[w.heap.size]? = some (.cells #[.string s, .string t] 23 (0, 0)) := by rw [hb1.block _ (by simp)]; exact HX0.out
    have HX1 := Lib.hid hx1
    have HB1 := Lib.hid (HB0.out.trans (hb1.mono (by simp)))
    clear hb1 hx1
    go_wp2_with fail
    refine (lawAwake w1 (HT.out.below HB1.out)).mono ?_
    rintro e w2 ⟨rfl, hb2⟩
    have hx2 : w2.heap[w.heap.size]? = some (.cells #[.string s, .string t] 23 (0, 0)) := by rw [hb2.block _ (heap_lt HX1.out)]; exact HX1.out
    have HX2 := Lib.hid hx2
    have HB2 := Lib.hid (HB1.out.trans (hb2.mono HB1.out.size))
    have c0 : w2.cell? ⟨w.heap.size, 0, none⟩ = some (.string s) := box_cell hx2 rfl
    have c1 : w2.cell? ⟨w.heap.size, 1, none⟩ = some (.string t) := box_cell hx2 rfl
    clear hb2 hx2 HX1 HB1
    have HI := Lib.hid (keyID s t w2 (by omega) (by omega) (HT.out.below HB2.out))
    unfold KeyIdPost keyId at HI
    cases hk : keyOk s.data.toList t.data.toList
    · rw [hk] at HI
      have HKF := Lib.hid hk
      clear hk
      simp only [Bool.false_eq_true, if_false] at HI
      go_wp2_with fail
      refine HI.out.mono ?_
      clear HI c0 c1
      rintro e w3 ⟨rfl, hb3⟩
      have hx3 : w3.heap[w.heap.size]? = some (.cells #[.string s, .string t] 23 (0, 0)) := by rw [hb3.block _ (heap_lt HX2.out)]; exact HX2.out
      have HB3 := Lib.hid (HB2.out.trans (hb3.mono HB2.out.size))
      have c0 : w3.cell? ⟨w.heap.size, 0, none⟩ = some (.string s) := box_cell hx3 rfl
      have c1 : w3.cell? ⟨w.heap.size, 1, none⟩ = some (.string t) := box_cell hx3 rfl
      have HM := Lib.hid (keyMay s t w3 (by omega) (by omega))
      rw [HKF.out] at HM
      clear hb3 hx3
      go_wp2_with fail
      refine HM.out.mono ?_
      clear HM
      rintro e w4 ⟨rfl, hb4⟩
      have HB4 := Lib.hid (HB3.out.trans (hb4.mono HB3.out.size))
      clear hb4
      go_wp2
      go_ret
      exact ⟨rfl, HB4.out⟩
    · have HKF := Lib.hid hk
      rw [hk, if_pos rfl, if_pos rfl] at HI
      clear hk
      obtain ⟨ID, hID⟩ : ∃ ID : ByteArray, ID = ⟨(shaHex (keyForm s.data.toList t.data.toList)).toArray⟩ := ⟨_, rfl⟩
      obtain ⟨FM, hFM⟩ : ∃ FM : ByteArray, FM = ⟨(keyForm s.data.toList t.data.toList).toArray⟩ := ⟨_, rfl⟩
      rw [← hID] at HI
      have HID := Lib.hid hID
      have HFM := Lib.hid hFM
      clear hID hFM
      go_wp2_with fail
      refine HI.out.mono ?_
      clear HI c0 c1
      rintro e w3 ⟨rfl, hb3⟩
      have hx3 : w3.heap[w.heap.size]? = some (.cells #[.string s, .string t] 23 (0, 0)) := by rw [hb3.block _ (heap_lt HX2.out)]; exact HX2.out
      have HX3 := Lib.hid hx3
      have HB3 := Lib.hid (HB2.out.trans (hb3.mono HB2.out.size))
      have c0 : w3.cell? ⟨w.heap.size, 0, none⟩ = some (.string s) := box_cell hx3 rfl
      have c1 : w3.cell? ⟨w.heap.size, 1, none⟩ = some (.string t) := box_cell hx3 rfl
      have HM := Lib.hid (keyMay s t w3 (by omega) (by omega))
      rw [HKF.out] at HM
      clear hb3 hx3
      go_wp2_with fail
      refine HM.out.mono ?_
      clear HM c0 c1
      rintro e w4 ⟨rfl, hb4⟩
      have hx4 : w4.heap[w.heap.size]? = some (.cells #[.string s, .string t] 23 (0, 0)) := by rw [hb4.block _ (heap_lt HX3.out)]; exact HX3.out
      have HX4 := Lib.hid hx4
      have HB4 := Lib.hid (HB3.out.trans (hb4.mono HB3.out.size))
      have c0 : w4.cell? ⟨w.heap.size, 0, none⟩ = some (.string s) := box_cell hx4 rfl
      have c1 : w4.cell? ⟨w.heap.size, 1, none⟩ = some (.string t) := box_cell hx4 rfl
      clear hb4 hx4
      go_wp2_with fail
      refine (keyValue_yes s t w4 (by omega) (by omega) HKF.out).mono ?_
      rintro e w5 ⟨an, cn, ai, ci, rfl, hr5, hb5⟩
      have hx5 : w5.heap[w.heap.size]? = some (.cells #[.string s, .string t] 23 (0, 0)) := by rw [hb5.block _ (heap_lt HX4.out)]; exact HX4.out
      have HX5 := Lib.hid hx5
      have HR5 := Lib.hid hr5
      have HB5 := Lib.hid (HB4.out.trans (hb5.mono HB4.out.size))
      clear hr5 hb5 c0 c1 hx5
      have HC := Lib.hid (canonEncode false (keyJ s t) _ (w5.alloc (.cells #[.int .u8 5, .int .i64 0, .string { data := #[] }, .slice an 2 cn, .slice ai 2 ci] 29)) (keyJ_wt (by omega) (by omega)) (HR5.out.below ((Below.refl _ _).alloc (Nat.le_refl _) _) (Nat.le_refl _) (Nat.zero_le _) (by simp)) (fun _ => keyJ_form HKF.out) (fun h => by cases h))
      unfold CanonPost at HC
      rw [keyJ_may HKF.out, keyJ_enc HKF.out, if_pos rfl, if_pos rfl, ← HFM.out] at HC
      go_wp2_with fail
      refine HC.out.mono ?_
      clear HC
      rintro e w6 ⟨rfl, hb6⟩
      have hx6 : w6.heap[w.heap.size]? = some (.cells #[.string s, .string t] 23 (0, 0)) := by rw [hb6.block _ (by have := heap_lt HX5.out; simp; omega), Below.heap_alloc _ _ _ (heap_lt HX5.out)]; exact HX5.out
      have HB6 := Lib.hid ((HB5.out.alloc HB5.out.size _).trans (hb6.mono (by have := HB5.out.size; simp; omega)))
      have c0 : w6.cell? ⟨w.heap.size, 0, none⟩ = some (.string s) := box_cell hx6 rfl
      have c1 : w6.cell? ⟨w.heap.size, 1, none⟩ = some (.string t) := box_cell hx6 rfl
      clear hb6 hx6 HX2 HX3 HX4 HX5 HB0 HX0
      have hcmp : (FM.toList == ({ data := #[123, 34, 112, 117, 98, 108, 105, 99, 34, 58, 34] } ++ t ++ { data := #[34, 44, 34, 115, 99, 104, 101, 109, 101, 34, 58, 34] } ++ s ++ { data := #[34, 125] } : ByteArray).toList) = true := by
        rw [beq_iff_eq, HFM.out, ByteArray.toList_eq, ByteArray.toList_eq]
        simp [keyForm, keyF1, keyF2]
      have hidz : ((ID.size : Int) == 64) = true := by
        have : ID.size = 64 := by rw [HID.out]; show (shaHex _).toArray.size = 64; rw [List.size_toArray, shaHex_length]
        simp; omega
      have HD := Lib.hid (digest FM w6 (by rw [HFM.out]; show (keyForm s.data.toList t.data.toList).toArray.size ≤ _; rw [List.size_toArray, keyForm_len, toList_length, toList_length]; omega) (HT.out.below HB6.out))
      rw [show (⟨(shaHex FM.data.toList).toArray⟩ : ByteArray) = ID by rw [HID.out, HFM.out]] at HD
      have HHX := Lib.hid (show allHex ID.data.toList = true by rw [HID.out]; exact allHex_sha _)
      have hids : ID.size ≤ 9223372036854775807 := by
        have : ID.size = 64 := by rw [HID.out]; show (shaHex _).toArray.size = 64; rw [List.size_toArray, shaHex_length]
        omega
      go_wp2_with fail
      refine HD.out.mono ?_
      clear HD
      rintro e w7 ⟨rfl, hb7⟩
      have HB7 := Lib.hid (HB6.out.trans (hb7.mono HB6.out.size))
      have HH := Lib.hid (hexIs ID w7 hids)
      rw [HHX.out] at HH
      clear hb7
      go_wp2_with fail
      refine HH.out.mono ?_
      rintro e w8 ⟨rfl, rfl⟩
      go_wp2
      go_ret
      exact ⟨rfl, HB7.out⟩

end Go.Proofs.YtcahpjejpimdhaaGreatDoor

namespace Go.Proofs.YtcahpjejpimdhaaGreatDoor
open Go.RowKit Go.Sort

def pick6 (v0 v1 v2 v3 v4 v5 : Value) : Nat → Value
  | 0 => v0 | 1 => v1 | 2 => v2 | 3 => v3 | 4 => v4 | _ => v5
theorem rowIs_box6 (w : World) (v0 v1 v2 v3 v4 v5 : Value) (t : Nat) : (w.alloc (.cells #[v0, v1, v2, v3, v4, v5] t)).rowIs w.heap.size t 6 (pick6 v0 v1 v2 v3 v4 v5) := rowIs_eq rfl
theorem row6_heap {w : World} {b t : Nat} {v0 v1 v2 v3 v4 v5 : Value} (h : w.rowIs b t 6 (pick6 v0 v1 v2 v3 v4 v5)) : w.heap[b]? = some (.cells #[v0, v1, v2, v3, v4, v5] t (0, 0)) := by
  obtain ⟨c, hc, hn, hf⟩ := h
  have e : c = #[v0, v1, v2, v3, v4, v5] := by
    apply Array.ext (by simp [hn])
    intro i h1 h2
    have := hf i (by omega)
    rw [Array.getElem?_eq_getElem h1] at this
    have h3 := Option.some.inj this
    rw [h3]
    rcases i with _ | _ | _ | _ | _ | _ | i <;> first | rfl | (simp at h2; omega)
  rw [hc, e]
theorem set6 {W : World} {b t : Nat} {f : Nat → Value} (v0 v1 v2 v3 v4 v5 : Value) (h : W.rowIs b t 6 f) :
    ((((((W.setCell ⟨b, 0, none⟩ v0).setCell ⟨b, 1, none⟩ v1).setCell ⟨b, 2, none⟩ v2).setCell ⟨b, 3, none⟩ v3).setCell ⟨b, 4, none⟩ v4).setCell ⟨b, 5, none⟩ v5).rowIs b t 6 (pick6 v0 v1 v2 v3 v4 v5) := by
  refine ((((((h.set 0 v0).set 1 v1).set 2 v2).set 3 v3).set 4 v4).set 5 v5).congr fun j hj => ?_
  rcases j with _ | _ | _ | _ | _ | _ | j <;> first | rfl | omega
theorem below6 {B : Nat} {a W : World} {b : Nat} (v0 v1 v2 v3 v4 v5 : Value) (h : Below B a W) (hb : B ≤ b) :
    Below B a ((((((W.setCell ⟨b, 0, none⟩ v0).setCell ⟨b, 1, none⟩ v1).setCell ⟨b, 2, none⟩ v2).setCell ⟨b, 3, none⟩ v3).setCell ⟨b, 4, none⟩ v4).setCell ⟨b, 5, none⟩ v5) :=
  (((((h.setCell hb v0).setCell hb v1).setCell hb v2).setCell hb v3).setCell hb v4).setCell hb v5
theorem heap6 {W : World} {b k : Nat} (v0 v1 v2 v3 v4 v5 : Value) (hk : k ≠ b) :
    ((((((W.setCell ⟨b, 0, none⟩ v0).setCell ⟨b, 1, none⟩ v1).setCell ⟨b, 2, none⟩ v2).setCell ⟨b, 3, none⟩ v3).setCell ⟨b, 4, none⟩ v4).setCell ⟨b, 5, none⟩ v5).heap[k]? = W.heap[k]? := by
  rw [Below.heap_setCell _ _ _ _ hk, Below.heap_setCell _ _ _ _ hk, Below.heap_setCell _ _ _ _ hk, Below.heap_setCell _ _ _ _ hk, Below.heap_setCell _ _ _ _ hk, Below.heap_setCell _ _ _ _ hk]

/-- The ID as a text. -/
def idOf (s t : ByteArray) : ByteArray := ⟨(keyId s.data.toList t.data.toList).toArray⟩
def EntNo (w : World) (e : Ending) (w' : World) : Prop :=
  e = .returned (.tuple #[.agg #[.string { data := #[] }, .int .u8 0, .int .i64 0, .string { data := #[] }, .slice none 0 0, .slice none 0 0], .int .i64 3]) ∧ Below w.heap.size w w'
def EntYes (s t : ByteArray) (w : World) (e : Ending) (w' : World) : Prop :=
  ∃ an cn ai ci, e = .returned (.tuple #[.agg #[.string (idOf s t), .int .u8 5, .int .i64 0, .string { data := #[] }, .slice an 2 cn, .slice ai 2 ci], .int .i64 0]) ∧
    Rep w' w.heap.size w'.heap.size (keyJ s t) (.agg #[.int .u8 5, .int .i64 0, .string { data := #[] }, .slice an 2 cn, .slice ai 2 ci]) ∧ Below w.heap.size w w'

set_option maxHeartbeats 400000 in
set_option maxRecDepth 100000 in
theorem entryOf_no (s t : ByteArray) (w : World) (hs : s.size ≤ 4294967) (ht : t.size ≤ 4294967) (hT : Tabs w) (hk : keyOk s.data.toList t.data.toList = false) :
    Calls Tryz.prog 70 #[.agg #[.string s, .string t]] w (EntNo w) := by
  have hW : Below w.heap.size w ((w.alloc (.cells #[.string s, .string t] 23)).alloc (.cells #[.string { data := #[] }, .int .u8 0, .int .i64 0, .string { data := #[] }, .slice none 0 0, .slice none 0 0] 96)) := ((Below.refl _ _).alloc (Nat.le_refl _) _).alloc (by simp) _
  have HI := Lib.hid (keyID s t ((w.alloc (.cells #[.string s, .string t] 23)).alloc (.cells #[.string { data := #[] }, .int .u8 0, .int .i64 0, .string { data := #[] }, .slice none 0 0, .slice none 0 0] 96)) hs ht (hT.below hW))
  unfold KeyIdPost keyId at HI
  rw [hk] at HI
  have hr0 := rowIs_box6 (w.alloc (.cells #[.string s, .string t] 23)) (.string { data := #[] }) (.int .u8 0) (.int .i64 0) (.string { data := #[] }) (.slice none 0 0) (.slice none 0 0) 96
  rw [show (w.alloc (.cells #[.string s, .string t] 23)).heap.size = w.heap.size + 1 by simp] at hr0
  have HR0 := Lib.hid hr0
  have HB0 := Lib.hid hW
  clear hk hr0 hW hT
  go_enter Tryz.func70, Tryz.ntmps70
  go_wp2_with fail
  refine HI.out.mono ?_
  rintro e w1 ⟨rfl, hb1⟩
  have hres := below_row hb1 HR0.out (by simp)
  have HRS := Lib.hid hres
  have HB1 := Lib.hid (HB0.out.trans (hb1.mono (by simp; omega)))
  have t0 := hres.cell (i := 0) (by decide); have t1 := hres.cell (i := 1) (by decide); have t2 := hres.cell (i := 2) (by decide); have t3 := hres.cell (i := 3) (by decide); have t4 := hres.cell (i := 4) (by decide); have t5 := hres.cell (i := 5) (by decide)
  have s0 := hres.frozen 0; have s1 := hres.frozen 1; have s2 := hres.frozen 2; have s3 := hres.frozen 3; have s4 := hres.frozen 4; have s5 := hres.frozen 5
  simp only [pick6] at t0 t1 t2 t3 t4 t5
  clear hres hb1
  go_wp2
  exact bodyPost_ret (results_row_tmp Tryz.results70 _ _ (w.heap.size + 1) 96 _ (0, 0) _ rfl (row6_heap (set6 _ _ _ _ _ _ HRS.out)) Tryz.underlying96 rfl (by kernel_rfl) _ rfl) rfl ⟨rfl, below6 _ _ _ _ _ _ HB1.out (by omega)⟩

set_option maxHeartbeats 400000 in
set_option maxRecDepth 100000 in
theorem entryOf_yes (s t : ByteArray) (w : World) (hs : s.size ≤ 4294967) (ht : t.size ≤ 4294967) (hT : Tabs w) (hk : keyOk s.data.toList t.data.toList = true) :
    Calls Tryz.prog 70 #[.agg #[.string s, .string t]] w (EntYes s t w) := by
  have hW : Below w.heap.size w ((w.alloc (.cells #[.string s, .string t] 23)).alloc (.cells #[.string { data := #[] }, .int .u8 0, .int .i64 0, .string { data := #[] }, .slice none 0 0, .slice none 0 0] 96)) := ((Below.refl _ _).alloc (Nat.le_refl _) _).alloc (by simp) _
  have HI := Lib.hid (keyID s t ((w.alloc (.cells #[.string s, .string t] 23)).alloc (.cells #[.string { data := #[] }, .int .u8 0, .int .i64 0, .string { data := #[] }, .slice none 0 0, .slice none 0 0] 96)) hs ht (hT.below hW))
  have HX0 := Lib.hid (show ((w.alloc (.cells #[.string s, .string t] 23)).alloc (.cells #[.string { data := #[] }, .int .u8 0, .int .i64 0, .string { data := #[] }, .slice none 0 0, .slice none 0 0] 96)).heap[w.heap.size]? = some (.cells #[.string s, .string t] 23 (0, 0)) by rw [Below.heap_alloc _ _ _ (by simp)]; exact heap_alloc_new w _)
  unfold KeyIdPost at HI
  rw [hk, if_pos rfl] at HI
  unfold EntYes idOf
  generalize (⟨(keyId s.data.toList t.data.toList).toArray⟩ : ByteArray) = ID at HI ⊢
  have HK := Lib.hid hk
  have hr0 := rowIs_box6 (w.alloc (.cells #[.string s, .string t] 23)) (.string { data := #[] }) (.int .u8 0) (.int .i64 0) (.string { data := #[] }) (.slice none 0 0) (.slice none 0 0) 96
  rw [show (w.alloc (.cells #[.string s, .string t] 23)).heap.size = w.heap.size + 1 by simp] at hr0
  have HR0 := Lib.hid hr0
  have HB0 := Lib.hid hW
  clear hk hr0 hW hT
  go_enter Tryz.func70, Tryz.ntmps70
  go_wp2_with fail
  refine HI.out.mono ?_
  clear HI
  rintro e w1 ⟨rfl, hb1⟩
  have HRS := Lib.hid (below_row hb1 HR0.out (by simp))
  have hx1 : w1.heap[w.heap.size]? = some (.cells #[.string s, .string t] 23 (0, 0)) := by rw [hb1.block _ (by simp; omega)]; exact HX0.out
  have hz1 : w.heap.size + 2 ≤ w1.heap.size := by have := hb1.size; simp at this; omega
  have HB1 := Lib.hid (HB0.out.trans (hb1.mono (by simp; omega)))
  have c0 : w1.cell? ⟨w.heap.size, 0, none⟩ = some (.string s) := box_cell hx1 rfl
  have c1 : w1.cell? ⟨w.heap.size, 1, none⟩ = some (.string t) := box_cell hx1 rfl
  have HV := Lib.hid (keyValue_yes s t w1 (by omega) (by omega) HK.out)
  clear hb1 HX0 HR0 HB0 hx1
  go_wp2_with fail
  refine HV.out.mono ?_
  clear HV
  rintro e w2 ⟨an, cn, ai, ci, rfl, hr2, hb2⟩
  have HR2 := Lib.hid (hr2.carry (w' := w2.alloc (.cells #[.int .u8 5, .int .i64 0, .string { data := #[] }, .slice an 2 cn, .slice ai 2 ci] 29)) (Nat.le_refl _) (Nat.le_refl _) (fun b _ h => Below.heap_alloc _ _ _ h))
  have hres := below_row (hb2.alloc hb2.size (.cells #[.int .u8 5, .int .i64 0, .string { data := #[] }, .slice an 2 cn, .slice ai 2 ci] 29)) HRS.out (by omega)
  have HB2 := Lib.hid (HB1.out.trans ((hb2.alloc hb2.size (.cells #[.int .u8 5, .int .i64 0, .string { data := #[] }, .slice an 2 cn, .slice ai 2 ci] 29)).mono (by omega)))
  have hz2 : w1.heap.size ≤ w2.heap.size := hb2.size
  have hz3 : ¬ (w.heap.size + 1 = w2.heap.size) := by omega
  have HR3 := Lib.hid hres
  have t0 := hres.cell (i := 0) (by decide); have t1 := hres.cell (i := 1) (by decide); have t2 := hres.cell (i := 2) (by decide); have t3 := hres.cell (i := 3) (by decide); have t4 := hres.cell (i := 4) (by decide); have t5 := hres.cell (i := 5) (by decide)
  have s0 := hres.frozen 0; have s1 := hres.frozen 1; have s2 := hres.frozen 2; have s3 := hres.frozen 3; have s4 := hres.frozen 4; have s5 := hres.frozen 5
  simp only [pick6] at t0 t1 t2 t3 t4 t5
  clear hres hb2 hr2 c0 c1
  go_wp2
  refine bodyPost_ret (results_row_tmp Tryz.results70 _ _ (w.heap.size + 1) 96 _ (0, 0) _ rfl (row6_heap (set6 _ _ _ _ _ _ HR3.out)) Tryz.underlying96 rfl (by kernel_rfl) _ rfl) rfl ⟨an, cn, ai, ci, rfl, ?_, below6 _ _ _ _ _ _ HB2.out (by omega)⟩
  exact Rep.carry (by omega) (show w2.heap.size ≤ _ by simp [World.setCell]) (fun j hj _ => heap6 _ _ _ _ _ _ (by omega)) _ _ HR2.out

theorem cmpEntry (x y : Mem) (W : World) : Calls Tryz.prog 72 #[.agg (encM x).toArray, .agg (encM y).toArray] W fun e w' => e = .returned (.int .i64 (cfM x y)) ∧ ∃ q os', w' = grow (W.drewN q) os' := by
  have hcon := fun W' => Tryz.strings_Compare x.name y.name W'
  unfold cfM encM
  generalize Lib.compareBytes x.name.data.toList y.name.data.toList = r at hcon ⊢
  go_enter Tryz.func72, Tryz.ntmps72
  go_wp2_with (go_at_call 81; refine (hcon _).mono ?_; rintro e w' ⟨rfl, rfl⟩)
  go_ret
  exact ⟨rfl, 0, _, by rw [alloc_eq_grow, alloc_eq_grow, grow_grow]; rfl⟩

end Go.Proofs.YtcahpjejpimdhaaGreatDoor

namespace Go.Proofs.YtcahpjejpimdhaaGreatDoor
open Go.RowKit Go.Shelf Go.Sort

theorem cmp_less : ∀ a b : List UInt8, decide (Lib.compareBytes a b < 0) = Op.bytesLess a b
  | [], [] => rfl
  | [], _ :: _ => rfl
  | _ :: _, [] => rfl
  | a :: ax, b :: bx => by
    unfold Lib.compareBytes Op.bytesLess
    by_cases h1 : a < b
    · simp [h1]
    · by_cases h2 : b < a
      · have : ¬ a = b := fun e => by subst e; exact h1 h2
        simp [h1, h2, this]
      · have e : a = b := UInt8.le_antisymm (UInt8.not_lt.1 h2) (UInt8.not_lt.1 h1)
        subst e
        rw [if_neg h1, if_neg h1, cmp_less ax bx]
        simp
theorem lt_bl (x y : Mem) : ltOf cfM x y = bl x.name y.name := by
  unfold ltOf cfM bl
  rw [cmp_less, ByteArray.toList_eq, ByteArray.toList_eq]
theorem bl_ntrans {a b c : ByteArray} (h : bl a b = false) (h' : bl b c = false) : bl a c = false := by
  cases h2 : bl a c
  · rfl
  · cases h3 : bl b a
    · rw [bl_tri h h3, h'] at h2; cases h2
    · rw [bl_trans h3 h2] at h'; cases h'
theorem swoM : SWO (ltOf cfM) where
  irrefl x := by rw [lt_bl]; exact bl_irrefl _
  trans x y z := by rw [lt_bl, lt_bl, lt_bl]; exact bl_trans
  ntrans x y z := by rw [lt_bl, lt_bl, lt_bl]; exact bl_ntrans

def EntSorted (d d' : Array Mem) : Prop := d'.size = d.size ∧ d'.toList.Perm d.toList ∧ ∀ i j, i < j → j < d.size → bl d'[j]!.name d'[i]!.name = false
def SortPost (blk off : Nat) (d : Array Mem) (w : World) (e : Ending) (w' : World) : Prop :=
  e = .returned (.tuple #[]) ∧ ∃ d', EntSorted d d' ∧ HoldsK encM 6 w' blk off d' ∧ Touch (· = blk) w w'

theorem sortEnt (blk off cap : Nat) (d : Array Mem) (w : World) (hH : HoldsK encM 6 w blk off d) (hblk : blk < w.heap.size) (h12 : d.size ≤ 4294967296) :
    Calls Tryz.prog 71 #[.slice (some ⟨blk, off, none⟩) d.size cap, .func (.func 72) #[] #[]] w (SortPost blk off d w) := by
  have eg : ∀ args w, (callFunc 72 args).run Tryz.prog w = .ok (.enter 72 args) w := enters_of Tryz.func72 (by kernel_rfl) rfl
  have hcon := AnyQ.slices_SortFunc sortEntry 6 Tryz.isAgg96 Tryz.sizeOf96 encM encM_len encM_one cfM swoM 72 #[] blk off cap d w eg (fun _ _ _ _ x y => cmpEntry x y _) hH hblk (by omega)
  refine hcon.mono ?_
  rintro e w' ⟨rfl, d', n, os, hp, hs, rfl⟩
  refine ⟨rfl, d', ⟨hp.1, ?_, fun i j hij hj => ?_⟩, holdsK_grow encM 6 _ _ _ _ _ (by simp [putRowK, Go.Sort.ahead]; exact hblk) (holdsK_putRowK encM 6 _ _ _ d _ (holdsK_ahead encM 6 _ _ _ _ _ hH) hp.1), touch_sortWorld⟩
  · have := hp.2.2
    have e1 : d'.extract 0 d.size = d' := by rw [← hp.1]; simp
    have e2 : d.extract 0 d.size = d := by simp
    rwa [e1, e2] at this
  · have := hs i j (Nat.zero_le _) hij hj
    rwa [lt_bl] at this

end Go.Proofs.YtcahpjejpimdhaaGreatDoor

namespace Go.Proofs.YtcahpjejpimdhaaGreatDoor
open Go.RowKit Go.Shelf Go.Sort

def ok2 (k : Key2) : Bool := keyOk k.1.data.toList k.2.data.toList
def id2 (k : Key2) : ByteArray := idOf k.1 k.2
def obj2 (k : Key2) : JV := keyJ k.1 k.2
def hasId (seen : List ByteArray) (x : ByteArray) : Bool := seen.any fun y => y.toList == x.toList
/-- Why a row of keys is refused, or 0. -/
def tabErr (seen : List ByteArray) : List Key2 → Int
  | [] => 0
  | k :: r => if ok2 k then (if hasId seen (id2 k) then 7 else tabErr (seen ++ [id2 k]) r) else 3
def tabE (l : List Key2) : Int := if 32 < l.length then 5 else tabErr [] l
def tabJ (m : List Key2) : JV := .mk 5 0 { data := #[] } (m.map id2) (m.map obj2)
def ids (l : List Key2) : List ByteArray := l.map id2

theorem hasId_iff (seen : List ByteArray) (x : ByteArray) : hasId seen x = true ↔ x ∈ seen := by
  unfold hasId
  rw [List.any_eq_true]
  constructor
  · rintro ⟨y, hy, e⟩; rw [← ba_ext (eq_of_beq e)]; exact hy
  · intro h; exact ⟨x, h, by simp⟩
theorem tabErr_cases (seen : List ByteArray) : ∀ l, tabErr seen l = 0 ∨ tabErr seen l = 3 ∨ tabErr seen l = 7
  | [] => .inl rfl
  | k :: r => by
    unfold tabErr
    split
    · split
      · exact .inr (.inr rfl)
      · exact tabErr_cases _ r
    · exact .inr (.inl rfl)
theorem tabErr_step (l : List Key2) (k : Nat) (h : k < l.length) : tabErr (ids (l.take k)) (l.drop k) = if ok2 l[k] then (if hasId (ids (l.take k)) (id2 l[k]) then 7 else tabErr (ids (l.take (k + 1))) (l.drop (k + 1))) else 3 := by
  rw [List.drop_eq_getElem_cons h, tabErr]
  have : ids (l.take k) ++ [id2 l[k]] = ids (l.take (k + 1)) := by unfold ids; rw [List.take_succ_eq_append_getElem h, List.map_append]; rfl
  rw [this]
/-- What is not refused: each key is one, and the IDs are unlike. -/
theorem tabErr_zero : ∀ (l : List Key2) (seen : List ByteArray), tabErr seen l = 0 ↔ (∀ k ∈ l, ok2 k = true) ∧ (∀ k ∈ l, id2 k ∉ seen) ∧ (ids l).Nodup
  | [], seen => by simp [tabErr, ids]
  | k :: r, seen => by
    unfold tabErr
    have ih := tabErr_zero r (seen ++ [id2 k])
    by_cases h1 : ok2 k = true
    · rw [if_pos h1]
      by_cases h2 : hasId seen (id2 k) = true
      · rw [if_pos h2]
        have := (hasId_iff _ _).1 h2
        constructor
        · intro h; cases h
        · rintro ⟨_, h, _⟩; exact absurd this (h k (List.mem_cons_self ..))
      · rw [if_neg h2, ih]
        have h3 : id2 k ∉ seen := fun h => h2 ((hasId_iff _ _).2 h)
        unfold ids
        rw [List.map_cons, List.nodup_cons]
        constructor
        · rintro ⟨a, b, c⟩
          refine ⟨fun x hx => ?_, fun x hx => ?_, fun hm => ?_, c⟩
          · rcases List.mem_cons.1 hx with rfl | hx
            · exact h1
            · exact a x hx
          · rcases List.mem_cons.1 hx with rfl | hx
            · exact h3
            · exact fun h => b x hx (List.mem_append_left _ h)
          · obtain ⟨x, hx, e⟩ := List.mem_map.1 hm
            exact b x hx (by rw [e]; simp)
        · rintro ⟨a, b, c, d⟩
          refine ⟨fun x hx => a x (List.mem_cons_of_mem _ hx), fun x hx hm => ?_, d⟩
          rcases List.mem_append.1 hm with hm | hm
          · exact b x (List.mem_cons_of_mem _ hx) hm
          · simp at hm
            exact c (List.mem_map.2 ⟨x, hx, hm⟩)
    · rw [if_neg h1]
      constructor
      · intro h; cases h
      · rintro ⟨h, _⟩; exact absurd (h k (List.mem_cons_self ..)) h1

/-- What a permutation of images is an image of. -/
theorem perm_of_map {α β : Type} (f : α → β) {l1 l2 : List β} (h : l1.Perm l2) : ∀ zs : List α, zs.map f = l2 → ∃ zs' : List α, zs'.Perm zs ∧ zs'.map f = l1 := by
  induction h with
  | nil => intro zs h; exact ⟨[], by rw [List.map_eq_nil_iff.1 h], rfl⟩
  | cons x _ ih =>
    intro zs h
    match zs, h with
    | z :: zr, h =>
      simp only [List.map_cons, List.cons.injEq] at h
      obtain ⟨zs', hp, e⟩ := ih zr h.2
      exact ⟨z :: zs', hp.cons z, by simp [e, h.1]⟩
  | swap x y r =>
    intro zs h
    match zs, h with
    | [_], h => simp at h
    | a :: b :: zr, h =>
      simp only [List.map_cons, List.cons.injEq] at h
      exact ⟨b :: a :: zr, List.Perm.swap _ _ _, by simp [h.1, h.2.1, h.2.2]⟩
  | trans _ _ ih1 ih2 =>
    intro zs h
    obtain ⟨z1, p1, e1⟩ := ih2 zs h
    obtain ⟨z2, p2, e2⟩ := ih1 z1 e1
    exact ⟨z2, p2.trans p1, e2⟩

theorem rises_of {l : List ByteArray} (h : ∀ i j (hi : i < l.length) (hj : j < l.length), i < j → bl l[i] l[j] = true) : rises l = true := by
  match l with
  | [] => rfl
  | [_] => rfl
  | a :: b :: r =>
    unfold rises
    rw [Bool.and_eq_true]
    refine ⟨h 0 1 (by simp) (by simp) (by omega), rises_of fun i j hi hj hij => ?_⟩
    have := h (i + 1) (j + 1) (by simpa using hi) (by simpa using hj) (by omega)
    simpa using this
/-- Rows of the same keys that rise are one. -/
theorem rises_unique {m1 m2 : List Key2} (hp : m1.Perm m2) (h1 : rises (ids m1) = true) (h2 : rises (ids m2) = true) : m1 = m2 := by
  have pw : ∀ m : List Key2, rises (ids m) = true → m.Pairwise (fun a b => bl (id2 a) (id2 b) = true) := fun m h => by
    rw [List.pairwise_iff_getElem]
    intro i j hi hj hij
    have := rises_lt h i j (by simpa [ids] using hi) (by simpa [ids] using hj) hij
    simpa [ids] using this
  refine hp.eq_of_pairwise (le := fun a b => bl (id2 a) (id2 b) = true) (fun a b _ _ x y => ?_) (pw m1 h1) (pw m2 h2)
  rw [bl_asymm x] at y; cases y
theorem rises_nodup {l : List ByteArray} (h : rises l = true) : l.Nodup := by
  rw [List.Nodup, List.pairwise_iff_getElem]
  intro i j hi hj hij e
  have := rises_lt h i j hi hj hij
  rw [e, bl_irrefl] at this; cases this

/-- The five cells of an entry's value. -/
def val5 (x : Mem) : List Value := [.int .u8 x.k, .int .i64 x.n, .string x.t, .slice x.an x.nn x.cn, .slice x.ai x.ni x.ci]
/-- Entries, and whose they are: how each lies; none of it in a block of X. -/
def EntRow (w : World) (base : Nat) (X : Nat → Prop) (zs : List (Mem × Key2)) : Prop :=
  ∀ z ∈ zs, z.1.name = id2 z.2 ∧ ∃ lo hi, base ≤ lo ∧ hi ≤ w.heap.size ∧ (∀ b, X b → ¬ (lo ≤ b ∧ b < hi)) ∧ Rep w lo hi (obj2 z.2) z.1.val
theorem EntRow.nil (w : World) (base : Nat) (X : Nat → Prop) : EntRow w base X [] := fun z h => by simp at h
theorem EntRow.carry {w w' : World} {base : Nat} {X X' : Nat → Prop} {zs : List (Mem × Key2)} (h : EntRow w base X zs) (hsz : w.heap.size ≤ w'.heap.size)
    (hs : ∀ b, b < w.heap.size → ¬ X b → base ≤ b → w'.heap[b]? = w.heap[b]?) (hX : ∀ b, X' b → X b ∨ w.heap.size ≤ b ∨ b < base) : EntRow w' base X' zs := by
  intro z hz
  obtain ⟨hn, lo, hi, h1, h2, h3, hr⟩ := h z hz
  refine ⟨hn, lo, hi, h1, by omega, fun b hx hb => ?_, Rep.carry (Nat.le_refl _) (Nat.le_refl _) (fun b hb1 hb2 => hs b (by omega) (fun hx => h3 b hx ⟨hb1, hb2⟩) (by omega)) _ _ hr⟩
  rcases hX b hx with hx | hx | hx
  · exact h3 b hx hb
  · omega
  · omega
theorem EntRow.snoc {w : World} {base : Nat} {X : Nat → Prop} {zs : List (Mem × Key2)} (h : EntRow w base X zs) (x : Mem) (k : Key2) (lo hi : Nat) (hn : x.name = id2 k) (h1 : base ≤ lo) (h2 : hi ≤ w.heap.size) (h3 : ∀ b, X b → ¬ (lo ≤ b ∧ b < hi)) (hr : Rep w lo hi (obj2 k) x.val) :
    EntRow w base X (zs ++ [(x, k)]) := by
  intro z hz
  rcases List.mem_append.1 hz with hz | hz
  · exact h z hz
  · simp at hz; subst hz; exact ⟨hn, lo, hi, h1, h2, h3, hr⟩
theorem EntRow.perm {w : World} {base : Nat} {X : Nat → Prop} {zs zs' : List (Mem × Key2)} (h : EntRow w base X zs) (hp : zs'.Perm zs) : EntRow w base X zs' := fun z hz => h z (hp.subset hz)

/-- A row that the call owns, as the sort takes it. -/
theorem flat_get {ms : List Mem} (i c : Nat) (hi : i < ms.length) (hc : c < 6) : (ms.flatMap encM)[i * 6 + c]? = some ((encM ms[i])[c]!) := by
  induction ms generalizing i with
  | nil => simp at hi
  | cons m r ih =>
    rw [List.flatMap_cons]
    rcases i with _ | i
    · rw [List.getElem?_append_left (by rw [encM_len]; omega)]
      rw [Nat.zero_mul, Nat.zero_add]
      have : c < (encM m).length := by rw [encM_len]; exact hc
      rw [List.getElem?_eq_getElem this]
      show some _ = some ((encM m)[c]!)
      rw [getElem!_pos (encM m) c this]
    · rw [List.getElem?_append_right (by rw [encM_len]; omega), encM_len, show (i + 1) * 6 + c - 6 = i * 6 + c by omega]
      exact ih i (by simpa using hi)
theorem owns_holds {w : World} {base e g cap n : Nat} {ms : List Mem} (h : w.ownsRow base e 6 (.slice (some ⟨g, 0, none⟩) n cap) n (ms.flatMap encM)) : HoldsK encM 6 w g 0 ms.toArray := by
  intro j hj
  have hj' : j < ms.length * 6 := by simpa using hj
  rcases h.2 with ⟨hx, _⟩ | ⟨g', cap', cur, hx, hg, hh, _⟩
  · cases hx
  · simp only [Value.slice.injEq, Option.some.injEq, Addr.mk.injEq, and_true] at hx
    obtain ⟨rfl, _⟩ := hx
    refine ⟨?_, by simp [World.frozen?, hh]⟩
    have hq : j / 6 < ms.length := by omega
    have hm : j % 6 < 6 := Nat.mod_lt _ (by decide)
    have hf := flat_get (ms := ms) (j / 6) (j % 6) hq hm
    rw [show j / 6 * 6 + j % 6 = j by omega] at hf
    have hc := h.cells (g := g) rfl j _ hf
    have ea : (⟨g, 0, none⟩ : Addr).add j = ⟨g, j, none⟩ := by unfold Addr.add; split <;> simp_all
    rw [ea] at hc
    rw [Nat.zero_add, hc, get_flatK _ _ _ _ (by simpa using hj')]
    congr 2
    simp [hq]

end Go.Proofs.YtcahpjejpimdhaaGreatDoor

namespace Go.Proofs.YtcahpjejpimdhaaGreatDoor
open Go.RowKit Go.Shelf Go.Sort

set_option maxHeartbeats 400000 in
theorem insNil (W : World) : Calls Tryz.prog 124 #[.slice none 0 0, .int .i64 0, .int .i64 0, .func (.func 72) #[] #[]] W fun e w' => e = .returned (.tuple #[]) ∧ w' = W := by
  go_enter Tryz.func124, Tryz.ntmps124
  go_wp2
  go_loopw [8] (fun i wr => i = .int .i64 1 ∧ wr = W) (fun _ _ => 0)
  case atStart => exact ⟨rfl, rfl⟩
  case round =>
    obtain ⟨rfl, rfl⟩ := hrel
    go_wp2
    go_end0
    exact ⟨rfl, rfl⟩

set_option maxHeartbeats 400000 in
theorem pdqNil (W : World) (lim : Int) : Calls Tryz.prog 101 #[.slice none 0 0, .int .i64 0, .int .i64 0, .int .i64 lim, .func (.func 72) #[] #[]] W fun e w' => e = .returned (.tuple #[]) ∧ w' = W := by
  have H := insNil W
  go_enter Tryz.func101, Tryz.ntmps101
  go_wp2
  go_loopw [1, 2, 3, 10, 11, 12, 13, 14, 15, 16, 17, 18, 19, 20] (fun a b _ _ _ _ _ _ _ _ _ _ _ _ wr => a = .int .i64 0 ∧ b = .int .i64 0 ∧ wr = W) (fun _ _ _ _ _ _ _ _ _ _ _ _ _ _ _ => 0)
  case atStart => exact ⟨rfl, rfl, rfl⟩
  case round =>
    obtain ⟨rfl, rfl, rfl⟩ := hrel
    go_wp2_with fail
    refine H.mono ?_
    rintro e w1 ⟨rfl, rfl⟩
    go_wp2
    (try simp only [Exit.inBlock, Exit.then])
    refine bodyPost_ret (results_none rfl _ _ _) rfl ?_
    exact ⟨rfl, rfl⟩

set_option maxHeartbeats 400000 in
theorem sortNil (w : World) : Calls Tryz.prog 71 #[.slice none 0 0, .func (.func 72) #[] #[]] w fun e w' => e = .returned (.tuple #[]) ∧ w' = w := by
  have HL := Tryz.bits_Len 0 w (by omega) (by omega)
  go_enter Tryz.func71, Tryz.ntmps71
  go_wp2_with fail
  refine HL.mono ?_
  rintro e w1 ⟨rfl, rfl⟩
  go_wp2_with fail
  refine (pdqNil _ _).mono ?_
  rintro e w2 ⟨rfl, rfl⟩
  go_wp2
  go_end0
  exact ⟨rfl, rfl⟩

end Go.Proofs.YtcahpjejpimdhaaGreatDoor
