/- What snap.Value and legateref23.Value tell of a snapshot that may not be. -/
import Derived.Test.YtgghgcilpfdbjaaGreatDoorSe26
import Derived.Test.YtgghgcilpfdbjaaGreatDoorSe31

namespace Go.Proofs.YtgghgcilpfdbjaaGreatDoor
open Go.RowKit

set_option maxHeartbeats 1000000 in
set_option maxRecDepth 100000 in
theorem snapValueBad (v e : Int) (l : List PinV) (a : Option Addr) (c : Nat) (w : World) (hP : PinsAt w 0 w.heap.size a l) (hl : l.length ≤ 9223372036854775807) (hf : ∀ p ∈ l, PinFits p) (hT : TabW w) (hP10 : Pow10 w) (hm : maySnap ⟨v, e, l⟩ = false) :
    Calls Tryz.prog 15 #[.agg #[.int .i64 v, .int .i64 e, .slice a l.length c]] w fun r w' => r = .returned (.tuple #[.agg #[.int .u8 0, .int .i64 0, .string { data := #[] }, .slice none 0 0, .slice none 0 0], .int .i64 3]) ∧ Below w.heap.size w w' := by
  obtain ⟨W2, hW2⟩ : ∃ W2, W2 = (w.alloc (.cells #[.int .i64 v, .int .i64 e, .slice a l.length c] 24)).alloc (.cells #[.int .u8 0, .int .i64 0, .string { data := #[] }, .slice none 0 0, .slice none 0 0] 30) := ⟨_, rfl⟩
  have hz1 : (w.alloc (.cells #[.int .i64 v, .int .i64 e, .slice a l.length c] 24)).heap.size = w.heap.size + 1 := by simp
  have hb2 : Below w.heap.size w W2 := by rw [hW2]; exact ((Below.refl _ _).alloc (Nat.le_refl _) _).alloc (by simp) _
  have hx0 : W2.heap[w.heap.size]? = some (.cells #[.int .i64 v, .int .i64 e, .slice a l.length c] 24 (0, 0)) := by rw [hW2, Below.heap_alloc _ _ _ (by simp)]; exact heap_alloc_new w _
  have hr0 : W2.rowIs (w.heap.size + 1) 30 5 (pick5 (.int .u8 0) (.int .i64 0) (.string { data := #[] }) (.slice none 0 0) (.slice none 0 0)) := by
    have := rowIs_box5 (w.alloc (.cells #[.int .i64 v, .int .i64 e, .slice a l.length c] 24)) (.int .u8 0) (.int .i64 0) (.string { data := #[] }) (.slice none 0 0) (.slice none 0 0) 30
    rw [hz1, ← hW2] at this
    exact this
  have HMY := Lib.hid (snapMay v e l a c W2 (hP.below hb2 (Nat.le_refl _) (Nat.le_refl _) hb2.size) hl hf (hT.below hb2) (hP10.below hb2))
  rw [hm] at HMY
  have v0 : W2.cell? ⟨w.heap.size, 0, none⟩ = some (.int .i64 v) := box_cell hx0 rfl
  have v1 : W2.cell? ⟨w.heap.size, 1, none⟩ = some (.int .i64 e) := box_cell hx0 rfl
  have v2 : W2.cell? ⟨w.heap.size, 2, none⟩ = some (.slice a l.length c) := box_cell hx0 rfl
  have HR0 := Lib.hid hr0
  have HB2 := Lib.hid hb2
  have HW := Lib.hid hW2
  have HZ := Lib.hid (show W2.heap.size = w.heap.size + 2 by rw [hW2]; simp)
  clear hP hf hm hb2 hx0 hr0 hW2 hz1
  go_enter Tryz.func15, Tryz.ntmps15
  go_upto_region 1 with fail
  rw [← HW.out]
  go_wp2_with fail
  refine HMY.out.mono ?_
  clear HMY
  rintro r w3 ⟨rfl, hb3⟩
  have HB3 := Lib.hid (HB2.out.trans (hb3.mono HB2.out.size))
  have hq := below_row hb3 HR0.out HR0.out.lt
  have HRr := Lib.hid hq
  have t0 := hq.cell (i := 0) (by decide); have t1 := hq.cell (i := 1) (by decide); have t2 := hq.cell (i := 2) (by decide); have t3 := hq.cell (i := 3) (by decide); have t4 := hq.cell (i := 4) (by decide)
  have s0 := hq.frozen 0; have s1 := hq.frozen 1; have s2 := hq.frozen 2; have s3 := hq.frozen 3; have s4 := hq.frozen 4
  simp only [pick5] at t0 t1 t2 t3 t4
  clear hq hb3 v0 v1 v2
  go_wp2
  refine bodyPost_ret (results_row_tmp Tryz.results15 _ _ (w.heap.size + 1) 30 _ (0, 0) _ rfl (row5_heap (set5 _ _ _ _ _ HRr.out)) Tryz.underlying30 rfl (by kernel_rfl) _ rfl) rfl ?_
  exact ⟨rfl, below5 _ _ _ _ _ HB3.out (by omega)⟩

set_option maxHeartbeats 1000000 in
set_option maxRecDepth 100000 in
theorem ref23ValueBad (v e : Int) (l : List PinV) (a : Option Addr) (c : Nat) (w : World) (hP : PinsAt w 0 w.heap.size a l) (hl : l.length ≤ 9223372036854775807) (hf : ∀ p ∈ l, PinFits p) (hm : maySnap ⟨v, e, l⟩ = false) :
    Calls Tryz.prog 16 #[.agg #[.int .i64 v, .int .i64 e, .slice a l.length c]] w fun r w' => r = .returned (.tuple #[.agg #[.int .u8 0, .int .i64 0, .string { data := #[] }, .slice none 0 0, .slice none 0 0], .int .i64 3]) ∧ Below w.heap.size w w' := by
  obtain ⟨W2, hW2⟩ : ∃ W2, W2 = (w.alloc (.cells #[.int .i64 v, .int .i64 e, .slice a l.length c] 24)).alloc (.cells #[.int .u8 0, .int .i64 0, .string { data := #[] }, .slice none 0 0, .slice none 0 0] 30) := ⟨_, rfl⟩
  have hz1 : (w.alloc (.cells #[.int .i64 v, .int .i64 e, .slice a l.length c] 24)).heap.size = w.heap.size + 1 := by simp
  have hb2 : Below w.heap.size w W2 := by rw [hW2]; exact ((Below.refl _ _).alloc (Nat.le_refl _) _).alloc (by simp) _
  have hx0 : W2.heap[w.heap.size]? = some (.cells #[.int .i64 v, .int .i64 e, .slice a l.length c] 24 (0, 0)) := by rw [hW2, Below.heap_alloc _ _ _ (by simp)]; exact heap_alloc_new w _
  have hr0 : W2.rowIs (w.heap.size + 1) 30 5 (pick5 (.int .u8 0) (.int .i64 0) (.string { data := #[] }) (.slice none 0 0) (.slice none 0 0)) := by
    have := rowIs_box5 (w.alloc (.cells #[.int .i64 v, .int .i64 e, .slice a l.length c] 24)) (.int .u8 0) (.int .i64 0) (.string { data := #[] }) (.slice none 0 0) (.slice none 0 0) 30
    rw [hz1, ← hW2] at this
    exact this
  have HMY := Lib.hid (ref23May v e l a c W2 (hP.below hb2 (Nat.le_refl _) (Nat.le_refl _) hb2.size) hl hf)
  rw [hm] at HMY
  have v0 : W2.cell? ⟨w.heap.size, 0, none⟩ = some (.int .i64 v) := box_cell hx0 rfl
  have v1 : W2.cell? ⟨w.heap.size, 1, none⟩ = some (.int .i64 e) := box_cell hx0 rfl
  have v2 : W2.cell? ⟨w.heap.size, 2, none⟩ = some (.slice a l.length c) := box_cell hx0 rfl
  have HR0 := Lib.hid hr0
  have HB2 := Lib.hid hb2
  have HW := Lib.hid hW2
  have HZ := Lib.hid (show W2.heap.size = w.heap.size + 2 by rw [hW2]; simp)
  clear hP hf hm hb2 hx0 hr0 hW2 hz1
  go_enter Tryz.func16, Tryz.ntmps16
  go_upto_region 1 with fail
  rw [← HW.out]
  go_wp2_with fail
  refine HMY.out.mono ?_
  clear HMY
  rintro r w3 ⟨rfl, hb3⟩
  have HB3 := Lib.hid (HB2.out.trans (hb3.mono HB2.out.size))
  have hq := below_row hb3 HR0.out HR0.out.lt
  have HRr := Lib.hid hq
  have t0 := hq.cell (i := 0) (by decide); have t1 := hq.cell (i := 1) (by decide); have t2 := hq.cell (i := 2) (by decide); have t3 := hq.cell (i := 3) (by decide); have t4 := hq.cell (i := 4) (by decide)
  have s0 := hq.frozen 0; have s1 := hq.frozen 1; have s2 := hq.frozen 2; have s3 := hq.frozen 3; have s4 := hq.frozen 4
  simp only [pick5] at t0 t1 t2 t3 t4
  clear hq hb3 v0 v1 v2
  go_wp2
  refine bodyPost_ret (results_row_tmp Tryz.results16 _ _ (w.heap.size + 1) 30 _ (0, 0) _ rfl (row5_heap (set5 _ _ _ _ _ HRr.out)) Tryz.underlying30 rfl (by kernel_rfl) _ rfl) rfl ?_
  exact ⟨rfl, below5 _ _ _ _ _ HB3.out (by omega)⟩
end Go.Proofs.YtgghgcilpfdbjaaGreatDoor
