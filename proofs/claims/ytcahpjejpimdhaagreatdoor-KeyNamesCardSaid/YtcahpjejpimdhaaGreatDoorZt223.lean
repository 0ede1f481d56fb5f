/- The contracts of legateref14.text and legateref14.Value. -/
import Derived.Test.YtcahpjejpimdhaaGreatDoorZt211
import Derived.Test.YtcahpjejpimdhaaGreatDoorZt214

namespace Go.Proofs.YtcahpjejpimdhaaGreatDoor
open Go.RowKit

theorem h40 (w : World) (a b c d : Obj) : ((((w.alloc a).alloc b).alloc c).alloc d).heap[w.heap.size]? = some a := by
  rw [Below.heap_alloc _ _ _ (by simp <;> omega), Below.heap_alloc _ _ _ (by simp <;> omega), Below.heap_alloc _ _ _ (by simp)]; exact heap_alloc_new w a
theorem h41 (w : World) (a b c d : Obj) : ((((w.alloc a).alloc b).alloc c).alloc d).heap[w.heap.size + 1]? = some b := by
  rw [Below.heap_alloc _ _ _ (by simp <;> omega), Below.heap_alloc _ _ _ (by simp)]
  have := heap_alloc_new (w.alloc a) b
  rwa [show (w.alloc a).heap.size = w.heap.size + 1 by simp] at this
theorem h42 (w : World) (a b c d : Obj) : ((((w.alloc a).alloc b).alloc c).alloc d).heap[w.heap.size + 1 + 1]? = some c := by
  rw [Below.heap_alloc _ _ _ (by simp)]
  have := heap_alloc_new ((w.alloc a).alloc b) c
  rwa [show ((w.alloc a).alloc b).heap.size = w.heap.size + 1 + 1 by simp] at this
theorem h43 (w : World) (a b c d : Obj) : ((((w.alloc a).alloc b).alloc c).alloc d).heap[w.heap.size + 1 + 1 + 1]? = some d := by
  have := heap_alloc_new (((w.alloc a).alloc b).alloc c) d
  rwa [show (((w.alloc a).alloc b).alloc c).heap.size = w.heap.size + 1 + 1 + 1 by simp] at this

theorem below_n2 (w : World) (a b : Obj) : Below w.heap.size w ((w.alloc a).alloc b) := ((Below.refl _ _).alloc (Nat.le_refl _) _).alloc (by simp) _
theorem below_n3 (w : World) (a b c : Obj) : Below w.heap.size w (((w.alloc a).alloc b).alloc c) := (below_n2 w a b).alloc (below_n2 w a b).size _
theorem below_n4 (w : World) (a b c d : Obj) : Below w.heap.size w ((((w.alloc a).alloc b).alloc c).alloc d) := (below_n3 w a b c).alloc (below_n3 w a b c).size _

/-- A key's object out of its two rows. -/
theorem rep_key {w : World} {lo hi bn bi T T' : Nat} {s t : ByteArray} (hn : w.heap[bn]? = some (.cells #[.string { data := #[112, 117, 98, 108, 105, 99] }, .string { data := #[115, 99, 104, 101, 109, 101] }] T (0, 0)))
    (hi' : w.heap[bi]? = some (.cells #[.int .u8 3, .int .i64 0, .string t, .slice none 0 0, .slice none 0 0, .int .u8 3, .int .i64 0, .string s, .slice none 0 0, .slice none 0 0] T' (0, 0))) (h1 : lo ≤ bn) (h2 : bn < hi) (h3 : lo ≤ bi) (h4 : bi < hi) :
    Rep w lo hi (keyJ s t) (.agg #[.int .u8 5, .int .i64 0, .string { data := #[] }, .slice (some ⟨bn, 0, none⟩) 2 2, .slice (some ⟨bi, 0, none⟩) 2 2]) := by
  unfold keyJ Rep
  refine ⟨_, 2, _, 2, rfl, Nat.le_refl _, Nat.le_refl _, .inr ⟨bn, 0, rfl, h1, h2, fun i hi => ?_⟩, .inr ⟨bi, 0, rfl, h3, h4, ⟨_, T', (0, 0), hi', fun _ => rfl⟩, ?_⟩⟩
  · have h : i < 2 := hi
    match i, h with
    | 0, _ => simp [World.cell?, hn, pubN]
    | 1, _ => simp [World.cell?, hn, schN]
  · unfold RepL RepL RepL
    have f : ∀ o, w.frozen? ⟨bi, o, none⟩ = false := fun o => by simp [World.frozen?, hi']
    exact ⟨⟨_, _, _, _, _, box_cell hi' rfl, box_cell hi' rfl, box_cell hi' rfl, box_cell hi' rfl, box_cell hi' rfl, f _, rep_txt _ _ _ _⟩, ⟨_, _, _, _, _, box_cell hi' rfl, box_cell hi' rfl, box_cell hi' rfl, box_cell hi' rfl, box_cell hi' rfl, f _, rep_txt _ _ _ _⟩, trivial⟩

theorem heap5s {W : World} {b bn : Nat} {o : Obj} {v0 v1 v2 v3 v4 : Value} (hne : bn ≠ b) (h : W.heap[bn]? = some o) :
    (((((W.setCell ⟨b, 0, none⟩ v0).setCell ⟨b, 1, none⟩ v1).setCell ⟨b, 2, none⟩ v2).setCell ⟨b, 3, none⟩ v3).setCell ⟨b, 4, none⟩ v4).heap[bn]? = some o := by
  rw [Below.heap_setCell _ _ _ _ hne, Below.heap_setCell _ _ _ _ hne, Below.heap_setCell _ _ _ _ hne, Below.heap_setCell _ _ _ _ hne, Below.heap_setCell _ _ _ _ hne]; exact h
theorem size5 {W : World} {b : Nat} {v0 v1 v2 v3 v4 : Value} : (((((W.setCell ⟨b, 0, none⟩ v0).setCell ⟨b, 1, none⟩ v1).setCell ⟨b, 2, none⟩ v2).setCell ⟨b, 3, none⟩ v3).setCell ⟨b, 4, none⟩ v4).heap.size = W.heap.size := by simp [World.setCell]

theorem rep_drew {W : World} {lo : Nat} {v : JV} {x : Value} (h : Rep W lo W.heap.size v x) : Rep W.drew lo W.drew.heap.size v x := Rep.carry (w := W) (w' := W.drew) (Nat.le_refl _) (Nat.le_refl _) (fun _ _ _ => rfl) v x h
theorem key_o1 {w w1 W4 : World} {bn bi : Nat} {f : Nat → Value} (hz1 : w.heap.size + 2 ≤ w1.heap.size) (hR : w1.rowIs (w.heap.size + 1) 29 5 f) (hb4 : Below w1.heap.size w1 W4) :
    ((((((W4.setCell ⟨w.heap.size + 1, 0, none⟩ (.int .u8 5)).setCell ⟨w.heap.size + 1, 1, none⟩ (.int .i64 0)).setCell ⟨w.heap.size + 1, 2, none⟩ (.string { data := #[] })).setCell ⟨w.heap.size + 1, 3, none⟩ (.slice (some ⟨bn, 0, none⟩) 2 2)).setCell ⟨w.heap.size + 1, 4, none⟩ (.slice (some ⟨bi, 0, none⟩) 2 2)).drew).heap[w.heap.size + 1]? = some (.cells #[.int .u8 5, .int .i64 0, .string { data := #[] }, .slice (some ⟨bn, 0, none⟩) 2 2, .slice (some ⟨bi, 0, none⟩) 2 2] 29 (0, 0)) :=
  row5_heap ((set5 _ _ _ _ _ (below_row hb4 hR (by omega))).drew)
theorem key_o2 {w w1 W4 : World} {s t : ByteArray} {bn bi T T' : Nat} (hz1 : w.heap.size + 2 ≤ w1.heap.size)
    (hn : W4.heap[bn]? = some (.cells #[.string { data := #[112, 117, 98, 108, 105, 99] }, .string { data := #[115, 99, 104, 101, 109, 101] }] T (0, 0)))
    (hi : W4.heap[bi]? = some (.cells #[.int .u8 3, .int .i64 0, .string t, .slice none 0 0, .slice none 0 0, .int .u8 3, .int .i64 0, .string s, .slice none 0 0, .slice none 0 0] T' (0, 0)))
    (h1 : w1.heap.size ≤ bn) (h3 : w1.heap.size ≤ bi) :
    Rep ((((((W4.setCell ⟨w.heap.size + 1, 0, none⟩ (.int .u8 5)).setCell ⟨w.heap.size + 1, 1, none⟩ (.int .i64 0)).setCell ⟨w.heap.size + 1, 2, none⟩ (.string { data := #[] })).setCell ⟨w.heap.size + 1, 3, none⟩ (.slice (some ⟨bn, 0, none⟩) 2 2)).setCell ⟨w.heap.size + 1, 4, none⟩ (.slice (some ⟨bi, 0, none⟩) 2 2)).drew) w.heap.size ((((((W4.setCell ⟨w.heap.size + 1, 0, none⟩ (.int .u8 5)).setCell ⟨w.heap.size + 1, 1, none⟩ (.int .i64 0)).setCell ⟨w.heap.size + 1, 2, none⟩ (.string { data := #[] })).setCell ⟨w.heap.size + 1, 3, none⟩ (.slice (some ⟨bn, 0, none⟩) 2 2)).setCell ⟨w.heap.size + 1, 4, none⟩ (.slice (some ⟨bi, 0, none⟩) 2 2)).drew).heap.size (keyJ s t) (.agg #[.int .u8 5, .int .i64 0, .string { data := #[] }, .slice (some ⟨bn, 0, none⟩) 2 2, .slice (some ⟨bi, 0, none⟩) 2 2]) :=
  by
  have e1 := heap_lt hn
  have e2 := heap_lt hi
  exact rep_drew (rep_key (heap5s (by omega) hn) (heap5s (by omega) hi) (by omega) (by rw [size5]; exact e1) (by omega) (by rw [size5]; exact e2))
theorem key_o3 {w w1 W4 : World} {v0 v1 v2 v3 v4 : Value} (hB1 : Below w.heap.size w w1) (hb4 : Below w1.heap.size w1 W4) :
    Below w.heap.size w ((((((W4.setCell ⟨w.heap.size + 1, 0, none⟩ v0).setCell ⟨w.heap.size + 1, 1, none⟩ v1).setCell ⟨w.heap.size + 1, 2, none⟩ v2).setCell ⟨w.heap.size + 1, 3, none⟩ v3).setCell ⟨w.heap.size + 1, 4, none⟩ v4).drew) :=
  (below5 _ _ _ _ _ (hB1.trans (hb4.mono hB1.size)) (by omega)).drew

theorem ref14text (t : ByteArray) (w : World) : Calls Tryz.prog 44 #[.string t] w fun e w' => e = .returned (.agg #[.int .u8 3, .int .i64 0, .string t, .slice none 0 0, .slice none 0 0]) ∧ w' = w.alloc (.cells #[.int .u8 3, .int .i64 0, .string t, .slice none 0 0, .slice none 0 0] 29) := by
  go_enter Tryz.func44, Tryz.ntmps44
  go_wp2
  exact bodyPost_ret (results_cell_row Tryz.results44 _ _ w.heap.size 29 _ (0, 0) _ rfl (heap_alloc_new w _) Tryz.underlying29 rfl (by kernel_rfl)) rfl ⟨rfl, rfl⟩

set_option maxHeartbeats 400000 in
set_option maxRecDepth 100000 in
theorem ref14Value_no (s t : ByteArray) (w : World) (hs : s.size ≤ 4294967000) (ht : t.size ≤ 4294967000) (hk : keyOk s.data.toList t.data.toList = false) :
    Calls Tryz.prog 15 #[.agg #[.string s, .string t]] w fun e w' => e = .returned (.tuple #[zeroAgg, .int .i64 3]) ∧ Below w.heap.size w w' := by
  have HM := Lib.hid (ref14May s t ((w.alloc (.cells #[.string s, .string t] 23)).alloc (.cells #[.int .u8 0, .int .i64 0, .string { data := #[] }, .slice none 0 0, .slice none 0 0] 29)) (by omega) (by omega))
  rw [hk] at HM
  have hr0 := rowIs_box5 (w.alloc (.cells #[.string s, .string t] 23)) (.int .u8 0) (.int .i64 0) (.string { data := #[] }) (.slice none 0 0) (.slice none 0 0) 29
  rw [show (w.alloc (.cells #[.string s, .string t] 23)).heap.size = w.heap.size + 1 by simp] at hr0
  have HR0 := Lib.hid hr0
  have HB0 := Lib.hid (show Below w.heap.size w ((w.alloc (.cells #[.string s, .string t] 23)).alloc (.cells #[.int .u8 0, .int .i64 0, .string { data := #[] }, .slice none 0 0, .slice none 0 0] 29)) from ((Below.refl _ _).alloc (Nat.le_refl _) _).alloc (by simp) _)
  clear hk hr0
  go_enter Tryz.func15, Tryz.ntmps15
  go_wp2_with fail
  refine HM.out.mono ?_
  rintro e w1 ⟨rfl, hb1⟩
  have hres := below_row hb1 HR0.out (by simp)
  have HRS := Lib.hid hres
  have HB1 := Lib.hid (HB0.out.trans (hb1.mono (by simp; omega)))
  have t0 := hres.cell (i := 0) (by decide); have t1 := hres.cell (i := 1) (by decide); have t2 := hres.cell (i := 2) (by decide); have t3 := hres.cell (i := 3) (by decide); have t4 := hres.cell (i := 4) (by decide)
  have s0 := hres.frozen 0; have s1 := hres.frozen 1; have s2 := hres.frozen 2; have s3 := hres.frozen 3; have s4 := hres.frozen 4
  simp only [pick5] at t0 t1 t2 t3 t4
  clear hres hb1
  go_wp2
  exact bodyPost_ret (results_row_tmp Tryz.results15 _ _ (w.heap.size + 1) 29 _ (0, 0) _ rfl (row5_heap (set5 _ _ _ _ _ HRS.out)) Tryz.underlying29 rfl (by kernel_rfl) _ rfl) rfl ⟨rfl, below5 _ _ _ _ _ HB1.out (by omega)⟩

set_option maxHeartbeats 1000000 in
set_option maxRecDepth 100000 in
theorem ref14Value_yes (s t : ByteArray) (w : World) (hs : s.size ≤ 4294967000) (ht : t.size ≤ 4294967000) (hk : keyOk s.data.toList t.data.toList = true) :
    Calls Tryz.prog 15 #[.agg #[.string s, .string t]] w (KeyValPost s t w) := by
  have HM := Lib.hid (ref14May s t ((w.alloc (.cells #[.string s, .string t] 23)).alloc (.cells #[.int .u8 0, .int .i64 0, .string { data := #[] }, .slice none 0 0, .slice none 0 0] 29)) (by omega) (by omega))
  rw [hk] at HM
  have hr0 := rowIs_box5 (w.alloc (.cells #[.string s, .string t] 23)) (.int .u8 0) (.int .i64 0) (.string { data := #[] }) (.slice none 0 0) (.slice none 0 0) 29
  rw [show (w.alloc (.cells #[.string s, .string t] 23)).heap.size = w.heap.size + 1 by simp] at hr0
  have HR0 := Lib.hid hr0
  have HB0 := Lib.hid (show Below w.heap.size w ((w.alloc (.cells #[.string s, .string t] 23)).alloc (.cells #[.int .u8 0, .int .i64 0, .string { data := #[] }, .slice none 0 0, .slice none 0 0] 29)) from ((Below.refl _ _).alloc (Nat.le_refl _) _).alloc (by simp) _)
  have HX0 := Lib.hid (show ((w.alloc (.cells #[.string s, .string t] 23)).alloc (.cells #[.int .u8 0, .int .i64 0, .string { data := #[] }, .slice none 0 0, .slice none 0 0] 29)).heap[w.heap.size]? = some (.cells #[.string s, .string t] 23 (0, 0)) by rw [Below.heap_alloc _ _ _ (by simp)]; exact heap_alloc_new w _)
  clear hk hr0
  go_enter Tryz.func15, Tryz.ntmps15
  go_wp2_with fail
  refine HM.out.mono ?_
  clear HM
  rintro e w1 ⟨rfl, hb1⟩
  have hres := below_row hb1 HR0.out (by simp)
  have hz1 : w.heap.size + 2 ≤ w1.heap.size := by have := hb1.size; simp at this; omega
  have hx1 : w1.heap[w.heap.size]? = some (.cells #[.string s, .string t] 23 (0, 0)) := by rw [hb1.block _ (by simp; omega)]; exact HX0.out
  have HB1 := Lib.hid (HB0.out.trans (hb1.mono (by simp; omega)))
  have HRS := Lib.hid (show w1.drew.rowIs _ _ _ _ from hres)
  clear hb1 HX0 HB0 HR0
  have q0 : w1.cell? ⟨w.heap.size, 0, none⟩ = some (.string s) := box_cell (w := w1) hx1 rfl
  have q1 : w1.cell? ⟨w.heap.size, 1, none⟩ = some (.string t) := box_cell (w := w1) hx1 rfl
  have r0 := hres.cell (i := 0) (by decide); have r1 := hres.cell (i := 1) (by decide); have r2 := hres.cell (i := 2) (by decide); have r3 := hres.cell (i := 3) (by decide); have r4 := hres.cell (i := 4) (by decide)
  have f0 := hres.frozen 0; have f1 := hres.frozen 1; have f2 := hres.frozen 2; have f3 := hres.frozen 3; have f4 := hres.frozen 4
  simp only [pick5] at r0 r1 r2 r3 r4
  have p0 : w.heap.size < w1.heap.size := by omega
  have p1 : w.heap.size + 1 < w1.heap.size := by omega
  have a1 : ∀ (a : Obj) (j : Nat), (w1.alloc a).cell? ⟨w.heap.size, j, none⟩ = w1.cell? ⟨w.heap.size, j, none⟩ := fun a j => cell_alloc_lt a p0
  have a2 : ∀ (a b : Obj) (j : Nat), ((w1.alloc a).alloc b).cell? ⟨w.heap.size, j, none⟩ = w1.cell? ⟨w.heap.size, j, none⟩ := fun a b j => (below_n2 w1 a b).cell p0
  have a3 : ∀ (a b c : Obj) (j : Nat), (((w1.alloc a).alloc b).alloc c).cell? ⟨w.heap.size, j, none⟩ = w1.cell? ⟨w.heap.size, j, none⟩ := fun a b c j => (below_n3 w1 a b c).cell p0
  have a4 : ∀ (a b c d : Obj) (j : Nat), ((((w1.alloc a).alloc b).alloc c).alloc d).cell? ⟨w.heap.size, j, none⟩ = w1.cell? ⟨w.heap.size, j, none⟩ := fun a b c d j => (below_n4 w1 a b c d).cell p0
  have b4 : ∀ (a b c d : Obj) (j : Nat), ((((w1.alloc a).alloc b).alloc c).alloc d).cell? ⟨w.heap.size + 1, j, none⟩ = w1.cell? ⟨w.heap.size + 1, j, none⟩ := fun a b c d j => (below_n4 w1 a b c d).cell p1
  have g4 : ∀ (a b c d : Obj) (j : Nat), ((((w1.alloc a).alloc b).alloc c).alloc d).frozen? ⟨w.heap.size + 1, j, none⟩ = w1.frozen? ⟨w.heap.size + 1, j, none⟩ := fun a b c d j => (below_n4 w1 a b c d).frozen p1
  clear hres hx1
  go_wp2_with fail
  go_region_held3 (fun w' => w'.cell? ⟨w.heap.size, 0, none⟩ = some (.string s) ∧ w'.cell? ⟨w.heap.size, 1, none⟩ = some (.string t)) ((go_keep; done)) ((go_at_call 44; (with_reducible refine (ref14text _ _).mono ?_); rintro e w2 ⟨rfl, rfl⟩))
  all_goals clear a1 a2 a3 a4 b4 g4
  all_goals go_wp2
  · refine bodyPost_ret (results_row_tmp Tryz.results15 _ _ (w.heap.size + 1) 29 #[.int .u8 5, .int .i64 0, .string { data := #[] }, .slice (some ⟨w1.heap.size, 0, none⟩) 2 2, .slice (some ⟨w1.heap.size + 1 + 1 + 1, 0, none⟩) 2 2] (0, 0) _ rfl ?_ Tryz.underlying29 rfl (by kernel_rfl) _ rfl) rfl ⟨_, _, _, _, rfl, ?_, ?_⟩
    · exact key_o1 hz1 HRS.out (below_n4 w1 _ _ _ _)
    · exact key_o2 hz1 (h40 w1 _ _ _ _) (h43 w1 _ _ _ _) (by omega) (by omega)
    · exact key_o3 HB1.out (below_n4 w1 _ _ _ _)
  · refine bodyPost_ret (results_row_tmp Tryz.results15 _ _ (w.heap.size + 1) 29 #[.int .u8 5, .int .i64 0, .string { data := #[] }, .slice (some ⟨w1.heap.size + 1, 0, none⟩) 2 2, .slice (some ⟨w1.heap.size + 1 + 1 + 1, 0, none⟩) 2 2] (0, 0) _ rfl ?_ Tryz.underlying29 rfl (by kernel_rfl) _ rfl) rfl ⟨_, _, _, _, rfl, ?_, ?_⟩
    · exact key_o1 hz1 HRS.out (below_n4 w1 _ _ _ _)
    · exact key_o2 hz1 (h41 w1 _ _ _ _) (h43 w1 _ _ _ _) (by omega) (by omega)
    · exact key_o3 HB1.out (below_n4 w1 _ _ _ _)
  · refine bodyPost_ret (results_row_tmp Tryz.results15 _ _ (w.heap.size + 1) 29 #[.int .u8 5, .int .i64 0, .string { data := #[] }, .slice (some ⟨w1.heap.size + 1 + 1, 0, none⟩) 2 2, .slice (some ⟨w1.heap.size + 1 + 1 + 1, 0, none⟩) 2 2] (0, 0) _ rfl ?_ Tryz.underlying29 rfl (by kernel_rfl) _ rfl) rfl ⟨_, _, _, _, rfl, ?_, ?_⟩
    · exact key_o1 hz1 HRS.out (below_n4 w1 _ _ _ _)
    · exact key_o2 hz1 (h42 w1 _ _ _ _) (h43 w1 _ _ _ _) (by omega) (by omega)
    · exact key_o3 HB1.out (below_n4 w1 _ _ _ _)
  · refine bodyPost_ret (results_row_tmp Tryz.results15 _ _ (w.heap.size + 1) 29 #[.int .u8 5, .int .i64 0, .string { data := #[] }, .slice (some ⟨w1.heap.size + 1 + 1 + 1, 0, none⟩) 2 2, .slice (some ⟨w1.heap.size + 1 + 1, 0, none⟩) 2 2] (0, 0) _ rfl ?_ Tryz.underlying29 rfl (by kernel_rfl) _ rfl) rfl ⟨_, _, _, _, rfl, ?_, ?_⟩
    · exact key_o1 hz1 HRS.out (below_n4 w1 _ _ _ _)
    · exact key_o2 hz1 (h43 w1 _ _ _ _) (h42 w1 _ _ _ _) (by omega) (by omega)
    · exact key_o3 HB1.out (below_n4 w1 _ _ _ _)

end Go.Proofs.YtcahpjejpimdhaaGreatDoor
