/- The contract of key.Value. -/
import Derived.Test.YtaekmmnpdbmoeaaGreatDoorJh08
import Derived.Test.YtaekmmnpdbmoeaaGreatDoorJh05

namespace Go.Proofs.YtaekmmnpdbmoeaaGreatDoor
open Go.RowKit Go.Shelf Go.Sort

def pubN : ByteArray := { data := #[112, 117, 98, 108, 105, 99] }
def schN : ByteArray := { data := #[115, 99, 104, 101, 109, 101] }
def txtJ (t : ByteArray) : JV := .mk 3 0 t [] []
/-- The object of a key. -/
def keyJ (s t : ByteArray) : JV := .mk 5 0 { data := #[] } [pubN, schN] [txtJ t, txtJ s]

theorem rep_txt (w : World) (lo hi : Nat) (t : ByteArray) : Rep w lo hi (txtJ t) (.agg #[.int .u8 3, .int .i64 0, .string t, .slice none 0 0, .slice none 0 0]) := by
  unfold txtJ Rep
  exact ⟨none, 0, none, 0, rfl, Nat.le_refl _, Nat.le_refl _, .inl rfl, .inl rfl⟩

def memT (nm t : ByteArray) : Mem := ⟨nm, 3, 0, t, none, 0, 0, none, 0, 0⟩
theorem holds_heap {w : World} {blk T : Nat} {d : Array Mem} (h : w.heap[blk]? = some (.cells (flatK encM 6 d) T (0, 0))) : HoldsK encM 6 w blk 0 d := fun j hj => by
  refine ⟨?_, by simp [World.frozen?, h]⟩
  have e : (flatK encM 6 d)[j]? = some (flatK encM 6 d)[j]! := by rw [getElem!_pos _ j hj, Array.getElem?_eq_getElem hj]
  simp [World.cell?, h, e]
theorem flat_two (a b : Mem) : flatK encM 6 #[a, b] = #[.string a.name, .int .u8 a.k, .int .i64 a.n, .string a.t, .slice a.an a.nn a.cn, .slice a.ai a.ni a.ci, .string b.name, .int .u8 b.k, .int .i64 b.n, .string b.t, .slice b.an b.nn b.cn, .slice b.ai b.ni b.ci] := by
  apply Array.ext
  · simp
  · intro i h1 h2
    have h3 : i < 12 := by simpa using h2
    simp only [flatK, Array.getElem_map, Array.getElem_range]
    match i, h3 with
    | 0, _ => rfl
    | 1, _ => rfl
    | 2, _ => rfl
    | 3, _ => rfl
    | 4, _ => rfl
    | 5, _ => rfl
    | 6, _ => rfl
    | 7, _ => rfl
    | 8, _ => rfl
    | 9, _ => rfl
    | 10, _ => rfl
    | 11, _ => rfl

theorem objTwo (t s : ByteArray) (w : World) (T : Nat) (ht : t.size ≤ 4294967000) (hs : s.size ≤ 4294967000) :
    Calls Tryz.prog 93 #[.slice (some ⟨w.heap.size, 0, none⟩) 2 2] (w.alloc (.cells #[.string { data := #[112, 117, 98, 108, 105, 99] }, .int .u8 3, .int .i64 0, .string t, .slice none 0 0, .slice none 0 0, .string { data := #[115, 99, 104, 101, 109, 101] }, .int .u8 3, .int .i64 0, .string s, .slice none 0 0, .slice none 0 0] T))
      (ObjPost [pubN, schN] [txtJ t, txtJ s] (w.alloc (.cells #[.string { data := #[112, 117, 98, 108, 105, 99] }, .int .u8 3, .int .i64 0, .string t, .slice none 0 0, .slice none 0 0, .string { data := #[115, 99, 104, 101, 109, 101] }, .int .u8 3, .int .i64 0, .string s, .slice none 0 0, .slice none 0 0] T))) := by
  have := pickObjectOf #[memT pubN t, memT schN s] #[memT pubN t, memT schN s] [txtJ t, txtJ s] w.heap.size 0 2 (w.alloc (.cells #[.string { data := #[112, 117, 98, 108, 105, 99] }, .int .u8 3, .int .i64 0, .string t, .slice none 0 0, .slice none 0 0, .string { data := #[115, 99, 104, 101, 109, 101] }, .int .u8 3, .int .i64 0, .string s, .slice none 0 0, .slice none 0 0] T)) 0 0 ?_ (by simp) (by simp) ?_ rfl ?_ ?_ (by simp)
  · exact this
  · exact holds_heap (T := T) (by rw [heap_alloc_new, flat_two]; rfl)
  · refine ins_sorted _ _ _ fun j hj => ?_
    obtain rfl : j = 0 := by simp at hj; omega
    show ltOf cfM (memT schN s) (memT pubN t) = false
    show decide (Lib.compareBytes schN.data.toList pubN.data.toList < 0) = false
    decide
  · intro i hi
    match i, hi with
    | 0, _ => exact ⟨rep_txt _ _ _ _, by simp [txtJ, JV.wt, JV.wts, bytesSum]; omega, fun k h => by simp [txtJ, JV.items] at h⟩
    | 1, _ => exact ⟨rep_txt _ _ _ _, by simp [txtJ, JV.wt, JV.wts, bytesSum]; omega, fun k h => by simp [txtJ, JV.items] at h⟩
  · intro i hi
    obtain rfl : i = 0 := by simp at hi; omega
    show pubN ≠ schN
    decide

def KeyValPost (s t : ByteArray) (w : World) (e : Ending) (w' : World) : Prop :=
  ∃ an cn ai ci, e = .returned (.tuple #[.agg #[.int .u8 5, .int .i64 0, .string { data := #[] }, .slice an 2 cn, .slice ai 2 ci], .int .i64 0]) ∧
    Rep w' w.heap.size w'.heap.size (keyJ s t) (.agg #[.int .u8 5, .int .i64 0, .string { data := #[] }, .slice an 2 cn, .slice ai 2 ci]) ∧ Below w.heap.size w w'

set_option maxHeartbeats 400000 in
set_option maxRecDepth 100000 in
theorem keyValue_no (s t : ByteArray) (w : World) (hs : s.size ≤ 4294967000) (ht : t.size ≤ 4294967000) (hk : keyOk s.data.toList t.data.toList = false) :
    Calls Tryz.prog 64 #[.agg #[.string s, .string t]] w fun e w' => e = .returned (.tuple #[zeroAgg, .int .i64 3]) ∧ Below w.heap.size w w' := by
  have HM := Lib.hid (keyMay s t ((w.alloc (.cells #[.string s, .string t] 24)).alloc (.cells #[.int .u8 0, .int .i64 0, .string { data := #[] }, .slice none 0 0, .slice none 0 0] 44)) (by omega) (by omega))
  rw [hk] at HM
  have hr0 := rowIs_box5 (w.alloc (.cells #[.string s, .string t] 24)) (.int .u8 0) (.int .i64 0) (.string { data := #[] }) (.slice none 0 0) (.slice none 0 0) 44
  rw [show (w.alloc (.cells #[.string s, .string t] 24)).heap.size = w.heap.size + 1 by simp] at hr0
  have HR0 := Lib.hid hr0
  have HB0 := Lib.hid (show Below w.heap.size w ((w.alloc (.cells #[.string s, .string t] 24)).alloc (.cells #[.int .u8 0, .int .i64 0, .string { data := #[] }, .slice none 0 0, .slice none 0 0] 44)) from ((Below.refl _ _).alloc (Nat.le_refl _) _).alloc (by simp) _)
  clear hk hr0
  go_enter Tryz.func64, Tryz.ntmps64
  go_wp2_with fail
  refine HM.out.mono ?_
  rintro e w1 ⟨rfl, hb1⟩
  have hres := below_row hb1 HR0.out (by simp)
  have HRS := Lib.hid hres
  have HB1 := Lib.hid (HB0.out.trans (hb1.mono (by simp; omega)))
  have t0 := hres.cell (i := 0) (by decide); have t1 := hres.cell (i := 1) (by decide); have t2 := hres.cell (i := 2) (by decide); have t3 := hres.cell (i := 3) (by decide); have t4 := hres.cell (i := 4) (by decide)
  have s0 := hres.frozen 0; have s1 := hres.frozen 1; have s2 := hres.frozen 2; have s3 := hres.frozen 3; have s4 := hres.frozen 4
  simp only [pick5] at t0 t1 t2 t3 t4
  clear hres hb1
  go_wp2
  exact bodyPost_ret (results_row_tmp Tryz.results64 _ _ (w.heap.size + 1) 44 _ (0, 0) _ rfl (row5_heap (set5 _ _ _ _ _ HRS.out)) Tryz.underlying44 rfl (by kernel_rfl) _ rfl) rfl ⟨rfl, below5 _ _ _ _ _ HB1.out (by omega)⟩

set_option maxHeartbeats 1000000 in
set_option maxRecDepth 100000 in
theorem keyValue_yes (s t : ByteArray) (w : World) (hs : s.size ≤ 4294967000) (ht : t.size ≤ 4294967000) (hk : keyOk s.data.toList t.data.toList = true) :
    Calls Tryz.prog 64 #[.agg #[.string s, .string t]] w (KeyValPost s t w) := by
  have HM := Lib.hid (keyMay s t ((w.alloc (.cells #[.string s, .string t] 24)).alloc (.cells #[.int .u8 0, .int .i64 0, .string { data := #[] }, .slice none 0 0, .slice none 0 0] 44)) (by omega) (by omega))
  rw [hk] at HM
  have hr0 := rowIs_box5 (w.alloc (.cells #[.string s, .string t] 24)) (.int .u8 0) (.int .i64 0) (.string { data := #[] }) (.slice none 0 0) (.slice none 0 0) 44
  rw [show (w.alloc (.cells #[.string s, .string t] 24)).heap.size = w.heap.size + 1 by simp] at hr0
  have HR0 := Lib.hid hr0
  have HB0 := Lib.hid (show Below w.heap.size w ((w.alloc (.cells #[.string s, .string t] 24)).alloc (.cells #[.int .u8 0, .int .i64 0, .string { data := #[] }, .slice none 0 0, .slice none 0 0] 44)) from ((Below.refl _ _).alloc (Nat.le_refl _) _).alloc (by simp) _)
  have HX0 := Lib.hid (show ((w.alloc (.cells #[.string s, .string t] 24)).alloc (.cells #[.int .u8 0, .int .i64 0, .string { data := #[] }, .slice none 0 0, .slice none 0 0] 44)).heap[w.heap.size]? = some (.cells #[.string s, .string t] 24 (0, 0)) by rw [Below.heap_alloc _ _ _ (by simp)]; exact heap_alloc_new w _)
  clear hk hr0
  go_enter Tryz.func64, Tryz.ntmps64
  go_wp2_with fail
  refine HM.out.mono ?_
  clear HM
  rintro e w1 ⟨rfl, hb1⟩
  have HRS := Lib.hid (below_row hb1 HR0.out (by simp))
  have hz1 : w.heap.size + 2 ≤ w1.heap.size := by have := hb1.size; simp at this; omega
  have hx1 : w1.heap[w.heap.size]? = some (.cells #[.string s, .string t] 24 (0, 0)) := by rw [hb1.block _ (by simp; omega)]; exact HX0.out
  have HX1 := Lib.hid hx1
  have HB1 := Lib.hid (HB0.out.trans (hb1.mono (by simp; omega)))
  clear hb1 hx1 HX0 HB0 HR0
  have HC := Lib.hid (show ∀ w' : World, Below w1.heap.size w1 w' → w'.cell? ⟨w.heap.size, 0, none⟩ = some (.string s) ∧ w'.cell? ⟨w.heap.size, 1, none⟩ = some (.string t) ∧ w.heap.size < w'.heap.size from fun w' h => by
    have := h.size
    exact ⟨by rw [h.cell (by show w.heap.size < _; omega)]; simp [World.cell?, HX1.out], by rw [h.cell (by show w.heap.size < _; omega)]; simp [World.cell?, HX1.out], by omega⟩)
  have HT := Lib.hid (show ∀ (u : ByteArray) (w' : World), Below w1.heap.size w1 w' → Calls Tryz.prog 89 #[.string u] w' (fun e w'' => e = .returned (.agg #[.int .u8 3, .int .i64 0, .string u, .slice none 0 0, .slice none 0 0]) ∧ Below w1.heap.size w1 w'' ∧ w''.cell? ⟨w.heap.size, 0, none⟩ = some (.string s) ∧ w''.cell? ⟨w.heap.size, 1, none⟩ = some (.string t) ∧ w.heap.size < w''.heap.size) from fun u w' h => by
    refine (pickTextOf u w').mono ?_
    rintro e w'' ⟨rfl, rfl⟩
    have hb : Below w1.heap.size w1 (w'.alloc (.cells #[.int .u8 3, .int .i64 0, .string u, .slice none 0 0, .slice none 0 0] 44)) := h.alloc h.size _
    exact ⟨rfl, hb, HC.out _ hb⟩)
  have HO := Lib.hid (show ∀ (w' : World), Below w1.heap.size w1 w' → Calls Tryz.prog 93 #[.slice (some ⟨w'.heap.size, 0, none⟩) 2 2] (w'.alloc (.cells #[.string { data := #[112, 117, 98, 108, 105, 99] }, .int .u8 3, .int .i64 0, .string t, .slice none 0 0, .slice none 0 0, .string { data := #[115, 99, 104, 101, 109, 101] }, .int .u8 3, .int .i64 0, .string s, .slice none 0 0, .slice none 0 0] 139)) (fun e w'' => ∃ an cn ai ci, e = .returned (.tuple #[.agg #[.int .u8 5, .int .i64 0, .string { data := #[] }, .slice an 2 cn, .slice ai 2 ci], .int .i64 0]) ∧ Rep w'' w1.heap.size w''.heap.size (keyJ s t) (.agg #[.int .u8 5, .int .i64 0, .string { data := #[] }, .slice an 2 cn, .slice ai 2 ci]) ∧ Below w1.heap.size w1 w'' ∧ w''.cell? ⟨w.heap.size, 0, none⟩ = some (.string s) ∧ w''.cell? ⟨w.heap.size, 1, none⟩ = some (.string t) ∧ w''.rowIs (w.heap.size + 1) 44 5 (pick5 (.int .u8 0) (.int .i64 0) (.string { data := #[] }) (.slice none 0 0) (.slice none 0 0))) from fun w' h => by
    refine (objTwo t s w' _ ht hs).mono ?_
    rintro e w'' ⟨an, cn, ai, ci, rfl, hr, hb⟩
    have hb2 : Below w1.heap.size w1 w'' := (h.alloc h.size _).trans (hb.mono (by have := h.size; simp; omega))
    have hc := HC.out _ hb2
    exact ⟨an, cn, ai, ci, rfl, Rep.carry (by have := h.size; simp; omega) (Nat.le_refl _) (fun _ _ _ => rfl) _ _ hr, hb2, hc.1, hc.2.1, below_row hb2 HRS.out (by omega)⟩)
  have hbz : Below w1.heap.size w1 w1.drew := (Below.refl _ _).drew
  obtain ⟨q0, q1, hzq⟩ := HC.out w1 (Below.refl _ _)
  go_wp2_with fail
  go_region_held3 (fun w' => w'.cell? ⟨w.heap.size, 0, none⟩ = some (.string s) ∧ w'.cell? ⟨w.heap.size, 1, none⟩ = some (.string t)) (first | (with_reducible exact ⟨q0, q1⟩) | (with_reducible exact ⟨(cell_alloc_lt _ hzq).trans q0, (cell_alloc_lt _ hzq).trans q1⟩) | (go_keep; done)) (first | (go_at_call 89; (with_reducible refine (HT.out _ _ hbz).mono ?_); rintro e w2 ⟨rfl, hbz, q0, q1, hzq⟩) | (go_at_call 93; (with_reducible refine (HO.out _ hbz).mono ?_); rintro e w5 ⟨an, cn, ai, ci, rfl, hr5, hb5, q0, q1, hres⟩; have t0 := hres.cell (i := 0) (by decide); have t1 := hres.cell (i := 1) (by decide); have t2 := hres.cell (i := 2) (by decide); have t3 := hres.cell (i := 3) (by decide); have t4 := hres.cell (i := 4) (by decide); have s0 := hres.frozen 0; have s1 := hres.frozen 1; have s2 := hres.frozen 2; have s3 := hres.frozen 3; have s4 := hres.frozen 4; have HRS5 := Lib.hid hres; have HR5 := Lib.hid hr5; have HB5 := Lib.hid hb5; clear hres hr5 hb5; simp only [pick5] at t0 t1 t2 t3 t4))
  go_wp2
  refine bodyPost_ret (results_row_tmp Tryz.results64 _ _ (w.heap.size + 1) 44 _ (0, 0) _ rfl (row5_heap (set5 _ _ _ _ _ HRS5.out)) Tryz.underlying44 rfl (by kernel_rfl) _ rfl) rfl ⟨an, cn, ai, ci, rfl, ?_, below5 _ _ _ _ _ (HB1.out.trans (HB5.out.mono (by omega))) (by omega)⟩
  exact Rep.carry (by omega) (show w5.heap.size ≤ _ by simp [World.setCell]) (fun j hj _ => heap5 _ _ _ _ _ (by omega)) _ _ HR5.out

end Go.Proofs.YtaekmmnpdbmoeaaGreatDoor
