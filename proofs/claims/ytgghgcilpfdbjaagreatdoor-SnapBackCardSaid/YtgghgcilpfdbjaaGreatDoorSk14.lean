/- Texts and numbers as values, and members that hold them. Four blocks laid behind a world, and an object of two texts out of its two rows. No program in sight. -/
import Derived.Test.YtgghgcilpfdbjaaGreatDoorSk13
import Derived.Test.YtgghgcilpfdbjaaGreatDoorSk00

namespace Go.Proofs.YtgghgcilpfdbjaaGreatDoor
open Go.RowKit Go.Shelf Go.Sort

def txtJ (t : ByteArray) : JV := .mk 3 0 t [] []
theorem rep_txt (w : World) (lo hi : Nat) (t : ByteArray) : Rep w lo hi (txtJ t) (.agg #[.int .u8 3, .int .i64 0, .string t, .slice none 0 0, .slice none 0 0]) := by
  unfold txtJ Rep
  exact ⟨none, 0, none, 0, rfl, Nat.le_refl _, Nat.le_refl _, .inl rfl, .inl rfl⟩

def memT (nm t : ByteArray) : Mem := ⟨nm, 3, 0, t, none, 0, 0, none, 0, 0⟩
theorem holds_heap {w : World} {blk T : Nat} {d : Array Mem} (h : w.heap[blk]? = some (.cells (flatK encM 6 d) T (0, 0))) : HoldsK encM 6 w blk 0 d := fun j hj => by
  refine ⟨?_, by simp [World.frozen?, h]⟩
  have e : (flatK encM 6 d)[j]? = some (flatK encM 6 d)[j]! := by rw [getElem!_pos _ j hj, Array.getElem?_eq_getElem hj]
  simp [World.cell?, h, e]
theorem flat_two (a b : Mem) : flatK encM 6 #[a, b] = #[.string a.name, .int .u8 a.k, .int .i64 a.n, .string a.t, .slice a.an a.nn a.cn, .slice a.ai a.ni a.ci, .string b.name, .int .u8 b.k, .int .i64 b.n, .string b.t, .slice b.an b.nn b.cn, .slice b.ai b.ni b.ci] := by
  apply Array.ext
  · simp
  · intro i h1 h2
    have h3 : i < 12 := by simpa using h2
    simp only [flatK, Array.getElem_map, Array.getElem_range]
    match i, h3 with
    | 0, _ => rfl
    | 1, _ => rfl
    | 2, _ => rfl
    | 3, _ => rfl
    | 4, _ => rfl
    | 5, _ => rfl
    | 6, _ => rfl
    | 7, _ => rfl
    | 8, _ => rfl
    | 9, _ => rfl
    | 10, _ => rfl
    | 11, _ => rfl

end Go.Proofs.YtgghgcilpfdbjaaGreatDoor

namespace Go.Proofs.YtgghgcilpfdbjaaGreatDoor
open Go.RowKit

theorem h40 (w : World) (a b c d : Obj) : ((((w.alloc a).alloc b).alloc c).alloc d).heap[w.heap.size]? = some a := by
  rw [Below.heap_alloc _ _ _ (by simp <;> omega), Below.heap_alloc _ _ _ (by simp <;> omega), Below.heap_alloc _ _ _ (by simp)]; exact heap_alloc_new w a
theorem h41 (w : World) (a b c d : Obj) : ((((w.alloc a).alloc b).alloc c).alloc d).heap[w.heap.size + 1]? = some b := by
  rw [Below.heap_alloc _ _ _ (by simp <;> omega), Below.heap_alloc _ _ _ (by simp)]
  have := heap_alloc_new (w.alloc a) b
  rwa [show (w.alloc a).heap.size = w.heap.size + 1 by simp] at this
theorem h42 (w : World) (a b c d : Obj) : ((((w.alloc a).alloc b).alloc c).alloc d).heap[w.heap.size + 1 + 1]? = some c := by
  rw [Below.heap_alloc _ _ _ (by simp)]
  have := heap_alloc_new ((w.alloc a).alloc b) c
  rwa [show ((w.alloc a).alloc b).heap.size = w.heap.size + 1 + 1 by simp] at this
theorem h43 (w : World) (a b c d : Obj) : ((((w.alloc a).alloc b).alloc c).alloc d).heap[w.heap.size + 1 + 1 + 1]? = some d := by
  have := heap_alloc_new (((w.alloc a).alloc b).alloc c) d
  rwa [show (((w.alloc a).alloc b).alloc c).heap.size = w.heap.size + 1 + 1 + 1 by simp] at this

theorem below_n2 (w : World) (a b : Obj) : Below w.heap.size w ((w.alloc a).alloc b) := ((Below.refl _ _).alloc (Nat.le_refl _) _).alloc (by simp) _
theorem below_n3 (w : World) (a b c : Obj) : Below w.heap.size w (((w.alloc a).alloc b).alloc c) := (below_n2 w a b).alloc (below_n2 w a b).size _
theorem below_n4 (w : World) (a b c d : Obj) : Below w.heap.size w ((((w.alloc a).alloc b).alloc c).alloc d) := (below_n3 w a b c).alloc (below_n3 w a b c).size _

theorem heap5s {W : World} {b bn : Nat} {o : Obj} {v0 v1 v2 v3 v4 : Value} (hne : bn ≠ b) (h : W.heap[bn]? = some o) :
    (((((W.setCell ⟨b, 0, none⟩ v0).setCell ⟨b, 1, none⟩ v1).setCell ⟨b, 2, none⟩ v2).setCell ⟨b, 3, none⟩ v3).setCell ⟨b, 4, none⟩ v4).heap[bn]? = some o := by
  rw [Below.heap_setCell _ _ _ _ hne, Below.heap_setCell _ _ _ _ hne, Below.heap_setCell _ _ _ _ hne, Below.heap_setCell _ _ _ _ hne, Below.heap_setCell _ _ _ _ hne]; exact h
theorem size5 {W : World} {b : Nat} {v0 v1 v2 v3 v4 : Value} : (((((W.setCell ⟨b, 0, none⟩ v0).setCell ⟨b, 1, none⟩ v1).setCell ⟨b, 2, none⟩ v2).setCell ⟨b, 3, none⟩ v3).setCell ⟨b, 4, none⟩ v4).heap.size = W.heap.size := by simp [World.setCell]

theorem rep_drew {W : World} {lo : Nat} {v : JV} {x : Value} (h : Rep W lo W.heap.size v x) : Rep W.drew lo W.drew.heap.size v x := Rep.carry (w := W) (w' := W.drew) (Nat.le_refl _) (Nat.le_refl _) (fun _ _ _ => rfl) v x h

/-- An object of two texts out of its two rows. -/
theorem rep_two {w : World} {lo hi bn bi T T' : Nat} {n1 n2 s t : ByteArray} (hn : w.heap[bn]? = some (.cells #[.string n1, .string n2] T (0, 0)))
    (hi' : w.heap[bi]? = some (.cells #[.int .u8 3, .int .i64 0, .string s, .slice none 0 0, .slice none 0 0, .int .u8 3, .int .i64 0, .string t, .slice none 0 0, .slice none 0 0] T' (0, 0))) (h1 : lo ≤ bn) (h2 : bn < hi) (h3 : lo ≤ bi) (h4 : bi < hi) :
    Rep w lo hi (.mk 5 0 { data := #[] } [n1, n2] [txtJ s, txtJ t]) (.agg #[.int .u8 5, .int .i64 0, .string { data := #[] }, .slice (some ⟨bn, 0, none⟩) 2 2, .slice (some ⟨bi, 0, none⟩) 2 2]) := by
  unfold Rep
  refine ⟨_, 2, _, 2, rfl, Nat.le_refl _, Nat.le_refl _, .inr ⟨bn, 0, rfl, h1, h2, fun i hi => ?_⟩, .inr ⟨bi, 0, rfl, h3, h4, ⟨_, T', (0, 0), hi', fun _ => rfl⟩, ?_⟩⟩
  · have h : i < 2 := hi
    match i, h with
    | 0, _ => simp [World.cell?, hn]
    | 1, _ => simp [World.cell?, hn]
  · unfold RepL RepL RepL
    have f : ∀ o, w.frozen? ⟨bi, o, none⟩ = false := fun o => by simp [World.frozen?, hi']
    exact ⟨⟨_, _, _, _, _, box_cell hi' rfl, box_cell hi' rfl, box_cell hi' rfl, box_cell hi' rfl, box_cell hi' rfl, f _, rep_txt _ _ _ _⟩, ⟨_, _, _, _, _, box_cell hi' rfl, box_cell hi' rfl, box_cell hi' rfl, box_cell hi' rfl, box_cell hi' rfl, f _, rep_txt _ _ _ _⟩, trivial⟩
/-- An object of two values out of its two rows. -/
theorem rep_vals2 {w : World} {lo hi bn bi T T' : Nat} {n1 n2 : ByteArray} {u v : JV} {a0 a1 a2 a3 a4 b0 b1 b2 b3 b4 : Value} (hn : w.heap[bn]? = some (.cells #[.string n1, .string n2] T (0, 0)))
    (hi' : w.heap[bi]? = some (.cells #[a0, a1, a2, a3, a4, b0, b1, b2, b3, b4] T' (0, 0))) (h1 : lo ≤ bn) (h2 : bn < hi) (h3 : lo ≤ bi) (h4 : bi < hi)
    (hu : Rep w lo hi u (.agg #[a0, a1, a2, a3, a4])) (hv : Rep w lo hi v (.agg #[b0, b1, b2, b3, b4])) :
    Rep w lo hi (.mk 5 0 { data := #[] } [n1, n2] [u, v]) (.agg #[.int .u8 5, .int .i64 0, .string { data := #[] }, .slice (some ⟨bn, 0, none⟩) 2 2, .slice (some ⟨bi, 0, none⟩) 2 2]) := by
  unfold Rep
  refine ⟨_, 2, _, 2, rfl, Nat.le_refl _, Nat.le_refl _, .inr ⟨bn, 0, rfl, h1, h2, fun i hi => ?_⟩, .inr ⟨bi, 0, rfl, h3, h4, ⟨_, T', (0, 0), hi', fun _ => rfl⟩, ?_⟩⟩
  · have h : i < 2 := hi
    match i, h with
    | 0, _ => simp [World.cell?, hn]
    | 1, _ => simp [World.cell?, hn]
  · unfold RepL RepL RepL
    have f : ∀ o, w.frozen? ⟨bi, o, none⟩ = false := fun o => by simp [World.frozen?, hi']
    exact ⟨⟨_, _, _, _, _, box_cell hi' rfl, box_cell hi' rfl, box_cell hi' rfl, box_cell hi' rfl, box_cell hi' rfl, f _, hu⟩, ⟨_, _, _, _, _, box_cell hi' rfl, box_cell hi' rfl, box_cell hi' rfl, box_cell hi' rfl, box_cell hi' rfl, f _, hv⟩, trivial⟩

theorem grow_cellB {W wr w' : World} {row : Option Nat} {b j : Nat} {u : Value} (h : W.grownBy w' row) (hb : Below wr.heap.size wr W) (hlt : b < wr.heap.size) (hn : some b ≠ row) (hc : wr.cell? ⟨b, j, none⟩ = some u) : w'.cell? ⟨b, j, none⟩ = some u := by
  rw [World.cell?_of_block (w := wr) (show w'.heap[b]? = wr.heap[b]? by rw [h.block b (Nat.lt_of_lt_of_le hlt hb.size) hn, hb.block b hlt])]; exact hc
theorem grow_frozenB {W wr w' : World} {row : Option Nat} {b j : Nat} (h : W.grownBy w' row) (hb : Below wr.heap.size wr W) (hlt : b < wr.heap.size) (hn : some b ≠ row) (hc : wr.frozen? ⟨b, j, none⟩ = false) : w'.frozen? ⟨b, j, none⟩ = false := by
  have e : w'.heap[b]? = wr.heap[b]? := by rw [h.block b (Nat.lt_of_lt_of_le hlt hb.size) hn, hb.block b hlt]
  unfold World.frozen? at hc ⊢
  rw [e]; exact hc

end Go.Proofs.YtgghgcilpfdbjaaGreatDoor
