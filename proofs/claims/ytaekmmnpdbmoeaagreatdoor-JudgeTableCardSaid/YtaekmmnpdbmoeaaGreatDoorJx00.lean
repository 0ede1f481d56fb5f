/- Two rows of verdicts that a call builds side by side (JudgeTable). No program in sight. -/
import Derived.Test.YtaekmmnpdbmoeaaGreatDoorJr23
import Derived.Test.YtaekmmnpdbmoeaaGreatDoorJr13
import Derived.Test.YtaekmmnpdbmoeaaGreatDoorJr07

namespace Go.Proofs.YtaekmmnpdbmoeaaGreatDoor
open Go.RowKit

structure TabAt (W wr : World) (Y N : List Ver3) (ky kn : Nat) (vy vn : Value) : Prop where
  below : Below W.heap.size W wr
  y : wr.ownsRow W.heap.size 60 3 vy ky ((Y.take ky).flatMap encV)
  n : wr.ownsRow W.heap.size 60 3 vn kn ((N.take kn).flatMap encV)
  ne : ∀ b, vy.ownBlock = some b → vn.ownBlock ≠ some b
theorem TabAt.carry {W wr w' : World} {Y N : List Ver3} {ky kn : Nat} {vy vn : Value} (h : TabAt W wr Y N ky kn vy vn) (hb : Below wr.heap.size wr w') : TabAt W w' Y N ky kn vy vn :=
  ⟨h.below.trans (hb.mono h.below.size), owns_below h.y hb, owns_below h.n hb, h.ne⟩
theorem TabAt.swap {W wr : World} {Y N : List Ver3} {ky kn : Nat} {vy vn : Value} (h : TabAt W wr Y N ky kn vy vn) : TabAt W wr N Y kn ky vn vy := ⟨h.below, h.n, h.y, fun b h1 h2 => h.ne b h2 h1⟩
theorem take_enc {Y : List Ver3} {k : Nat} {y : Ver3} (hy : Y[k]? = some y) : (Y.take (k + 1)).flatMap encV = (Y.take k).flatMap encV ++ encV y := by
  obtain ⟨hl, e0⟩ := List.getElem?_eq_some_iff.1 hy
  rw [List.take_succ_eq_append_getElem hl, List.flatMap_append, e0, List.flatMap_cons, List.flatMap_nil, List.append_nil]
/-- One verdict more. -/
theorem TabAt.step {W wr w1 w2 : World} {Y N : List Ver3} {ky kn g c : Nat} {vy vn : Value} {y : Ver3} (h : TabAt W wr Y N ky kn vy vn) (hw : Below wr.heap.size wr w1) (hy : Y[ky]? = some y)
    (ho : w2.ownsRow W.heap.size 60 3 (.slice (some ⟨g, 0, none⟩) (ky + 1) c) (ky + 1) ((Y.take ky).flatMap encV ++ encV y)) (hg : w1.grownBy w2 vy.ownBlock) (hat : vy.ownBlock = some g ∨ g = w1.heap.size) :
    TabAt W w2 Y N (ky + 1) kn (.slice (some ⟨g, 0, none⟩) (ky + 1) c) vn := by
  have h1 := h.carry hw
  refine ⟨below_grown h1.below h1.below.size hg fun b hb => (h1.y.lt b hb).1, ?_, owns_of_block h1.n fun b hb => hg.block b (h1.n.lt b hb).2 fun e => h1.ne b e.symm hb, ?_⟩
  · rw [take_enc hy]; exact ho
  · intro b hb e
    have hb1 : b = g := by simp [Value.ownBlock] at hb; exact hb.symm
    subst hb1
    rcases hat with ha | ha
    · exact h1.ne b ha e
    · have := (h1.n.lt b e).2; omega

end Go.Proofs.YtaekmmnpdbmoeaaGreatDoor
