/- Four blocks laid behind a world, and an object of two texts out of its two rows. No program in sight. -/
import Derived.Test.YtgghgcilpfdbjaaGreatDoorSy13
import Derived.Test.YtgghgcilpfdbjaaGreatDoorSy00

namespace Go.Proofs.YtgghgcilpfdbjaaGreatDoor
open Go.RowKit Go.Shelf Go.Sort
def txtJ (t : ByteArray) : JV := .mk 3 0 t [] []
theorem rep_txt (w : World) (lo hi : Nat) (t : ByteArray) : Rep w lo hi (txtJ t) (.agg #[.int .u8 3, .int .i64 0, .string t, .slice none 0 0, .slice none 0 0]) := by
 unfold txtJ Rep
 exact ⟨none, 0, none, 0, rfl, Nat.le_refl _, Nat.le_refl _, .inl rfl, .inl rfl⟩
def memT (nm t : ByteArray) : Mem := ⟨nm, 3, 0, t, none, 0, 0, none, 0, 0⟩
theorem holds_heap {w : World} {blk T : Nat} {d : Array Mem} (h : w.heap[blk]? = some (.cells (flatK encM 6 d) T (0, 0))) : HoldsK encM 6 w blk 0 d := fun j hj => by
 refine ⟨?_, by simp [World.frozen?, h]⟩
 have e : (flatK encM 6 d)[j]? = some (flatK encM 6 d)[j]! := by rw [getElem!_pos _ j hj, Array.getElem?_eq_getElem hj]
 simp [World.cell?, h, e]
end Go.Proofs.YtgghgcilpfdbjaaGreatDoor

namespace Go.Proofs.YtgghgcilpfdbjaaGreatDoor
open Go.RowKit
theorem size5 {W : World} {b : Nat} {v0 v1 v2 v3 v4 : Value} : (((((W.setCell ⟨b, 0, none⟩ v0).setCell ⟨b, 1, none⟩ v1).setCell ⟨b, 2, none⟩ v2).setCell ⟨b, 3, none⟩ v3).setCell ⟨b, 4, none⟩ v4).heap.size = W.heap.size := by simp [World.setCell]
end Go.Proofs.YtgghgcilpfdbjaaGreatDoor
