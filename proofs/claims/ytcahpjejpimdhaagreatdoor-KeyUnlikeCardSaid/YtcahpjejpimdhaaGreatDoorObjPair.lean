/- 'v.Names, v.Items = append(v.Names, x), append(v.Items, it)': both rows grow, then both cells are stored. No program in sight. -/
import Derived.Test.YtcahpjejpimdhaaGreatDoorKeyOf
namespace Go.Proofs.YtcahpjejpimdhaaGreatDoor
open Go.RowKit

theorem grown_setCell {a b : World} {row : Option Nat} (h : a.grownBy b row) {p : Addr} {v : Value} (hp : p.block < a.heap.size) (hn : some p.block ≠ row) : (a.setCell p v).grownBy (b.setCell p v) row := by
  refine ⟨h.os, h.tape, h.output, by have := h.size; simpa [World.setCell] using this, fun k hk hne => ?_⟩
  have hk' : k < a.heap.size := by simpa [World.setCell] using hk
  by_cases e : k = p.block
  · subst e
    simp only [World.setCell, Array.getElem?_modify, if_true]
    rw [h.block p.block hp hn]
  · rw [Below.heap_setCell _ _ _ _ e, Below.heap_setCell _ _ _ _ e]
    exact h.block k hk' hne

/-- Behind the first append (the names'), the stores still to come. -/
structure Mid4 (W0 W w4 : World) (cb T e1 e5 g cap : Nat) (vn vi : Value) (ns : List ByteArray) (its : List JV) (cs : List Value) (x : ByteArray) : Prop where
  obj : ObjAt W0 (w4.setCell ⟨cb, 3, none⟩ (.slice (some ⟨g, 0, none⟩) (ns.length + 1) cap)) cb T e1 e5 (.slice (some ⟨g, 0, none⟩) (ns.length + 1) cap) vi (ns ++ [x]) its cs
  row : w4.rowIs cb T 5 (pick5 (.int .u8 5) (.int .i64 0) (.string { data := #[] }) vn vi)
  items : w4.ownsRow W0.heap.size e5 5 vi its.length cs
  size : W.heap.size ≤ w4.heap.size
  base : W0.heap.size ≤ W.heap.size
  ne : some cb ≠ vi.ownBlock

theorem mid4 {W0 W V w4 : World} {cb T e1 e5 g cap : Nat} {vn vi : Value} {ns : List ByteArray} {its : List JV} {cs : List Value} (h : ObjAt W0 W cb T e1 e5 vn vi ns its cs) (hV : Below W.heap.size W V) (x : ByteArray)
    (hg : V.grownBy w4 vn.ownBlock) (hat : vn.ownBlock = some g ∨ g = V.heap.size)
    (ho4 : w4.ownsRow W0.heap.size e1 1 (.slice (some ⟨g, 0, none⟩) (ns.length + 1) cap) (ns.length + 1) (ns.map .string ++ [.string x])) : Mid4 W0 W w4 cb T e1 e5 g cap vn vi ns its cs x := by
  have h2 := h.below hV
  have hcb := h2.row.lt
  have hnn : some cb ≠ vn.ownBlock := fun e => by have := (h2.names.lt _ e.symm).1; have := h.lt; omega
  have hni : some cb ≠ vi.ownBlock := fun e => by have := (h2.items.lt _ e.symm).1; have := h.lt; omega
  refine ⟨h2.name x hg (by rcases hat with e | e; exact .inl e; exact .inr (by omega)) ho4, h2.row.of_block (hg.block cb hcb hnn), ?_, Nat.le_trans hV.size hg.size, h.touch.size, hni⟩
  exact owns_of_block h2.items fun b hb => hg.block b (h2.items.lt b hb).2 (fun e => h2.ne b e.symm hb)

theorem Mid4.alloc {W0 W w4 : World} {cb T e1 e5 g cap : Nat} {vn vi : Value} {ns : List ByteArray} {its : List JV} {cs : List Value} {x : ByteArray} (h : Mid4 W0 W w4 cb T e1 e5 g cap vn vi ns its cs x) (o : Obj) : Mid4 W0 W (w4.alloc o) cb T e1 e5 g cap vn vi ns its cs x := by
  have hcb := h.row.lt
  have e : (w4.alloc o).setCell ⟨cb, 3, none⟩ (.slice (some ⟨g, 0, none⟩) (ns.length + 1) cap) = (w4.setCell ⟨cb, 3, none⟩ (.slice (some ⟨g, 0, none⟩) (ns.length + 1) cap)).alloc o := by
    simp only [World.setCell, World.alloc]
    congr 1
    apply Array.ext
    · simp
    · intro i h1 h2
      simp only [Array.getElem_modify, Array.getElem_push]
      simp only [Array.size_modify, Array.size_push] at h1 h2 ⊢
      by_cases hi : i < w4.heap.size
      · simp [hi]
      · have : ¬ cb = i := by omega
        simp [hi, this]
  refine ⟨?_, h.row.alloc o, h.items.alloc o, by have := h.size; simp; omega, h.base, h.ne⟩
  rw [e]
  exact h.obj.below ((Below.refl _ _).alloc (Nat.le_refl _) _)

/-- Behind the second append, and both stores. -/
theorem Mid4.done {W0 W w4 w6 : World} {cb T e1 e5 g cap g2 cap2 : Nat} {vn vi : Value} {ns : List ByteArray} {its : List JV} {cs : List Value} {x : ByteArray} (h : Mid4 W0 W w4 cb T e1 e5 g cap vn vi ns its cs x) (it : JV) (an ai : Option Addr) (cn ci : Nat)
    (hr : ∀ (w : World) (lo hi : Nat), Rep w lo hi it (.agg #[.int .u8 it.kind, .int .i64 it.n, .string it.t, .slice an it.names.length cn, .slice ai it.items.length ci]))
    (hg : w4.grownBy w6 vi.ownBlock) (hat : vi.ownBlock = some g2 ∨ g2 = w4.heap.size)
    (ho : w6.ownsRow W0.heap.size e5 5 (.slice (some ⟨g2, 0, none⟩) (its.length + 1) cap2) (its.length + 1) (cs ++ [.int .u8 it.kind, .int .i64 it.n, .string it.t, .slice an it.names.length cn, .slice ai it.items.length ci])) :
    ObjAt W0 ((w6.setCell ⟨cb, 3, none⟩ (.slice (some ⟨g, 0, none⟩) (ns.length + 1) cap)).setCell ⟨cb, 4, none⟩ (.slice (some ⟨g2, 0, none⟩) (its.length + 1) cap2)) cb T e1 e5 (.slice (some ⟨g, 0, none⟩) (ns.length + 1) cap) (.slice (some ⟨g2, 0, none⟩) (its.length + 1) cap2) (ns ++ [x]) (its ++ [it]) (cs ++ [.int .u8 it.kind, .int .i64 it.n, .string it.t, .slice an it.names.length cn, .slice ai it.items.length ci]) := by
  have hg3 := grown_setCell (p := ⟨cb, 3, none⟩) (v := .slice (some ⟨g, 0, none⟩) (ns.length + 1) cap) hg h.row.lt h.ne
  have hlt := h.obj.lt
  refine h.obj.item (it := it) (Below.refl _ _) (Nat.le_refl _) (Nat.le_refl _) (hr _ _ _) hg3 (by rcases hat with e | e; exact .inl e; exact .inr (by simp [World.setCell]; omega)) ?_
  have := ownsRow_setCell_below ho hlt (Value.slice (some ⟨g, 0, none⟩) (ns.length + 1) cap) (a := ⟨cb, 3, none⟩)
  simpa using this
theorem Mid4.stores {W0 W w4 w6 : World} {cb T e1 e5 g cap : Nat} {vn vi : Value} {ns : List ByteArray} {its : List JV} {cs : List Value} {x : ByteArray} (h : Mid4 W0 W w4 cb T e1 e5 g cap vn vi ns its cs x)
    (hg : w4.grownBy w6 vi.ownBlock) : w6.cell? ⟨cb, 3, none⟩ = some vn ∧ w6.cell? ⟨cb, 4, none⟩ = some vi ∧ w6.frozen? ⟨cb, 3, none⟩ = false ∧ w6.frozen? ⟨cb, 4, none⟩ = false := by
  have hr := h.row.of_block (hg.block cb h.row.lt h.ne)
  exact ⟨hr.cell (by decide), hr.cell (by decide), hr.frozen 3, hr.frozen 4⟩

end Go.Proofs.YtcahpjejpimdhaaGreatDoor
