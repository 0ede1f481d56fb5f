/- 'v.Names, v.Items = append(v.Names, x), append(v.Items, it)': both rows grow, then both cells are stored. No program in sight. What the examples come to, as plain data. -/
import Derived.Test.YtcahpjejpimdhaaGreatDoorZr15
import Derived.Test.YtcahpjejpimdhaaGreatDoorZr13

namespace Go.Proofs.YtcahpjejpimdhaaGreatDoor
open Go.RowKit

theorem grown_setCell {a b : World} {row : Option Nat} (h : a.grownBy b row) {p : Addr} {v : Value} (hp : p.block < a.heap.size) (hn : some p.block ≠ row) : (a.setCell p v).grownBy (b.setCell p v) row := by
  refine ⟨h.os, h.tape, h.output, by have := h.size; simpa [World.setCell] using this, fun k hk hne => ?_⟩
  have hk' : k < a.heap.size := by simpa [World.setCell] using hk
  by_cases e : k = p.block
  · subst e
    simp only [World.setCell, Array.getElem?_modify, if_true]
    rw [h.block p.block hp hn]
  · rw [Below.heap_setCell _ _ _ _ e, Below.heap_setCell _ _ _ _ e]
    exact h.block k hk' hne

/-- Behind the first append (the names'), the stores still to come. -/
structure Mid4 (W0 W w4 : World) (cb T e1 e5 g cap : Nat) (vn vi : Value) (ns : List ByteArray) (its : List JV) (cs : List Value) (x : ByteArray) : Prop where
  obj : ObjAt W0 (w4.setCell ⟨cb, 3, none⟩ (.slice (some ⟨g, 0, none⟩) (ns.length + 1) cap)) cb T e1 e5 (.slice (some ⟨g, 0, none⟩) (ns.length + 1) cap) vi (ns ++ [x]) its cs
  row : w4.rowIs cb T 5 (pick5 (.int .u8 5) (.int .i64 0) (.string { data := #[] }) vn vi)
  items : w4.ownsRow W0.heap.size e5 5 vi its.length cs
  size : W.heap.size ≤ w4.heap.size
  base : W0.heap.size ≤ W.heap.size
  ne : some cb ≠ vi.ownBlock

theorem mid4 {W0 W V w4 : World} {cb T e1 e5 g cap : Nat} {vn vi : Value} {ns : List ByteArray} {its : List JV} {cs : List Value} (h : ObjAt W0 W cb T e1 e5 vn vi ns its cs) (hV : Below W.heap.size W V) (x : ByteArray)
    (hg : V.grownBy w4 vn.ownBlock) (hat : vn.ownBlock = some g ∨ g = V.heap.size)
    (ho4 : w4.ownsRow W0.heap.size e1 1 (.slice (some ⟨g, 0, none⟩) (ns.length + 1) cap) (ns.length + 1) (ns.map .string ++ [.string x])) : Mid4 W0 W w4 cb T e1 e5 g cap vn vi ns its cs x := by
  have h2 := h.below hV
  have hcb := h2.row.lt
  have hnn : some cb ≠ vn.ownBlock := fun e => by have := (h2.names.lt _ e.symm).1; have := h.lt; omega
  have hni : some cb ≠ vi.ownBlock := fun e => by have := (h2.items.lt _ e.symm).1; have := h.lt; omega
  refine ⟨h2.name x hg (by rcases hat with e | e; exact .inl e; exact .inr (by omega)) ho4, h2.row.of_block (hg.block cb hcb hnn), ?_, Nat.le_trans hV.size hg.size, h.touch.size, hni⟩
  exact owns_of_block h2.items fun b hb => hg.block b (h2.items.lt b hb).2 (fun e => h2.ne b e.symm hb)

theorem Mid4.alloc {W0 W w4 : World} {cb T e1 e5 g cap : Nat} {vn vi : Value} {ns : List ByteArray} {its : List JV} {cs : List Value} {x : ByteArray} (h : Mid4 W0 W w4 cb T e1 e5 g cap vn vi ns its cs x) (o : Obj) : Mid4 W0 W (w4.alloc o) cb T e1 e5 g cap vn vi ns its cs x := by
  have hcb := h.row.lt
  have e : (w4.alloc o).setCell ⟨cb, 3, none⟩ (.slice (some ⟨g, 0, none⟩) (ns.length + 1) cap) = (w4.setCell ⟨cb, 3, none⟩ (.slice (some ⟨g, 0, none⟩) (ns.length + 1) cap)).alloc o := by
    simp only [World.setCell, World.alloc]
    congr 1
    apply Array.ext
    · simp
    · intro i h1 h2
      simp only [Array.getElem_modify, Array.getElem_push]
      simp only [Array.size_modify, Array.size_push] at h1 h2 ⊢
      by_cases hi : i < w4.heap.size
      · simp [hi]
      · have : ¬ cb = i := by omega
        simp [hi, this]
  refine ⟨?_, h.row.alloc o, h.items.alloc o, by have := h.size; simp; omega, h.base, h.ne⟩
  rw [e]
  exact h.obj.below ((Below.refl _ _).alloc (Nat.le_refl _) _)

/-- Behind the second append, and both stores. -/
theorem Mid4.done {W0 W w4 w6 : World} {cb T e1 e5 g cap g2 cap2 : Nat} {vn vi : Value} {ns : List ByteArray} {its : List JV} {cs : List Value} {x : ByteArray} (h : Mid4 W0 W w4 cb T e1 e5 g cap vn vi ns its cs x) (it : JV) (an ai : Option Addr) (cn ci : Nat)
    (hr : ∀ (w : World) (lo hi : Nat), Rep w lo hi it (.agg #[.int .u8 it.kind, .int .i64 it.n, .string it.t, .slice an it.names.length cn, .slice ai it.items.length ci]))
    (hg : w4.grownBy w6 vi.ownBlock) (hat : vi.ownBlock = some g2 ∨ g2 = w4.heap.size)
    (ho : w6.ownsRow W0.heap.size e5 5 (.slice (some ⟨g2, 0, none⟩) (its.length + 1) cap2) (its.length + 1) (cs ++ [.int .u8 it.kind, .int .i64 it.n, .string it.t, .slice an it.names.length cn, .slice ai it.items.length ci])) :
    ObjAt W0 ((w6.setCell ⟨cb, 3, none⟩ (.slice (some ⟨g, 0, none⟩) (ns.length + 1) cap)).setCell ⟨cb, 4, none⟩ (.slice (some ⟨g2, 0, none⟩) (its.length + 1) cap2)) cb T e1 e5 (.slice (some ⟨g, 0, none⟩) (ns.length + 1) cap) (.slice (some ⟨g2, 0, none⟩) (its.length + 1) cap2) (ns ++ [x]) (its ++ [it]) (cs ++ [.int .u8 it.kind, .int .i64 it.n, .string it.t, .slice an it.names.length cn, .slice ai it.items.length ci]) := by
  have hg3 := grown_setCell (p := ⟨cb, 3, none⟩) (v := .slice (some ⟨g, 0, none⟩) (ns.length + 1) cap) hg h.row.lt h.ne
  have hlt := h.obj.lt
  refine h.obj.item (it := it) (Below.refl _ _) (Nat.le_refl _) (Nat.le_refl _) (hr _ _ _) hg3 (by rcases hat with e | e; exact .inl e; exact .inr (by simp [World.setCell]; omega)) ?_
  have := ownsRow_setCell_below ho hlt (Value.slice (some ⟨g, 0, none⟩) (ns.length + 1) cap) (a := ⟨cb, 3, none⟩)
  simpa using this
theorem Mid4.stores {W0 W w4 w6 : World} {cb T e1 e5 g cap : Nat} {vn vi : Value} {ns : List ByteArray} {its : List JV} {cs : List Value} {x : ByteArray} (h : Mid4 W0 W w4 cb T e1 e5 g cap vn vi ns its cs x)
    (hg : w4.grownBy w6 vi.ownBlock) : w6.cell? ⟨cb, 3, none⟩ = some vn ∧ w6.cell? ⟨cb, 4, none⟩ = some vi ∧ w6.frozen? ⟨cb, 3, none⟩ = false ∧ w6.frozen? ⟨cb, 4, none⟩ = false := by
  have hr := h.row.of_block (hg.block cb h.row.lt h.ne)
  exact ⟨hr.cell (by decide), hr.cell (by decide), hr.frozen 3, hr.frozen 4⟩

end Go.Proofs.YtcahpjejpimdhaaGreatDoor

namespace Go.Proofs.YtcahpjejpimdhaaGreatDoor
open Go.RowKit

theorem pub_ne : pubN ≠ schN := by decide
theorem look_pub (s t : ByteArray) : (keyJ s t).look pubN = some (txtJ t) := by
  unfold JV.look keyJ JV.names JV.items; simp [lookL]
theorem look_sch (s t : ByteArray) : (keyJ s t).look schN = some (txtJ s) := by
  unfold JV.look keyJ JV.names JV.items; simp [lookL, pub_ne]
theorem keyOf_keyJ {s t : ByteArray} (h : keyOk s.data.toList t.data.toList = true) : keyOfJ (keyJ s t) = ((s, t), 0) := by
  have h1 : pickText (keyJ s t) pubN ⟨[], 0⟩ = (t, ⟨[pubN], 0⟩) := by unfold pickText; rw [if_neg (by simp), look_pub]; rfl
  have h2 : pickText (keyJ s t) schN ⟨[pubN], 0⟩ = (s, ⟨[schN, pubN], 0⟩) := by unfold pickText; rw [if_neg (by simp), look_sch]; rfl
  have h3 : pickDone (keyJ s t) ⟨[schN, pubN], 0⟩ = 0 := by
    unfold pickDone; rw [if_neg (by simp)]
    have : (keyJ s t).names = [pubN, schN] := rfl
    rw [this]; simp
  unfold keyOfJ
  rw [if_neg (by rw [keyJ_may h]; simp), if_neg (by show ¬ (5 : Int) ≠ 5; simp), h1]
  simp only
  rw [h2]
  simp only
  rw [h3, if_neg (by simp), if_pos h]
/-- An object of a public text alone. -/
def oneJ (t : ByteArray) : JV := .mk 5 0 { data := #[] } [pubN] [txtJ t]
theorem oneJ_may {t : ByteArray} (h2 : txtOk t = true) : (oneJ t).mayB = true := by
  obtain ⟨n1, n2, n3⟩ := names_ok
  unfold JV.mayB oneJ
  have hp : properB 5 0 { data := #[] } [pubN] 1 = true := by
    unfold properB
    rw [ByteArray.toList_eq]
    simp [n1, rises]
  have hm : JV.mays [txtJ t] (12 - 1) (8192 - 1) = (true, 8192 - 1 - 1) := by
    rw [JV.mays, txtJ_may t h2 _ _ (by omega), if_pos rfl, JV.mays]
  rw [JV.may, if_neg (by omega), show ([txtJ t] : List JV).length = 1 from rfl, hp, if_neg (by decide), if_neg (by decide), if_neg (by decide), hm]
theorem keyOf_oneJ {t : ByteArray} (h : txtOk t = true) : keyOfJ (oneJ t) = (({ data := #[] }, { data := #[] }), 6) := by
  have l1 : (oneJ t).look pubN = some (txtJ t) := by unfold JV.look oneJ JV.names JV.items; simp [lookL]
  have l2 : (oneJ t).look schN = none := by unfold JV.look oneJ JV.names JV.items; simp [lookL, pub_ne]
  have h1 : pickText (oneJ t) pubN ⟨[], 0⟩ = (t, ⟨[pubN], 0⟩) := by unfold pickText; rw [if_neg (by simp), l1]; rfl
  have h2 : pickText (oneJ t) schN ⟨[pubN], 0⟩ = ({ data := #[] }, ⟨[pubN], 6⟩) := by unfold pickText; rw [if_neg (by simp), l2]
  have h3 : pickDone (oneJ t) ⟨[pubN], 6⟩ = 6 := by unfold pickDone; rw [if_pos (by simp)]
  unfold keyOfJ
  rw [if_neg (by rw [oneJ_may h]; simp), if_neg (by show ¬ (5 : Int) ≠ 5; simp), h1]
  simp only
  rw [h2]
  simp only
  rw [h3, if_pos (by simp)]

def exS : ByteArray := { data := #[101, 100, 50, 53, 53, 49, 57] }
def exP : ByteArray := { data := #[48, 48, 102, 102] }
theorem ex_ok : keyOk exS.data.toList exP.data.toList = true := by decide
theorem ex_bad : keyOk exS.data.toList [48, 102, 48] = false := by decide
theorem ex_form : keyForm exS.data.toList exP.data.toList = [123, 34, 112, 117, 98, 108, 105, 99, 34, 58, 34, 48, 48, 102, 102, 34, 44, 34, 115, 99, 104, 101, 109, 101, 34, 58, 34, 101, 100, 50, 53, 53, 49, 57, 34, 125] := by decide

end Go.Proofs.YtcahpjejpimdhaaGreatDoor
