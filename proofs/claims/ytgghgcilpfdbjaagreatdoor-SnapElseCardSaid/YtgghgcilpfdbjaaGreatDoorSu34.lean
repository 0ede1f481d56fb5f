/- For SnapElse: a pin's object without one of its members: its names, its weight, what PinOf tells of it. -/
import Derived.Test.YtgghgcilpfdbjaaGreatDoorSu33

namespace Go.Proofs.YtgghgcilpfdbjaaGreatDoor
open Go.RowKit Go.Shelf Go.Sort
theorem pin_less_rises (p : PinV) (k : Nat) : rises (((pinM p).eraseIdx k).map (·.1)) = true := by
 rw [← map_erase]
 exact (rises_pair _).2 (((rises_pair _).1 (pinM_rises p).1).sublist (List.eraseIdx_sublist _ _))
theorem pinM_wts {p : PinV} (hm : mayPin p = true) : ∀ q ∈ pinM p, q.2.wt ≤ 4294967296 := fun q hq => by
 have hw := pinJ_wt hm
 obtain ⟨i, hi, he⟩ := List.getElem_of_mem (List.mem_map_of_mem (f := (·.2)) hq)
 have h1 := wts_item _ i hi
 rw [he] at h1
 have h2 : JV.wts ((pinM p).map (·.2)) < (pinJ p).wt := (pinJ p).wt_bd.2.2.2
 omega
theorem pin_less_wt {p : PinV} (hm : mayPin p = true) (k : Nat) : (objJ ((pinM p).eraseIdx k)).wt ≤ 4294967296 := by
 have h1 := obj_erase_wt (pinM p) k
 have h2 : (objJ (pinM p)).wt ≤ 2000 := pinJ_wt hm
 omega
theorem pin_cases {p : PinV} (hm : mayPin p = true) (n : Nat) (hn : n < (pinJ p).names.length) :
   ((pinJ p).names[n] = lenN ∧ pinOfA p.name (objJ ((pinM p).eraseIdx n)) = (⟨p.name, p.ver, -1, p.hs⟩, 0)) ∨ ((pinJ p).names[n] = hasN ∧ pinOfA p.name (objJ ((pinM p).eraseIdx n)) = (⟨p.name, p.ver, p.len, []⟩, 0)) ∨ ((pinJ p).names[n] = verN ∧ (pinOfA p.name (objJ ((pinM p).eraseIdx n))).2 = 6) := by
 have hl : n < (pinM p).length := by simpa [pinJ_obj, objJ, JV.names] using hn
 have e : (pinJ p).names[n] = (pinM p)[n].1 := by simp [pinJ_obj, objJ, JV.names]
 rw [e]
 have h := pin_less hm n hl
 rcases pinM_mem (List.getElem_mem hl) with ⟨h1, _⟩ | ⟨h1, _⟩ | h1
 · have h2 : (pinM p)[n].1 = hasN := by rw [h1]
   exact .inr (.inl ⟨h2, h.2 h2⟩)
 · have h2 : (pinM p)[n].1 = lenN := by rw [h1]
   exact .inl ⟨h2, h.1 h2⟩
 · have h2 : (pinM p)[n].1 = verN := by rw [h1]
   obtain ⟨⟨a1, a2, a3⟩, ⟨b1, b2, b3⟩, _⟩ := names_ne
   exact .inr (.inr ⟨h2, pin_nover hm n hl (by rw [h2]; exact b3) (by rw [h2]; exact b2)⟩)
theorem box_set {w : World} {b T j : Nat} {cs : Array Value} {fr : Nat × Nat} (h : w.heap[b]? = some (.cells cs T fr)) (u : Value) : (w.setCell ⟨b, j, none⟩ u).heap[b]? = some (.cells (cs.setIfInBounds j u) T fr) := by
 simp [World.setCell, Array.getElem?_modify, h]
end Go.Proofs.YtgghgcilpfdbjaaGreatDoor
