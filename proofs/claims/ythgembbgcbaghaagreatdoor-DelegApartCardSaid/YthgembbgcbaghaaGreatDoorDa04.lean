/- Rows of three and of four cells that are stored to cell by cell. No program in sight. -/
import Derived.Test.YthgembbgcbaghaaGreatDoorDa00

namespace Go.Proofs.YthgembbgcbaghaaGreatDoor
open Go.RowKit
def xy (v0 v1 v2 v3:Value):Nat→Value
 | 0=>v0|1=>v1|2=>v2|_=>v3
theorem gY (w:World) (v0 v1 v2 v3:Value) (t:Nat):(w.alloc (.cells #[v0,v1,v2,v3] t)).rowIs w.heap.size t 4 (xy v0 v1 v2 v3):=xR rfl
theorem yw {w:World} {b t:Nat} {v0 v1 v2 v3:Value} (h:w.rowIs b t 4 (xy v0 v1 v2 v3)):w.heap[b]?=some (.cells #[v0,v1,v2,v3] t (0,0)):=by
 obtain ⟨c,hc,hn,hf⟩:=h
 have e:c=#[v0,v1,v2,v3]:=by
  apply Array.ext (by simp [hn])
  intro i h1 h2
  have:=hf i (by omega)
  rw [Array.getElem?_eq_getElem h1] at this
  have h3:=Option.some.inj this
  rw [h3]
  rcases i with _|_|_|_|i <;> first|rfl|(simp at h2;omega)
 rw [hc,e]
theorem aX {W:World} {b t:Nat} {f:Nat→Value} (v0 v1 v2 v3:Value) (h:W.rowIs b t 4 f):((((W.setCell ⟨b,0,none⟩ v0).setCell ⟨b,1,none⟩ v1).setCell ⟨b,2,none⟩ v2).setCell ⟨b,3,none⟩ v3).rowIs b t 4 (xy v0 v1 v2 v3):=by
 refine ((((h.set 0 v0).set 1 v1).set 2 v2).set 3 v3).congr fun j hj=>?_
 rcases j with _|_|_|_|j <;> first|rfl|omega
theorem me {B:Nat} {a W:World} {b:Nat} (v0 v1 v2 v3:Value) (h:Below B a W) (hb:B≤b):Below B a ((((W.setCell ⟨b,0,none⟩ v0).setCell ⟨b,1,none⟩ v1).setCell ⟨b,2,none⟩ v2).setCell ⟨b,3,none⟩ v3):=((((h.setCell hb v0).setCell hb v1).setCell hb v2).setCell hb v3)
theorem tf {W:World} {b k:Nat} (v0 v1 v2 v3:Value) (hk:k≠b):((((W.setCell ⟨b,0,none⟩ v0).setCell ⟨b,1,none⟩ v1).setCell ⟨b,2,none⟩ v2).setCell ⟨b,3,none⟩ v3).heap[k]?=W.heap[k]?:=by
 rw [Below.heap_setCell _ _ _ _ hk,Below.heap_setCell _ _ _ _ hk,Below.heap_setCell _ _ _ _ hk,Below.heap_setCell _ _ _ _ hk]
theorem th {W:World} {b:Nat} {v0 v1 v2 v3:Value}:((((W.setCell ⟨b,0,none⟩ v0).setCell ⟨b,1,none⟩ v1).setCell ⟨b,2,none⟩ v2).setCell ⟨b,3,none⟩ v3).heap.size=W.heap.size:=by simp [World.setCell]
end Go.Proofs.YthgembbgcbaghaaGreatDoor
