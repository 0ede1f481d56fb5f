/- 'Touch S w w'': of the blocks that were there only those in S may have changed. No program in sight. -/
import Derived.Test.YtcahpjejpimdhaaGreatDoorRep
import Derived.Deep.OwnRows
import Derived.Deep.Draws
namespace Go.Proofs.YtcahpjejpimdhaaGreatDoor
open Go.RowKit

structure Touch (S : Nat → Prop) (w w' : World) : Prop where
  os : w'.os = w.os
  tape : w'.tape = w.tape
  output : w'.output = w.output
  size : w.heap.size ≤ w'.heap.size
  block : ∀ k, k < w.heap.size → ¬ S k → w'.heap[k]? = w.heap[k]?

theorem Touch.refl (S : Nat → Prop) (w : World) : Touch S w w := ⟨rfl, rfl, rfl, Nat.le_refl _, fun _ _ _ => rfl⟩
theorem Touch.trans {S : Nat → Prop} {a b c : World} (h : Touch S a b) (k : Touch S b c) : Touch S a c :=
  ⟨k.os.trans h.os, k.tape.trans h.tape, k.output.trans h.output, Nat.le_trans h.size k.size, fun i hi hs => (k.block i (Nat.lt_of_lt_of_le hi h.size) hs).trans (h.block i hi hs)⟩
theorem Touch.mono {S S' : Nat → Prop} {w w' : World} (h : Touch S w w') (hs : ∀ k, k < w.heap.size → S k → S' k) : Touch S' w w' := ⟨h.os, h.tape, h.output, h.size, fun k hk hn => h.block k hk fun s => hn (hs k hk s)⟩
theorem Touch.of_below {S : Nat → Prop} {w w' : World} {B : Nat} (h : Below B w w') (hB : w.heap.size ≤ B) : Touch S w w' := ⟨h.os, h.tape, h.output, h.size, fun k hk _ => h.block k (by omega)⟩
theorem Touch.below {S : Nat → Prop} {w w' : World} {B : Nat} (h : Touch S w w') (hB : B ≤ w.heap.size) (hs : ∀ k, k < B → ¬ S k) : Below B w w' := ⟨h.os, h.tape, h.output, h.size, fun k hk => h.block k (by omega) (hs k hk)⟩
theorem Touch.drew {S : Nat → Prop} {a w : World} (h : Touch S a w) : Touch S a w.drew := ⟨h.os, h.tape, h.output, h.size, h.block⟩
theorem Touch.drewN {S : Nat → Prop} {a w : World} (h : Touch S a w) (n : Nat) : Touch S a (w.drewN n) := ⟨h.os, h.tape, h.output, h.size, h.block⟩
theorem Touch.alloc {S : Nat → Prop} {a w : World} (h : Touch S a w) (o : Obj) : Touch S a (w.alloc o) :=
  ⟨h.os, h.tape, h.output, by have := h.size; simp; omega, fun k hk hs => by rw [Below.heap_alloc _ _ _ (Nat.lt_of_lt_of_le hk h.size)]; exact h.block k hk hs⟩
theorem Touch.setCell {S : Nat → Prop} {a w : World} (h : Touch S a w) {p : Addr} (hp : S p.block ∨ a.heap.size ≤ p.block) (u : Value) : Touch S a (w.setCell p u) :=
  ⟨h.os, h.tape, h.output, by have := h.size; simp [World.setCell]; omega, fun k hk hs => by
    rw [Below.heap_setCell _ _ _ _ (fun e => by rcases hp with hp | hp; exact hs (e ▸ hp); omega)]; exact h.block k hk hs⟩
theorem Touch.cell {S : Nat → Prop} {w w' : World} (h : Touch S w w') {p : Addr} (hp : p.block < w.heap.size) (hs : ¬ S p.block) : w'.cell? p = w.cell? p := World.cell?_of_block (w := w) (h.block p.block hp hs)
theorem Touch.frozen {S : Nat → Prop} {w w' : World} (h : Touch S w w') {p : Addr} (hp : p.block < w.heap.size) (hs : ¬ S p.block) : w'.frozen? p = w.frozen? p := World.frozen?_of_block (w := w) (h.block p.block hp hs)
theorem Touch.row {S : Nat → Prop} {w w' : World} (h : Touch S w w') {b t n : Nat} {f : Nat → Value} (hr : w.rowIs b t n f) (hs : ¬ S b) : w'.rowIs b t n f := hr.of_block (h.block b hr.lt hs)
theorem Below.drewN {B : Nat} {a w : World} (h : Below B a w) (n : Nat) : Below B a (w.drewN n) := ⟨h.os, h.tape, h.output, h.size, h.block⟩
theorem below_row {B : Nat} {w w' : World} (h : Below B w w') {b t n : Nat} {f : Nat → Value} (hr : w.rowIs b t n f) (hb : b < B) : w'.rowIs b t n f := hr.of_block (h.block b hb)

theorem rowIs_rep (w : World) (z : Value) (n : Nat) (t : TypeId) (f : Nat → Value) (hf : ∀ i, i < n → f i = z) : (w.alloc (.cells (Array.replicate n z) t)).rowIs w.heap.size t n f := by
  have := World.rowIs_alloc w (Array.replicate n z) t f (by intro i hi; simp at hi; simp [hi, hf i hi])
  simpa using this

theorem rowIs_any (w : World) (c : Array Value) (t n : Nat) (hn : c.size = n) : (w.alloc (.cells c t)).rowIs w.heap.size t n (fun i => c.getD i default) := by
  have := World.rowIs_alloc w c t (fun i => c.getD i default) (fun i hi => by simp [hi])
  rwa [hn] at this
theorem rowIs_eq {w : World} {c : Array Value} {t n : Nat} {f : Nat → Value} (h : c = ((List.range n).map f).toArray) : (w.alloc (.cells c t)).rowIs w.heap.size t n f := by
  subst h
  have := World.rowIs_alloc w ((List.range n).map f).toArray t f (fun i hi => by simp at hi; simp [hi])
  simpa using this
theorem cell_alloc_lt {w : World} (o : Obj) {p : Addr} (h : p.block < w.heap.size) : (w.alloc o).cell? p = w.cell? p := World.cell?_of_block (w := w) (Below.heap_alloc w o p.block h)
theorem cell_setCell_ne {w : World} {p q : Addr} (u : Value) (h : p.block ≠ q.block) : (w.setCell q u).cell? p = w.cell? p := World.cell?_of_block (w := w) (Below.heap_setCell w q u p.block h)
def pick5 (v0 v1 v2 v3 v4 : Value) : Nat → Value
  | 0 => v0 | 1 => v1 | 2 => v2 | 3 => v3 | _ => v4
theorem rowIs_box5 (w : World) (v0 v1 v2 v3 v4 : Value) (t : Nat) : (w.alloc (.cells #[v0, v1, v2, v3, v4] t)).rowIs w.heap.size t 5 (pick5 v0 v1 v2 v3 v4) := rowIs_eq rfl
theorem row5_heap {w : World} {b t : Nat} {v0 v1 v2 v3 v4 : Value} (h : w.rowIs b t 5 (pick5 v0 v1 v2 v3 v4)) : w.heap[b]? = some (.cells #[v0, v1, v2, v3, v4] t (0, 0)) := by
  obtain ⟨c, hc, hn, hf⟩ := h
  have e : c = #[v0, v1, v2, v3, v4] := by
    apply Array.ext (by simp [hn])
    intro i h1 h2
    have := hf i (by omega)
    rw [Array.getElem?_eq_getElem h1] at this
    have h3 := Option.some.inj this
    rw [h3]
    rcases i with _ | _ | _ | _ | _ | i <;> first | rfl | (simp at h2; omega)
  rw [hc, e]
def pick8 (v0 v1 v2 v3 v4 v5 v6 v7 : Value) : Nat → Value
  | 0 => v0 | 1 => v1 | 2 => v2 | 3 => v3 | 4 => v4 | 5 => v5 | 6 => v6 | _ => v7
theorem set8 {W : World} {b t : Nat} {f : Nat → Value} (v0 v1 v2 v3 v4 v5 v6 v7 : Value) (h : W.rowIs b t 8 f) :
    ((((((((W.setCell ⟨b, 0, none⟩ v0).setCell ⟨b, 1, none⟩ v1).setCell ⟨b, 2, none⟩ v2).setCell ⟨b, 3, none⟩ v3).setCell ⟨b, 4, none⟩ v4).setCell ⟨b, 5, none⟩ v5).setCell ⟨b, 6, none⟩ v6).setCell ⟨b, 7, none⟩ v7).rowIs b t 8 (pick8 v0 v1 v2 v3 v4 v5 v6 v7) := by
  refine ((((((((h.set 0 v0).set 1 v1).set 2 v2).set 3 v3).set 4 v4).set 5 v5).set 6 v6).set 7 v7).congr fun j hj => ?_
  rcases j with _ | _ | _ | _ | _ | _ | _ | _ | j <;> first | rfl | omega
theorem below8 {B : Nat} {a W : World} {b : Nat} (v0 v1 v2 v3 v4 v5 v6 v7 : Value) (h : Below B a W) (hb : B ≤ b) :
    Below B a ((((((((W.setCell ⟨b, 0, none⟩ v0).setCell ⟨b, 1, none⟩ v1).setCell ⟨b, 2, none⟩ v2).setCell ⟨b, 3, none⟩ v3).setCell ⟨b, 4, none⟩ v4).setCell ⟨b, 5, none⟩ v5).setCell ⟨b, 6, none⟩ v6).setCell ⟨b, 7, none⟩ v7) :=
  (((((((h.setCell hb v0).setCell hb v1).setCell hb v2).setCell hb v3).setCell hb v4).setCell hb v5).setCell hb v6).setCell hb v7

end Go.Proofs.YtcahpjejpimdhaaGreatDoor
