/- The contract of value.Copy for a value that came in, whatever marks its blocks bear: an Item that is nested two deep, or more, may have become zero (the model draws how two marked blocks' pointers compare). -/
import Derived.Test.YtgghgcilpfdbjaaGreatDoorSy11
import Derived.Test.YtgghgcilpfdbjaaGreatDoorSy02
import Derived.Test.YtgghgcilpfdbjaaGreatDoorSy01

namespace Go.Proofs.YtgghgcilpfdbjaaGreatDoor
open Go.RowKit
def WeakItem (it it' : JV) : Prop := it' = it ∨ (it' = zeroJ ∧ ¬ Seen 0 it)
def WkL (v : JV) (its : List JV) (k : Nat) : Prop := its.length = k ∧ ∀ j (h : j < its.length) (h' : j < v.items.length), WeakItem v.items[j] its[j]
theorem WkL.snoc {v : JV} {its : List JV} {k : Nat} {it' : JV} (h : WkL v its k) (hk : k < v.items.length) (hw : WeakItem v.items[k] it') : WkL v (its ++ [it']) (k + 1) := by
 obtain ⟨h1, h2⟩ := h
 refine ⟨by simp [h1], fun j hj hj' => ?_⟩
 by_cases e : j < its.length
 · rw [List.getElem_append_left e]; exact h2 j e hj'
 · have : j = k := by simp at hj; omega
   subst this
   rw [List.getElem_append_right (by omega)]
   simpa using hw
structure WeakCopy (v v' : JV) : Prop where
 kind : v'.kind = v.kind
 n : v'.n = v.n
 t : v'.t = v.t
 names : v'.names = v.names
 len : v'.items.length = v.items.length
 items : ∀ j (h : j < v'.items.length) (h' : j < v.items.length), WeakItem v.items[j] v'.items[j]
end Go.Proofs.YtgghgcilpfdbjaaGreatDoor
