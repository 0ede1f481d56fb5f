/- The contracts of a picker's Num, Has, Object, Fail where the value is no object. Plain: the reference's rule of values (part, Count, Depth) is the program's. -/
import Derived.Test.YtgghgcilpfdbjaaGreatDoorSk16
import Derived.Test.YtgghgcilpfdbjaaGreatDoorSk17
import Derived.Test.YtgghgcilpfdbjaaGreatDoorSk04
import Derived.Test.YtgghgcilpfdbjaaGreatDoorSk15

namespace Go.Proofs.YtgghgcilpfdbjaaGreatDoor
open Go.RowKit Go.WideMaps Go.Maps

set_option maxHeartbeats 400000 in
theorem hasBad (o : Nat) (err : Int) (y : ByteArray) (w : World) (h : PickBad o err w) :
    Calls Tryz.prog 63 #[.pointer (some ⟨o, 0, none⟩), .string y] w fun e w' => e = .returned (.bool false) ∧ w = w' := by
  obtain ⟨he, c6, k, c0⟩ := h
  have he' : (err == 0) = false := by simpa using he
  have he2 : (err != 0) = true := by simpa using he
  have HE := Lib.hid he
  clear he
  go_enter Tryz.func63, Tryz.ntmps63
  go_wp2_with fail
  refine (pickErr o err k w c6 c0 (fun h => absurd h HE.out)).mono ?_
  rintro r w' ⟨rfl, rfl⟩
  go_wp2
  go_ret
  exact ⟨rfl, rfl⟩
set_option maxHeartbeats 400000 in
theorem numBad (o : Nat) (err : Int) (y : ByteArray) (l h : Int) (w : World) (hb : PickBad o err w) (ho : o < w.heap.size) :
    Calls Tryz.prog 62 #[.pointer (some ⟨o, 0, none⟩), .string y, .int .i64 l, .int .i64 h] w fun e w' => e = .returned (.int .i64 0) ∧ Below w.heap.size w w' := by
  obtain ⟨W2, hW2⟩ : ∃ W2, W2 = (w.alloc (.cells #[.int .i64 l] 2)).alloc (.cells #[.int .i64 h] 2) := ⟨_, rfl⟩
  have hb2 : Below w.heap.size w W2 := by rw [hW2]; exact ((Below.refl _ _).alloc (Nat.le_refl _) _).alloc (by simp) _
  obtain ⟨he, c6, k, c0⟩ := hb.below hb2 ho
  have HB2 := Lib.hid hb2
  have HW := Lib.hid hW2
  clear hW2 hb2 hb
  have HT := Lib.hid (show ∀ fv, Calls Tryz.prog 102 #[.pointer (some ⟨o, 0, none⟩), .string y, fv] W2 (fun e w' => e = .returned (.int .i64 0) ∧ W2 = w') from fun fv => by
    have he' : (err == 0) = false := by simpa using he
    have he2 : (err != 0) = true := by simpa using he
    have HE := Lib.hid he
    clear he
    go_enter Tryz.func102, Tryz.ntmps102
    go_wp2_with fail
    refine (pickErr o err k W2 c6 c0 (fun h => absurd h HE.out)).mono ?_
    rintro r w' ⟨rfl, rfl⟩
    go_wp2
    go_ret
    exact ⟨rfl, rfl⟩)
  clear he c6 c0
  go_enter Tryz.func62, Tryz.ntmps62
  go_wp2_with fail
  rw [← HW.out]
  refine (HT.out _).mono ?_
  rintro e w' ⟨rfl, rfl⟩
  go_wp2
  go_ret
  exact ⟨rfl, HB2.out⟩
set_option maxHeartbeats 400000 in
theorem failBad (o : Nat) (err e : Int) (w : World) (h : PickBad o err w) :
    Calls Tryz.prog 66 #[.pointer (some ⟨o, 0, none⟩), .int .i64 e] w fun r w' => r = .returned (.tuple #[]) ∧ w' = w := by
  obtain ⟨he, c6, k, c0⟩ := h
  have he' : (err == 0) = false := by simpa using he
  have he2 : (err != 0) = true := by simpa using he
  have HE := Lib.hid he
  clear he
  go_enter Tryz.func66, Tryz.ntmps66
  go_wp2_with fail
  refine (pickErr o err k w c6 c0 (fun h => absurd h HE.out)).mono ?_
  rintro r w' ⟨rfl, rfl⟩
  go_wp2
  go_end0
  exact ⟨rfl, rfl⟩
end Go.Proofs.YtgghgcilpfdbjaaGreatDoor

namespace Go.Proofs.YtgghgcilpfdbjaaGreatDoor
open Go.RowKit

mutual
def JV.partB : JV → Bool
  | .mk k n t ns xs => properB k n t ns xs.length && JV.partsB xs
def JV.partsB : List JV → Bool
  | [] => true
  | x :: r => JV.partB x && JV.partsB r
end
mutual
def JV.depth : JV → Nat
  | .mk k _ _ _ xs => if k ≠ 4 ∧ k ≠ 5 then 0 else JV.depths xs + 1
def JV.depths : List JV → Nat
  | [] => 0
  | x :: r => max (JV.depth x) (JV.depths r)
end
theorem JV.partB_eq (v : JV) : v.partB = (properB v.kind v.n v.t v.names v.items.length && JV.partsB v.items) := by cases v; rw [JV.partB]; rfl
theorem JV.depth_eq (v : JV) : v.depth = if v.kind ≠ 4 ∧ v.kind ≠ 5 then 0 else JV.depths v.items + 1 := by cases v; rw [JV.depth]; rfl
theorem JV.count_eq (v : JV) : v.count = 1 + JV.counts v.items := by cases v; rw [JV.count]; rfl
theorem JV.depths_take (l : List JV) (k : Nat) (h : k < l.length) : JV.depths (l.take (k + 1)) = max (JV.depths (l.take k)) (JV.depth l[k]) := by
  induction l generalizing k with
  | nil => simp at h
  | cons x r ih =>
    cases k with
    | zero => simp [JV.depths]
    | succ k => simp only [List.take_succ_cons, JV.depths, List.getElem_cons_succ]; rw [ih k (by simpa using h)]; omega
theorem JV.partsB_take (l : List JV) (k : Nat) (h : k < l.length) : JV.partsB (l.take (k + 1)) = (JV.partsB (l.take k) && JV.partB l[k]) := by
  induction l generalizing k with
  | nil => simp at h
  | cons x r ih =>
    cases k with
    | zero => simp [JV.partsB]
    | succ k => simp only [List.take_succ_cons, JV.partsB, List.getElem_cons_succ]; rw [ih k (by simpa using h), Bool.and_assoc]
theorem JV.partsB_bad (l : List JV) (k : Nat) (h : k < l.length) (hb : JV.partB l[k] = false) : JV.partsB l = false := by
  induction l generalizing k with
  | nil => simp at h
  | cons x r ih =>
    cases k with
    | zero => simp only [List.getElem_cons_zero] at hb; rw [JV.partsB, hb]; rfl
    | succ k => rw [JV.partsB, ih k (by simpa using h) (by simpa using hb), Bool.and_false]
mutual
theorem JV.depth_le : ∀ v : JV, v.depth ≤ v.wt
  | .mk k _ _ _ xs => by have := JV.depths_le xs; rw [JV.depth, JV.wt]; split <;> omega
theorem JV.depths_le : ∀ l : List JV, JV.depths l ≤ JV.wts l
  | [] => by simp [JV.depths]
  | x :: r => by have := JV.depth_le x; have := JV.depths_le r; rw [JV.depths, JV.wts]; omega
end
theorem JV.proper_leaf {v : JV} (h : properB v.kind v.n v.t v.names v.items.length = true) (h4 : v.kind ≠ 4) (h5 : v.kind ≠ 5) : v.items = [] := by
  unfold properB at h
  split at h
  · simp at h; exact h.2.2.1
  split at h
  · simp at h; exact h.2.2
  split at h
  · simp at h; exact h.1.2.2
  · first | (cases h; done) | (rw [if_neg h4, if_neg h5] at h; cases h)
theorem JV.part_leaf (v : JV) (h4 : v.kind ≠ 4) (h5 : v.kind ≠ 5) : v.partB = properB v.kind v.n v.t v.names v.items.length := by
  rw [JV.partB_eq]
  cases h : properB v.kind v.n v.t v.names v.items.length
  · rfl
  · rw [JV.proper_leaf h h4 h5]; rfl

mutual
theorem JV.may_iff : ∀ (v : JV) (d : Nat) (l : Int), 0 ≤ l → ((v.may d l).1 = true ↔ v.partB = true ∧ (v.count : Int) ≤ l ∧ v.depth ≤ d) ∧ ((v.may d l).1 = true → (v.may d l).2 = l - v.count)
  | .mk k n t ns xs, d, l, hl => by
    rw [JV.may, JV.partB, JV.count, JV.depth]
    by_cases h0 : l - 1 < 0
    · rw [if_pos h0]; simp; omega
    rw [if_neg h0]
    cases hp : properB k n t ns xs.length
    · simp
    simp only [Bool.true_eq_false, if_false, Bool.true_and]
    by_cases hk : k ≠ 4 ∧ k ≠ 5
    · have hx : xs = [] := JV.proper_leaf (v := .mk k n t ns xs) hp hk.1 hk.2
      subst hx
      rw [if_pos hk, if_pos hk]
      simp [JV.partsB, JV.counts]; omega
    · rw [if_neg hk, if_neg hk]
      by_cases hd : d = 0
      · rw [if_pos hd]; simp; omega
      · rw [if_neg hd]
        obtain ⟨i1, i2⟩ := JV.mays_iff xs (d - 1) (l - 1) (by omega)
        refine ⟨?_, fun h => ?_⟩
        · rw [i1]; constructor
          · rintro ⟨a, b, c⟩; exact ⟨a, by push_cast; omega, by omega⟩
          · rintro ⟨a, b, c⟩; exact ⟨a, by push_cast at b; omega, by omega⟩
        · rw [i2 h]; push_cast; omega
theorem JV.mays_iff : ∀ (xs : List JV) (d : Nat) (l : Int), 0 ≤ l → ((JV.mays xs d l).1 = true ↔ JV.partsB xs = true ∧ (JV.counts xs : Int) ≤ l ∧ JV.depths xs ≤ d) ∧ ((JV.mays xs d l).1 = true → (JV.mays xs d l).2 = l - JV.counts xs)
  | [], d, l, hl => by simp [JV.mays, JV.partsB, JV.counts, JV.depths]; omega
  | x :: r, d, l, hl => by
    obtain ⟨a1, a2⟩ := JV.may_iff x d l hl
    rw [JV.mays, JV.partsB, JV.counts, JV.depths]
    cases h : (JV.may x d l).1
    · rw [h] at a1
      simp only [Bool.false_eq_true, if_false, false_iff, not_and, Bool.and_eq_true, false_implies, and_true] at a1 ⊢
      intro hp hc
      have := a1 hp.1 (by push_cast at hc; omega)
      omega
    · rw [if_pos rfl]
      have hb := (JV.may_bd x d l hl).2.2 h
      obtain ⟨c1, c2, c3⟩ := a1.1 h
      have e2 := a2 h
      obtain ⟨i1, i2⟩ := JV.mays_iff r d _ hb
      rw [i1, e2] 
      refine ⟨?_, fun hh => ?_⟩
      · rw [c1, Bool.true_and]; constructor
        · rintro ⟨a, b, c⟩; exact ⟨a, by push_cast; omega, by omega⟩
        · rintro ⟨a, b, c⟩; exact ⟨a, by push_cast at b; omega, by omega⟩
      · have hh' : (JV.mays r d (JV.may x d l).2).1 = true := by rw [e2]; exact i1.2 (by rw [e2]; exact hh) |> fun z => by rwa [e2] at z
        have := i2 hh'
        rw [e2] at this
        rw [this]; push_cast; omega
end
theorem JV.mayB_iff (v : JV) : v.mayB = (v.partB && decide (v.count ≤ 8192) && decide (v.depth ≤ 12)) := by
  unfold JV.mayB
  rw [Bool.eq_iff_iff, (JV.may_iff v 12 8192 (by omega)).1]
  simp only [Bool.and_eq_true, decide_eq_true_eq]
  constructor
  · rintro ⟨a, b, c⟩; exact ⟨⟨a, by omega⟩, c⟩
  · rintro ⟨⟨a, b⟩, c⟩; exact ⟨a, by omega, c⟩

end Go.Proofs.YtgghgcilpfdbjaaGreatDoor
