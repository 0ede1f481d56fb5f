/- The order of texts, and rows that rise. No program in sight. -/
import Derived.Test.YtcahpjejpimdhaaGreatDoorValMay
namespace Go.Proofs.YtcahpjejpimdhaaGreatDoor
open Go.RowKit

theorem less_irrefl : ∀ x : List UInt8, Op.bytesLess x x = false
  | [] => rfl
  | a :: x => by simp [Op.bytesLess, less_irrefl x]
theorem less_trans : ∀ x y z : List UInt8, Op.bytesLess x y = true → Op.bytesLess y z = true → Op.bytesLess x z = true
  | _, _, [], _, h => by simp [Op.bytesLess] at h
  | _, [], _ :: _, h, _ => by simp [Op.bytesLess] at h
  | [], _ :: _, _ :: _, _, _ => rfl
  | a :: x, b :: y, c :: z, h1, h2 => by
    simp only [Op.bytesLess, Bool.or_eq_true, decide_eq_true_eq, Bool.and_eq_true, beq_iff_eq] at h1 h2 ⊢
    rcases h1 with h1 | ⟨rfl, h1⟩
    · rcases h2 with h2 | ⟨rfl, h2⟩
      · exact .inl (UInt8.lt_trans h1 h2)
      · exact .inl h1
    · rcases h2 with h2 | ⟨rfl, h2⟩
      · exact .inl h2
      · exact .inr ⟨rfl, less_trans x y z h1 h2⟩
theorem less_tri : ∀ x y : List UInt8, Op.bytesLess x y = false → Op.bytesLess y x = false → x = y
  | [], [], _, _ => rfl
  | [], _ :: _, h, _ => by simp [Op.bytesLess] at h
  | _ :: _, [], _, h => by simp [Op.bytesLess] at h
  | a :: x, b :: y, h1, h2 => by
    simp only [Op.bytesLess, Bool.or_eq_false_iff, decide_eq_false_iff_not, Bool.and_eq_false_iff] at h1 h2
    have e : a = b := UInt8.le_antisymm (UInt8.not_lt.1 h2.1) (UInt8.not_lt.1 h1.1)
    subst e
    have g1 : Op.bytesLess x y = false := by rcases h1.2 with h | h; simp at h; exact h
    have g2 : Op.bytesLess y x = false := by rcases h2.2 with h | h; simp at h; exact h
    rw [less_tri x y g1 g2]

/-- Is one text less than another? -/
def bl (a b : ByteArray) : Bool := Op.bytesLess a.toList b.toList
theorem ba_ext {a b : ByteArray} (h : a.toList = b.toList) : a = b := by
  rw [ByteArray.toList_eq, ByteArray.toList_eq] at h
  exact ByteArray.ext (Array.toList_inj.1 h)
theorem bl_irrefl (a : ByteArray) : bl a a = false := less_irrefl _
theorem bl_trans {a b c : ByteArray} (h : bl a b = true) (h' : bl b c = true) : bl a c = true := less_trans _ _ _ h h'
theorem bl_tri {a b : ByteArray} (h : bl a b = false) (h' : bl b a = false) : a = b := ba_ext (less_tri _ _ h h')
theorem bl_asymm {a b : ByteArray} (h : bl a b = true) : bl b a = false := by
  cases h' : bl b a
  · rfl
  · have := bl_trans h h'; rw [bl_irrefl] at this; cases this

theorem rises_tail {a : ByteArray} {l : List ByteArray} (h : rises (a :: l) = true) : rises l = true := by
  cases l with
  | nil => rfl
  | cons b r => simp only [rises, Bool.and_eq_true] at h; exact h.2
theorem rises_head : ∀ {l : List ByteArray} {a : ByteArray} (_ : rises (a :: l) = true) (j : Nat) (h : j < l.length), bl a l[j] = true
  | [], _, _, j, h => by simp at h
  | b :: r, a, h, 0, _ => by simp only [rises, Bool.and_eq_true] at h; exact h.1
  | b :: r, a, h, j + 1, hj => by
    simp only [rises, Bool.and_eq_true] at h
    exact bl_trans h.1 (rises_head h.2 j (by simpa using hj))
theorem rises_lt : ∀ {l : List ByteArray} (_ : rises l = true) (i j : Nat) (hi : i < l.length) (hj : j < l.length), i < j → bl l[i] l[j] = true
  | [], _, i, j, hi, _, _ => by simp at hi
  | a :: r, h, 0, j + 1, _, hj, _ => rises_head h j (by simpa using hj)
  | a :: r, h, i + 1, j + 1, hi, hj, hlt => by
    simp only [List.getElem_cons_succ]
    exact rises_lt (rises_tail h) i j (by simpa using hi) (by simpa using hj) (by omega)
  | a :: r, h, i, 0, _, _, hlt => by omega

def FindPost (l : List ByteArray) (x : ByteArray) (w : World) (e : Ending) (w' : World) : Prop :=
  ∃ (r : Nat) (f : Bool), e = .returned (.tuple #[.int .i64 r, .bool f]) ∧ r ≤ l.length ∧ (∀ t (h : t < l.length), t < r → bl l[t] x = true) ∧ (∀ t (h : t < l.length), r ≤ t → bl l[t] x = false) ∧
    (f = true → ∃ h : r < l.length, l[r] = x) ∧ (f = false → ∀ t (h : t < l.length), l[t] ≠ x) ∧ Below w.heap.size w w'

end Go.Proofs.YtcahpjejpimdhaaGreatDoor
