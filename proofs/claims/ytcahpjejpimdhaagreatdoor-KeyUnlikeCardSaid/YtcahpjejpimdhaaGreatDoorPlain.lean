/- Plain functions on bytes: what the program's predicates on texts compute. No program in sight. -/
import Derived.Below
import Derived.Laws.Strings
namespace Go.Proofs.YtcahpjejpimdhaaGreatDoor
open Go.RowKit

def isHex (c : UInt8) : Bool := decide ((48 ≤ c.toNat ∧ c.toNat ≤ 57) ∨ (97 ≤ c.toNat ∧ c.toNat ≤ 102))
def hexN (c : UInt8) : Int := if 48 ≤ c.toNat ∧ c.toNat ≤ 57 then (c.toNat : Int) - 48 else if 97 ≤ c.toNat ∧ c.toNat ≤ 102 then (c.toNat : Int) - 97 + 10 else 0
def nameC (c : UInt8) : Bool :=
  decide ((97 ≤ c.toNat ∧ c.toNat ≤ 122) ∨ (65 ≤ c.toNat ∧ c.toNat ≤ 90) ∨ (48 ≤ c.toNat ∧ c.toNat ≤ 57) ∨ c.toNat = 46 ∨ c.toNat = 95 ∨ c.toNat = 45)
def allHex (l : List UInt8) : Bool := l.all isHex
def roleOk (l : List UInt8) : Bool := decide (1 ≤ l.length ∧ l.length ≤ 64) && !(l.headD 0 == 46) && l.all nameC
def pubOk (l : List UInt8) : Bool := decide (2 ≤ l.length ∧ l.length ≤ 128 ∧ l.length % 2 = 0) && allHex l

def keyOk (s p : List UInt8) : Bool := roleOk s && pubOk p
theorem ret_bool {a b : Bool} (h : a = b) : Ending.returned (.bool a) = .returned (.bool b) := by rw [h]
theorem ret_int {k : IntKind} {a b : Int} (h : a = b) : Ending.returned (.int k a) = .returned (.int k b) := by rw [h]

theorem ret_ib {k : IntKind} {a b : Int} {x y : Bool} (h : a = b) (h' : x = y) : Ending.returned (.tuple #[.int k a, .bool x]) = .returned (.tuple #[.int k b, .bool y]) := by rw [h, h']
theorem hexN_dig {c : UInt8} (h : 48 ≤ (c.toNat : Int)) (h' : (c.toNat : Int) ≤ 57) : hexN c = (c.toNat : Int) - 48 ∧ isHex c = true := by
  unfold hexN isHex; rw [if_pos (by omega)]; exact ⟨rfl, by simp; omega⟩
theorem hexN_let {c : UInt8} (h : 97 ≤ (c.toNat : Int)) (h' : (c.toNat : Int) ≤ 102) : hexN c = (c.toNat : Int) - 97 + 10 ∧ isHex c = true := by
  unfold hexN isHex; rw [if_neg (by omega), if_pos (by omega)]; exact ⟨rfl, by simp; omega⟩
theorem hexN_no {c : UInt8} (h : ¬ (48 ≤ (c.toNat : Int) ∧ (c.toNat : Int) ≤ 57)) (h' : ¬ (97 ≤ (c.toNat : Int) ∧ (c.toNat : Int) ≤ 102)) : hexN c = 0 ∧ isHex c = false := by
  unfold hexN isHex; rw [if_neg (by omega), if_neg (by omega)]; exact ⟨rfl, by simp; omega⟩
theorem toList_get (s : ByteArray) (k : Nat) (h : k < s.size) : s.data.toList[k]'(by simpa using h) = s[k] := rfl
theorem toList_length (s : ByteArray) : s.data.toList.length = s.size := by simp
theorem take_snoc (s : ByteArray) (k : Nat) (h : k < s.size) : s.data.toList.take (k + 1) = s.data.toList.take k ++ [s[k]] := by
  rw [List.take_succ_eq_append_getElem (by simpa using h)]; rfl
theorem all_take_succ (p : UInt8 → Bool) (s : ByteArray) (k : Nat) (h : k < s.size) : (s.data.toList.take (k + 1)).all p = ((s.data.toList.take k).all p && p s[k]) := by
  rw [take_snoc s k h, List.all_append]; simp
theorem all_of_take (p : UInt8 → Bool) (s : ByteArray) (h : (s.data.toList.take s.size).all p = true) : s.data.toList.all p = true := by
  rwa [List.take_of_length_le (by simp)] at h
theorem all_false (p : UInt8 → Bool) (s : ByteArray) (k : Nat) (h : k < s.size) (hp : p s[k] = false) : s.data.toList.all p = false := by
  rw [List.all_eq_false]; exact ⟨s[k], by rw [← toList_get s k h]; exact List.getElem_mem _, by simp [hp]⟩

theorem nameC_true {c : UInt8} (h : (97 ≤ (c.toNat : Int) ∧ (c.toNat : Int) ≤ 122) ∨ (65 ≤ (c.toNat : Int) ∧ (c.toNat : Int) ≤ 90) ∨ (48 ≤ (c.toNat : Int) ∧ (c.toNat : Int) ≤ 57) ∨ (c.toNat : Int) = 46 ∨ (c.toNat : Int) = 95 ∨ (c.toNat : Int) = 45) : nameC c = true := by
  unfold nameC; simp; omega
theorem nameC_false {c : UInt8} (h : ¬ ((97 ≤ (c.toNat : Int) ∧ (c.toNat : Int) ≤ 122) ∨ (65 ≤ (c.toNat : Int) ∧ (c.toNat : Int) ≤ 90) ∨ (48 ≤ (c.toNat : Int) ∧ (c.toNat : Int) ≤ 57) ∨ (c.toNat : Int) = 46 ∨ (c.toNat : Int) = 95 ∨ (c.toNat : Int) = 45)) : nameC c = false := by
  unfold nameC; simp; omega
theorem toList_ne (s : ByteArray) (h : 0 < s.size) : ¬ s.toList = [] ∧ s.toList.isEmpty = false := by
  have e : s.toList = s.data.toList := ByteArray.toList_eq s
  have l := toList_length s
  rw [e]; constructor
  · intro h0; rw [h0] at l; simp at l; omega
  · cases h1 : s.data.toList with
    | nil => rw [h1] at l; simp at l; omega
    | cons a r => rfl
theorem toList_nil (s : ByteArray) (h : s.size = 0) : s.toList = [] := by
  have e : s.toList = s.data.toList := ByteArray.toList_eq s
  rw [e]; exact List.eq_nil_of_length_eq_zero (by simpa using h)
theorem headD_get (s : ByteArray) (h : 0 < s.size) : s.data.toList.headD 0 = s[0] := by
  have l := toList_length s
  have g : ∀ (L : List UInt8) (hL : 0 < L.length), L.headD 0 = L[0] := fun L hL => by cases L with
    | nil => simp at hL
    | cons a r => rfl
  rw [← toList_get s 0 h]; exact g _ (by omega)
theorem role_len {s : ByteArray} (h : s.size < 1 ∨ 64 < s.size) : roleOk s.data.toList = false := by
  unfold roleOk; rw [toList_length, decide_eq_false (by omega)]; rfl
theorem role_dot {s : ByteArray} (h0 : 0 < s.size) (h : s[0].toNat = 46) : roleOk s.data.toList = false := by
  unfold roleOk; rw [headD_get s h0]
  have : s[0] = 46 := by apply UInt8.toNat_inj.1; exact h
  rw [this]; simp
theorem role_bad {s : ByteArray} (k : Nat) (hk : k < s.size) (h : nameC s[k] = false) : roleOk s.data.toList = false := by
  unfold roleOk; rw [all_false nameC s k hk h]; simp
theorem role_good {s : ByteArray} (h0 : 0 < s.size) (h1 : s.size ≤ 64) (h2 : ¬ s[0].toNat = 46) (h : (s.data.toList.take s.size).all nameC = true) : roleOk s.data.toList = true := by
  unfold roleOk; rw [all_of_take nameC s h, headD_get s h0, toList_length]
  have : ¬ s[0] = 46 := fun e => h2 (by rw [e]; rfl)
  simp [this]; omega

theorem pub_no {s : ByteArray} (h : s.size < 2 ∨ 128 < s.size ∨ s.size % 2 = 1) : pubOk s.data.toList = false := by
  unfold pubOk; rw [toList_length, decide_eq_false (by omega)]; rfl
theorem pub_hex {s : ByteArray} (h1 : 2 ≤ s.size) (h2 : s.size ≤ 128) (h3 : s.size % 2 = 0) : pubOk s.data.toList = allHex s.data.toList := by
  unfold pubOk; rw [toList_length, decide_eq_true ⟨h1, h2, h3⟩]; simp

end Go.Proofs.YtcahpjejpimdhaaGreatDoor
