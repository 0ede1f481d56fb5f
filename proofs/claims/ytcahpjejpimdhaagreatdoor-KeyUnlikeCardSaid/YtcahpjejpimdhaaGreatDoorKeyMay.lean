/- The contracts of key.May and of the reference's May; of the law's 'short'. -/
import Derived.Test.YtcahpjejpimdhaaGreatDoorStr
namespace Go.Proofs.YtcahpjejpimdhaaGreatDoor
open Go.RowKit

set_option maxHeartbeats 400000 in
theorem keyMay (s t : ByteArray) (w : World) (hs : s.size ≤ 9223372036854775807) (ht : t.size ≤ 9223372036854775807) :
    Calls Tryz.prog 20 #[.agg #[.string s, .string t]] w fun e w' => e = .returned (.bool (keyOk s.data.toList t.data.toList)) ∧ Below w.heap.size w w' := by
  unfold keyOk
  cases hr : roleOk s.data.toList
  · have HR := Lib.hid hr
    go_enter Tryz.func20, Tryz.ntmps20
    go_wp2_with (go_at_call 48; refine (nameRole s _ hs).mono ?_; rintro e w' ⟨rfl, rfl⟩)
    go_ret
    exact ⟨rfl, (Below.refl _ _).alloc (Nat.le_refl _) _⟩
  by_cases h1 : t.size < 2 ∨ 128 < t.size ∨ t.size % 2 = 1
  · have HP := Lib.hid (pub_no h1)
    rw [HP.out]
    by_cases g1 : t.size = 0
    · have g1' : ¬ 0 < (t.size : Int) := by omega
      clear h1 g1
      go_enter Tryz.func20, Tryz.ntmps20
      go_wp2_with (go_at_call 48; refine (nameRole s _ hs).mono ?_; rintro e w' ⟨rfl, rfl⟩)
      go_ret
      exact ⟨rfl, (Below.refl _ _).alloc (Nat.le_refl _) _⟩
    have g1' : 0 < t.size := by omega
    clear g1
    by_cases g2 : 128 < t.size
    · clear h1
      go_enter Tryz.func20, Tryz.ntmps20
      go_wp2_with (go_at_call 48; refine (nameRole s _ hs).mono ?_; rintro e w' ⟨rfl, rfl⟩)
      go_ret
      exact ⟨rfl, (Below.refl _ _).alloc (Nat.le_refl _) _⟩
    have g3 : ((t.size : Int) % 2 == 0) = false := by simp; omega
    have g2' : t.size ≤ 128 := by omega
    clear h1 g2
    go_enter Tryz.func20, Tryz.ntmps20
    go_wp2_with (go_at_call 48; refine (nameRole s _ hs).mono ?_; rintro e w' ⟨rfl, rfl⟩)
    go_ret
    exact ⟨rfl, (Below.refl _ _).alloc (Nat.le_refl _) _⟩
  · have HP := Lib.hid (pub_hex (s := t) (by omega) (by omega) (by omega))
    rw [HP.out]
    have g1 : 2 ≤ t.size := by omega
    have g2 : t.size ≤ 128 := by omega
    have g3 : ((t.size : Int) % 2 == 0) = true := by simp; omega
    clear h1
    go_enter Tryz.func20, Tryz.ntmps20
    go_wp2_with (first | (go_at_call 48; refine (nameRole s _ hs).mono ?_; rintro e w' ⟨rfl, rfl⟩) | (go_at_call 27; refine (hexIs t _ ht).mono ?_; rintro e w' ⟨rfl, rfl⟩))
    go_ret
    exact ⟨by simp, (Below.refl _ _).alloc (Nat.le_refl _) _⟩

set_option maxHeartbeats 400000 in
theorem ref14Hex (t : ByteArray) (w : World) (ht : t.size ≤ 9223372036854775807) :
    Calls Tryz.prog 50 #[.string t] w fun e w' => e = .returned (.bool (pubOk t.data.toList)) ∧ w = w' := by
  by_cases g1 : t.size < 2
  · have HP := Lib.hid (pub_no (.inl g1))
    go_enter Tryz.func50, Tryz.ntmps50
    go_wp2
    go_ret
    exact ⟨ret_bool HP.out.symm, rfl⟩
  by_cases g2 : 128 < t.size
  · have HP := Lib.hid (pub_no (.inr (.inl g2)))
    go_enter Tryz.func50, Tryz.ntmps50
    go_wp2
    go_ret
    exact ⟨ret_bool HP.out.symm, rfl⟩
  by_cases g3 : t.size % 2 = 0
  · have HP := Lib.hid (pub_hex (s := t) (by omega) (by omega) (by omega))
    have g3' : ((t.size : Int) % 2 == 0) = true := by simp; omega
    clear g3
    go_enter Tryz.func50, Tryz.ntmps50
    go_wp2_with (go_at_call 85; refine (ref01Is t _ ht).mono ?_; rintro e w' ⟨rfl, rfl⟩)
    go_ret
    exact ⟨ret_bool HP.out.symm, rfl⟩
  · have HP := Lib.hid (pub_no (s := t) (.inr (.inr (by omega))))
    have g3' : ((t.size : Int) % 2 == 0) = false := by simp; omega
    clear g3
    go_enter Tryz.func50, Tryz.ntmps50
    go_wp2
    go_ret
    exact ⟨ret_bool HP.out.symm, rfl⟩

set_option maxHeartbeats 400000 in
theorem ref14May (s t : ByteArray) (w : World) (hs : s.size ≤ 9223372036854775807) (ht : t.size ≤ 9223372036854775807) :
    Calls Tryz.prog 21 #[.agg #[.string s, .string t]] w fun e w' => e = .returned (.bool (keyOk s.data.toList t.data.toList)) ∧ Below w.heap.size w w' := by
  unfold keyOk
  cases hr : roleOk s.data.toList
  all_goals
    go_enter Tryz.func21, Tryz.ntmps21
    go_wp2_with (first | (go_at_call 49; refine (ref13Role s _ hs).mono ?_; rintro e w' ⟨rfl, rfl⟩) | (go_at_call 50; refine (ref14Hex t _ ht).mono ?_; rintro e w' ⟨rfl, rfl⟩))
    go_ret
    exact ⟨by simp, (Below.refl _ _).alloc (Nat.le_refl _) _⟩

def shortK (s t : ByteArray) : Bool := decide (s.size ≤ 300 ∧ t.size ≤ 300)
set_option maxHeartbeats 400000 in
theorem lawShort (s t : ByteArray) (w : World) :
    Calls Tryz.prog 13 #[.agg #[.string s, .string t]] w fun e w' => e = .returned (.bool (shortK s t)) ∧ Below w.heap.size w w' := by
  by_cases h : s.size ≤ 300
  · by_cases h' : t.size ≤ 300
    · have HP : Hid (shortK s t = true) := by unfold shortK; exact decide_eq_true ⟨h, h'⟩
      go_enter Tryz.func13, Tryz.ntmps13
      go_wp2
      go_ret
      exact ⟨ret_bool (by rw [HP.out]; simp; omega), (Below.refl _ _).alloc (Nat.le_refl _) _⟩
    · have HP : Hid (shortK s t = false) := by unfold shortK; exact decide_eq_false (by omega)
      go_enter Tryz.func13, Tryz.ntmps13
      go_wp2
      go_ret
      exact ⟨ret_bool (by rw [HP.out]; simp; omega), (Below.refl _ _).alloc (Nat.le_refl _) _⟩
  · have HP : Hid (shortK s t = false) := by unfold shortK; exact decide_eq_false (by omega)
    go_enter Tryz.func13, Tryz.ntmps13
    go_wp2
    go_ret
    exact ⟨ret_bool (by rw [HP.out]), (Below.refl _ _).alloc (Nat.le_refl _) _⟩

end Go.Proofs.YtcahpjejpimdhaaGreatDoor
