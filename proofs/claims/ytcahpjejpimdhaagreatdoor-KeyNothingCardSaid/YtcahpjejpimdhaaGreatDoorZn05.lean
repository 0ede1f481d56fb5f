/- The contracts of utf.Len and utf.Valid. -/
import Derived.Test.YtcahpjejpimdhaaGreatDoorZn02
import Derived.Test.YtcahpjejpimdhaaGreatDoorZn00
import Derived.Test.YtcahpjejpimdhaaGreatDoorZn04
import Derived.Laws.RangeAny
import Derived.Deep.QuietTactic
import Derived.BigQuiet

namespace Go.Proofs.YtcahpjejpimdhaaGreatDoor
open Go.RowKit

/-- A byte at which no rune begins? -/
def utfBad (s : ByteArray) (pos : Nat) : Bool := ((Utf8.decode s pos).1 == 65533) && !Lib.hasPrefix (s.data.toList.drop pos) [239, 191, 189]
def utfOk (s : ByteArray) : Nat → Nat → Bool
  | 0, _ => true
  | f + 1, pos => if pos < s.size then (if utfBad s pos then false else utfOk s f (pos + (Utf8.decode s pos).2)) else true
/-- Is this UTF-8? -/
def utfV (s : ByteArray) : Bool := utfOk s (s.size + 1) 0
def LenPost (s : ByteArray) (w : World) (e : Ending) (w' : World) : Prop := ∃ n : Int, e = .returned (.tuple #[.int .i64 n, .bool (utfV s)]) ∧ Below w.heap.size w w'

theorem decode_pos (s : ByteArray) (pos : Nat) : 1 ≤ (Utf8.decode s pos).2 := by
  unfold Utf8.decode; dsimp only; repeat' split
  all_goals omega

set_option maxHeartbeats 400000 in
theorem utfLen (s : ByteArray) (w : World) (hs : s.size ≤ 9223372036854775807) :
    Calls Tryz.prog 118 #[.string s] w (LenPost s w) := by
  go_enter Tryz.func118, Tryz.ntmps118
  go_wp2
  go_loopw [4, 5, 6] (fun v4 _ _ wr => ∃ (pos n f : Nat), n ≤ pos ∧ n ≤ s.size ∧ v4 = .int .i64 n ∧ wr = w.iter s pos ∧ utfOk s f pos = utfV s ∧ s.size + 1 ≤ f + pos) (fun _ _ _ wr => s.size - wr.iterPos w.heap.size)
  case atStart => exact ⟨0, 0, s.size + 1, by omega, by omega, rfl, rfl, rfl, by omega⟩
  case round =>
    obtain ⟨pos, n, f, hn, hn', rfl, rfl, hok, hf⟩ := hrel
    by_cases hlt : pos < s.size
    · obtain ⟨f, rfl⟩ : ∃ g, f = g + 1 := ⟨f - 1, by omega⟩
      have hdp := decode_pos s pos
      have hdl := decode_le s pos
      have hun : utfOk s (f + 1) pos = if utfBad s pos then false else utfOk s f (pos + (Utf8.decode s pos).2) := by rw [utfOk, if_pos hlt]
      have hbad : utfBad s pos = (((Utf8.decode s pos).1 == 65533) && !Lib.hasPrefix (s.data.toList.drop pos) [239, 191, 189]) := rfl
      have hnext := fun ty => run_next_any (P := Tryz.prog) w s pos ty hlt
      generalize (Utf8.decode s pos).1 = r at *
      generalize (Utf8.decode s pos).2 = d at *
      have hex : (s.extract pos s.size).data.toList = s.data.toList.drop pos := by
        rw [ByteArray.data_extract, Array.toList_extract, List.extract_eq_take_drop, List.take_of_length_le]; rw [List.length_drop, toList_length]; exact Nat.le_refl _
      have HEX := Lib.hid hex
      rw [hun] at hok
      have HOK := Lib.hid hok
      have HBD := Lib.hid hbad
      clear hok hun hbad hex
      by_cases hr : r = 65533
      · have hr' : ((r : Int) == 65533) = true := by simp [hr]
        have hr2 : (r == 65533) = true := by simp [hr]
        cases hp : Lib.hasPrefix (s.data.toList.drop pos) [239, 191, 189]
        · have HF := Lib.hid (show utfV s = false by rw [← HOK.out, HBD.out, hr2, hp]; rfl)
          have HP := Lib.hid hp
          clear hp hr2 hr
          go_wp2_with fail
          refine (Tryz.strings_HasPrefix _ _ _).mono ?_
          rintro e w2 ⟨rfl, rfl⟩
          rw [show Lib.hasPrefix (s.extract pos s.size).data.toList ({ data := #[239, 191, 189] } : ByteArray).data.toList = false by rw [HEX.out]; exact HP.out]
          go_wp2
          go_ret2
          exact ⟨0, by rw [HF.out]; rfl, (Below.refl _ _).alloc (Nat.le_refl _) _⟩
        · have HF := Lib.hid (show utfOk s f (pos + d) = utfV s by rw [← HOK.out, HBD.out, hr2, hp]; rfl)
          have HP := Lib.hid hp
          clear hp hr2 hr
          go_wp2_with fail
          refine (Tryz.strings_HasPrefix _ _ _).mono ?_
          rintro e w2 ⟨rfl, rfl⟩
          rw [show Lib.hasPrefix (s.extract pos s.size).data.toList ({ data := #[239, 191, 189] } : ByteArray).data.toList = true by rw [HEX.out]; exact HP.out]
          go_wp2
          go_roundw
          case rel => exact ⟨pos + d, n + 1, f, by omega, by omega, by go_num, rfl, HF.out, by omega⟩
          case measure => simp; omega
      · have hr' : ((r : Int) == 65533) = false := by simp; omega
        have hr2 : (r == 65533) = false := by simp [hr]
        have HF := Lib.hid (show utfOk s f (pos + d) = utfV s by rw [← HOK.out, HBD.out, hr2]; rfl)
        clear hr2 hr
        go_wp2
        go_roundw
        case rel => exact ⟨pos + d, n + 1, f, by omega, by omega, by go_num, rfl, HF.out, by omega⟩
        case measure => simp; omega
    · have hnext := fun ty => run_next_end (P := Tryz.prog) w s pos ty hlt
      have HF := Lib.hid (show utfV s = true by
        rw [← hok]; cases f with
        | zero => rfl
        | succ f => rw [utfOk, if_neg hlt])
      clear hok
      go_wp2
      go_ret2
      exact ⟨n, by rw [HF.out]; rfl, (Below.refl _ _).alloc (Nat.le_refl _) _⟩

set_option maxHeartbeats 400000 in
theorem utfValid (s : ByteArray) (w : World) (hs : s.size ≤ 9223372036854775807) :
    Calls Tryz.prog 93 #[.string s] w fun e w' => e = .returned (.bool (utfV s)) ∧ Below w.heap.size w w' := by
  go_enter Tryz.func93, Tryz.ntmps93
  go_wp2_with fail
  refine (utfLen s w hs).mono ?_
  rintro e w2 ⟨n, rfl, hb⟩
  have HB := Lib.hid hb; clear hb
  go_wp2
  go_ret
  exact ⟨rfl, HB.out⟩

end Go.Proofs.YtcahpjejpimdhaaGreatDoor
