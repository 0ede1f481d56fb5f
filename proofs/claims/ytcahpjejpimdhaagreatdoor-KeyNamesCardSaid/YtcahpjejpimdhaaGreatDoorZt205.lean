/- The contracts of utf.Len and utf.Valid. Plain: the reference's rule at a place of a text, and Go's decoder. -/
import Derived.Test.YtcahpjejpimdhaaGreatDoorZt202
import Derived.Test.YtcahpjejpimdhaaGreatDoorZt200
import Derived.Test.YtcahpjejpimdhaaGreatDoorZt204
import Derived.Laws.RangeAny
import Derived.Deep.QuietTactic
import Derived.BigQuiet
import Derived.Test.YtcahpjejpimdhaaGreatDoorZt201

namespace Go.Proofs.YtcahpjejpimdhaaGreatDoor
open Go.RowKit

/-- A byte at which no rune begins? -/
def utfBad (s : ByteArray) (pos : Nat) : Bool := ((Utf8.decode s pos).1 == 65533) && !Lib.hasPrefix (s.data.toList.drop pos) [239, 191, 189]
def utfOk (s : ByteArray) : Nat → Nat → Bool
  | 0, _ => true
  | f + 1, pos => if pos < s.size then (if utfBad s pos then false else utfOk s f (pos + (Utf8.decode s pos).2)) else true
/-- Is this UTF-8? -/
def utfV (s : ByteArray) : Bool := utfOk s (s.size + 1) 0
def LenPost (s : ByteArray) (w : World) (e : Ending) (w' : World) : Prop := ∃ n : Int, e = .returned (.tuple #[.int .i64 n, .bool (utfV s)]) ∧ Below w.heap.size w w'

theorem decode_pos (s : ByteArray) (pos : Nat) : 1 ≤ (Utf8.decode s pos).2 := by
  unfold Utf8.decode; dsimp only; repeat' split
  all_goals omega

set_option maxHeartbeats 400000 in
theorem utfLen (s : ByteArray) (w : World) (hs : s.size ≤ 9223372036854775807) :
    Calls Tryz.prog 118 #[.string s] w (LenPost s w) := by
  go_enter Tryz.func118, Tryz.ntmps118
  go_wp2
  go_loopw [4, 5, 6] (fun v4 _ _ wr => ∃ (pos n f : Nat), n ≤ pos ∧ n ≤ s.size ∧ v4 = .int .i64 n ∧ wr = w.iter s pos ∧ utfOk s f pos = utfV s ∧ s.size + 1 ≤ f + pos) (fun _ _ _ wr => s.size - wr.iterPos w.heap.size)
  case atStart => exact ⟨0, 0, s.size + 1, by omega, by omega, rfl, rfl, rfl, by omega⟩
  case round =>
    obtain ⟨pos, n, f, hn, hn', rfl, rfl, hok, hf⟩ := hrel
    by_cases hlt : pos < s.size
    · obtain ⟨f, rfl⟩ : ∃ g, f = g + 1 := ⟨f - 1, by omega⟩
      have hdp := decode_pos s pos
      have hdl := decode_le s pos
      have hun : utfOk s (f + 1) pos = if utfBad s pos then false else utfOk s f (pos + (Utf8.decode s pos).2) := by rw [utfOk, if_pos hlt]
      have hbad : utfBad s pos = (((Utf8.decode s pos).1 == 65533) && !Lib.hasPrefix (s.data.toList.drop pos) [239, 191, 189]) := rfl
      have hnext := fun ty => run_next_any (P := Tryz.prog) w s pos ty hlt
      generalize (Utf8.decode s pos).1 = r at *
      generalize (Utf8.decode s pos).2 = d at *
      have hex : (s.extract pos s.size).data.toList = s.data.toList.drop pos := by
        rw [ByteArray.data_extract, Array.toList_extract, List.extract_eq_take_drop, List.take_of_length_le]; rw [List.length_drop, toList_length]; exact Nat.le_refl _
      have HEX := Lib.hid hex
      rw [hun] at hok
      have HOK := Lib.hid hok
      have HBD := Lib.hid hbad
      clear hok hun hbad hex
      by_cases hr : r = 65533
      · have hr' : ((r : Int) == 65533) = true := by simp [hr]
        have hr2 : (r == 65533) = true := by simp [hr]
        cases hp : Lib.hasPrefix (s.data.toList.drop pos) [239, 191, 189]
        · have HF := Lib.hid (show utfV s = false by rw [← HOK.out, HBD.out, hr2, hp]; rfl)
          have HP := Lib.hid hp
          clear hp hr2 hr
          go_wp2_with fail
          refine (Tryz.strings_HasPrefix _ _ _).mono ?_
          rintro e w2 ⟨rfl, rfl⟩
          rw [show Lib.hasPrefix (s.extract pos s.size).data.toList ({ data := #[239, 191, 189] } : ByteArray).data.toList = false by rw [HEX.out]; exact HP.out]
          go_wp2
          go_ret2
          exact ⟨0, by rw [HF.out]; rfl, (Below.refl _ _).alloc (Nat.le_refl _) _⟩
        · have HF := Lib.hid (show utfOk s f (pos + d) = utfV s by rw [← HOK.out, HBD.out, hr2, hp]; rfl)
          have HP := Lib.hid hp
          clear hp hr2 hr
          go_wp2_with fail
          refine (Tryz.strings_HasPrefix _ _ _).mono ?_
          rintro e w2 ⟨rfl, rfl⟩
          rw [show Lib.hasPrefix (s.extract pos s.size).data.toList ({ data := #[239, 191, 189] } : ByteArray).data.toList = true by rw [HEX.out]; exact HP.out]
          go_wp2
          go_roundw
          case rel => exact ⟨pos + d, n + 1, f, by omega, by omega, by go_num, rfl, HF.out, by omega⟩
          case measure => simp; omega
      · have hr' : ((r : Int) == 65533) = false := by simp; omega
        have hr2 : (r == 65533) = false := by simp [hr]
        have HF := Lib.hid (show utfOk s f (pos + d) = utfV s by rw [← HOK.out, HBD.out, hr2]; rfl)
        clear hr2 hr
        go_wp2
        go_roundw
        case rel => exact ⟨pos + d, n + 1, f, by omega, by omega, by go_num, rfl, HF.out, by omega⟩
        case measure => simp; omega
    · have hnext := fun ty => run_next_end (P := Tryz.prog) w s pos ty hlt
      have HF := Lib.hid (show utfV s = true by
        rw [← hok]; cases f with
        | zero => rfl
        | succ f => rw [utfOk, if_neg hlt])
      clear hok
      go_wp2
      go_ret2
      exact ⟨n, by rw [HF.out]; rfl, (Below.refl _ _).alloc (Nat.le_refl _) _⟩

set_option maxHeartbeats 400000 in
theorem utfValid (s : ByteArray) (w : World) (hs : s.size ≤ 9223372036854775807) :
    Calls Tryz.prog 93 #[.string s] w fun e w' => e = .returned (.bool (utfV s)) ∧ Below w.heap.size w w' := by
  go_enter Tryz.func93, Tryz.ntmps93
  go_wp2_with fail
  refine (utfLen s w hs).mono ?_
  rintro e w2 ⟨n, rfl, hb⟩
  have HB := Lib.hid hb; clear hb
  go_wp2
  go_ret
  exact ⟨rfl, HB.out⟩

end Go.Proofs.YtcahpjejpimdhaaGreatDoor

namespace Go.Proofs.YtcahpjejpimdhaaGreatDoor
open Go.RowKit

theorem get_at (s : ByteArray) (i : Nat) (h : i < s.data.toList.length) : s.get! i = s.data.toList[i] := by
  have h' : i < s.data.size := by simpa using h
  simp only [ByteArray.get!, Array.getElem_toList]
  exact getElem!_pos s.data i h'

theorem drop_at {α : Type} (l : List α) (i : Nat) (h : i < l.length) : l.drop i = l[i] :: l.drop (i + 1) := List.drop_eq_getElem_cons h

theorem utf1 (s : ByteArray) (pos : Nat) (hb : (s.get! pos).toNat < 128) : utfBad s pos = false ∧ (Utf8.decode s pos).2 = 1 := by
  have e : Utf8.decode s pos = ((s.get! pos).toNat, 1) := by simp [Utf8.decode, hb]
  rw [utfBad, e]
  refine ⟨?_, rfl⟩
  have : ((s.get! pos).toNat == 65533) = false := by simp; omega
  simp [this]
theorem pre_iff (s : ByteArray) (pos : Nat) : Lib.hasPrefix (s.data.toList.drop pos) [239, 191, 189] = true ↔ pos + 2 < s.size ∧ (s.get! pos).toNat = 239 ∧ (s.get! (pos + 1)).toNat = 191 ∧ (s.get! (pos + 2)).toNat = 189 := by
  have hsz : s.data.toList.length = s.size := by simp
  have key : ∀ (l : List UInt8), Lib.hasPrefix l [239, 191, 189] = true ↔ ∃ r, l = 239 :: 191 :: 189 :: r := by
    intro l
    unfold Lib.hasPrefix
    rw [List.isPrefixOf_iff_prefix]
    constructor
    · rintro ⟨r, rfl⟩; exact ⟨r, rfl⟩
    · rintro ⟨r, rfl⟩; exact ⟨r, rfl⟩
  rw [key]
  by_cases h : pos + 2 < s.size
  · rw [drop_at _ _ (by omega), drop_at _ _ (by omega), drop_at _ _ (by omega), ← get_at s pos (by omega), ← get_at s (pos + 1) (by omega), ← get_at s (pos + 1 + 1) (by omega)]
    constructor
    · rintro ⟨r, hr⟩
      simp only [List.cons.injEq] at hr
      rw [hr.1, hr.2.1, hr.2.2.1]
      exact ⟨h, rfl, rfl, rfl⟩
    · rintro ⟨_, h0, h1, h2⟩
      refine ⟨s.data.toList.drop (pos + 1 + 1 + 1), ?_⟩
      rw [show s.get! pos = 239 from UInt8.toNat_inj.1 h0, show s.get! (pos + 1) = 191 from UInt8.toNat_inj.1 h1, show s.get! (pos + 1 + 1) = 189 from UInt8.toNat_inj.1 h2]
  · constructor
    · rintro ⟨r, hr⟩
      have := congrArg List.length hr
      simp at this
      omega
    · rintro ⟨h1, _⟩; exact absurd h1 h

theorem bad_iff (s : ByteArray) (pos : Nat) : utfBad s pos = true ↔ (Utf8.decode s pos).1 = 65533 ∧ ¬ (pos + 2 < s.size ∧ (s.get! pos).toNat = 239 ∧ (s.get! (pos + 1)).toNat = 191 ∧ (s.get! (pos + 2)).toNat = 189) := by
  rw [← pre_iff]; unfold utfBad; simp
theorem good_iff (s : ByteArray) (pos : Nat) : utfBad s pos = false ↔ ¬ ((Utf8.decode s pos).1 = 65533 ∧ ¬ (pos + 2 < s.size ∧ (s.get! pos).toNat = 239 ∧ (s.get! (pos + 1)).toNat = 191 ∧ (s.get! (pos + 2)).toNat = 189)) := by
  rw [← bad_iff]; simp

theorem utf0 (s : ByteArray) (pos : Nat) (hb : 128 ≤ (s.get! pos).toNat ∧ (s.get! pos).toNat < 192 ∨ 247 < (s.get! pos).toNat) : utfBad s pos = true := by
  have hlt := (s.get! pos).toNat_lt
  have e : Utf8.decode s pos = (65533, 1) := by
    unfold Utf8.decode Utf8.runeError; simp only [Nat.add_zero]
    rw [if_neg (by omega), if_neg (by simp; omega), if_neg (by simp; omega), if_neg (by simp; omega)]
  rw [bad_iff, e]
  exact ⟨rfl, by omega⟩

set_option maxRecDepth 100000 in
theorem utf2 (s : ByteArray) (pos : Nat) (hb : 192 ≤ (s.get! pos).toNat ∧ (s.get! pos).toNat < 224) :
    (utfBad s pos = false ↔ pos + 1 < s.size ∧ full2 (s.get! pos).toNat (s.get! (pos + 1)).toNat) ∧ (utfBad s pos = false → (Utf8.decode s pos).2 = 2) := by
  have h1 := (s.get! (pos + 1)).toNat_lt
  have e : Utf8.decode s pos = if pos + 1 < s.size ∧ full2 (s.get! pos).toNat (s.get! (pos + 1)).toNat then ((s.get! pos).toNat % 32 * 64 + (s.get! (pos + 1)).toNat % 64, 2) else (65533, 1) := by
    unfold Utf8.decode full2 Utf8.runeError; simp only [Nat.add_zero]
    rw [if_neg (by omega)]
    by_cases g : pos + 1 < s.size ∧ (s.get! (pos + 1)).toNat / 64 = 2
    · rw [if_pos (by simp; omega)]
      by_cases g2 : (s.get! pos).toNat % 32 * 64 + (s.get! (pos + 1)).toNat % 64 ≥ 128
      · rw [if_pos g2, if_pos (by omega)]
      · rw [if_neg g2, if_neg (by omega)]
    · rw [if_neg (by simp; omega), if_neg (by simp; omega), if_neg (by simp; omega), if_neg (by omega)]
  rw [good_iff, e]
  split
  · rename_i g; exact ⟨⟨fun _ => g, fun _ => by simp; omega⟩, fun _ => rfl⟩
  · rename_i g; exact ⟨⟨fun h => absurd ⟨rfl, by omega⟩ h, fun h => absurd h g⟩, fun h => absurd ⟨rfl, by omega⟩ h⟩

set_option maxRecDepth 100000 in
theorem utf3 (s : ByteArray) (pos : Nat) (hb : 224 ≤ (s.get! pos).toNat ∧ (s.get! pos).toNat < 240) :
    (utfBad s pos = false ↔ pos + 2 < s.size ∧ full3 (s.get! pos).toNat (s.get! (pos + 1)).toNat (s.get! (pos + 2)).toNat) ∧ (utfBad s pos = false → (Utf8.decode s pos).2 = 3) := by
  have h1 := (s.get! (pos + 1)).toNat_lt
  have h2 := (s.get! (pos + 2)).toNat_lt
  have e : Utf8.decode s pos = if pos + 2 < s.size ∧ full3 (s.get! pos).toNat (s.get! (pos + 1)).toNat (s.get! (pos + 2)).toNat then ((s.get! pos).toNat % 16 * 4096 + (s.get! (pos + 1)).toNat % 64 * 64 + (s.get! (pos + 2)).toNat % 64, 3) else (65533, 1) := by
    unfold Utf8.decode full3 Utf8.runeError Utf8.valid; simp only [Nat.add_zero]
    rw [if_neg (by omega), if_neg (by simp; omega)]
    by_cases g : pos + 2 < s.size ∧ (s.get! (pos + 1)).toNat / 64 = 2 ∧ (s.get! (pos + 2)).toNat / 64 = 2
    · rw [if_pos (by simp; omega)]
      by_cases g2 : (s.get! pos).toNat % 16 * 4096 + (s.get! (pos + 1)).toNat % 64 * 64 + (s.get! (pos + 2)).toNat % 64 ≥ 2048 ∧ ((s.get! pos).toNat % 16 * 4096 + (s.get! (pos + 1)).toNat % 64 * 64 + (s.get! (pos + 2)).toNat % 64 < 55296 ∨ 57343 < (s.get! pos).toNat % 16 * 4096 + (s.get! (pos + 1)).toNat % 64 * 64 + (s.get! (pos + 2)).toNat % 64)
      · rw [if_pos (by simp; omega), if_pos (by omega)]
      · rw [if_neg (by simp; omega), if_neg (by omega)]
    · rw [if_neg (by simp; omega), if_neg (by simp; omega), if_neg (by omega)]
  rw [good_iff, e]
  unfold full3
  split
  · rename_i g; exact ⟨⟨fun _ => g, fun _ => by simp; omega⟩, fun _ => rfl⟩
  · rename_i g; exact ⟨⟨fun h => absurd ⟨rfl, by omega⟩ h, fun h => absurd h g⟩, fun h => absurd ⟨rfl, by omega⟩ h⟩

set_option maxRecDepth 100000 in
theorem utf4 (s : ByteArray) (pos : Nat) (hb : 240 ≤ (s.get! pos).toNat ∧ (s.get! pos).toNat ≤ 247) :
    (utfBad s pos = false ↔ pos + 3 < s.size ∧ full4 (s.get! pos).toNat (s.get! (pos + 1)).toNat (s.get! (pos + 2)).toNat (s.get! (pos + 3)).toNat) ∧ (utfBad s pos = false → (Utf8.decode s pos).2 = 4) := by
  have h1 := (s.get! (pos + 1)).toNat_lt
  have h2 := (s.get! (pos + 2)).toNat_lt
  have h3 := (s.get! (pos + 3)).toNat_lt
  have e : Utf8.decode s pos = if pos + 3 < s.size ∧ full4 (s.get! pos).toNat (s.get! (pos + 1)).toNat (s.get! (pos + 2)).toNat (s.get! (pos + 3)).toNat then ((s.get! pos).toNat % 8 * 262144 + (s.get! (pos + 1)).toNat % 64 * 4096 + (s.get! (pos + 2)).toNat % 64 * 64 + (s.get! (pos + 3)).toNat % 64, 4) else (65533, 1) := by
    unfold Utf8.decode full4 Utf8.runeError Utf8.valid; simp only [Nat.add_zero]
    rw [if_neg (by omega), if_neg (by simp; omega), if_neg (by simp; omega)]
    by_cases g : pos + 3 < s.size ∧ (s.get! (pos + 1)).toNat / 64 = 2 ∧ (s.get! (pos + 2)).toNat / 64 = 2 ∧ (s.get! (pos + 3)).toNat / 64 = 2
    · rw [if_pos (by simp; omega)]
      by_cases g2 : (s.get! pos).toNat % 8 * 262144 + (s.get! (pos + 1)).toNat % 64 * 4096 + (s.get! (pos + 2)).toNat % 64 * 64 + (s.get! (pos + 3)).toNat % 64 ≥ 65536 ∧ (s.get! pos).toNat % 8 * 262144 + (s.get! (pos + 1)).toNat % 64 * 4096 + (s.get! (pos + 2)).toNat % 64 * 64 + (s.get! (pos + 3)).toNat % 64 ≤ 1114111
      · rw [if_pos (by simp; omega), if_pos (by omega)]
      · rw [if_neg (by simp; omega), if_neg (by omega)]
    · rw [if_neg (by simp; omega), if_neg (by omega)]
  rw [good_iff, e]
  unfold full4
  split
  · rename_i g; exact ⟨⟨fun _ => g, fun _ => by simp; omega⟩, fun _ => rfl⟩
  · rename_i g; exact ⟨⟨fun h => absurd ⟨rfl, by omega⟩ h, fun h => absurd h g⟩, fun h => absurd ⟨rfl, by omega⟩ h⟩

end Go.Proofs.YtcahpjejpimdhaaGreatDoor
