/- The contracts of utf.Len and utf.Valid. The contracts of key.May and of the reference's May; of the law's 'short'. The references' functions on values (legateref08). -/
import Derived.Test.YtaekmmnpdbmoeaaGreatDoorJh04
import Derived.Test.YtaekmmnpdbmoeaaGreatDoorJh00
import Derived.Test.YtaekmmnpdbmoeaaGreatDoorJh02
import Derived.Laws.RangeAny
import Derived.Deep.QuietTactic
import Derived.BigQuiet

namespace Go.Proofs.YtaekmmnpdbmoeaaGreatDoor
open Go.RowKit

/-- A byte at which no rune begins? -/
def utfBad (s : ByteArray) (pos : Nat) : Bool := ((Utf8.decode s pos).1 == 65533) && !Lib.hasPrefix (s.data.toList.drop pos) [239, 191, 189]
def utfOk (s : ByteArray) : Nat → Nat → Bool
  | 0, _ => true
  | f + 1, pos => if pos < s.size then (if utfBad s pos then false else utfOk s f (pos + (Utf8.decode s pos).2)) else true
/-- Is this UTF-8? -/
def utfV (s : ByteArray) : Bool := utfOk s (s.size + 1) 0
def LenPost (s : ByteArray) (w : World) (e : Ending) (w' : World) : Prop := ∃ n : Int, e = .returned (.tuple #[.int .i64 n, .bool (utfV s)]) ∧ Below w.heap.size w w'

theorem decode_pos (s : ByteArray) (pos : Nat) : 1 ≤ (Utf8.decode s pos).2 := by
  unfold Utf8.decode; dsimp only; repeat' split
  all_goals omega

set_option maxHeartbeats 400000 in
theorem utfLen (s : ByteArray) (w : World) (hs : s.size ≤ 9223372036854775807) :
    Calls Tryz.prog 126 #[.string s] w (LenPost s w) := by
  go_enter Tryz.func126, Tryz.ntmps126
  go_wp2
  go_loopw [4, 5, 6] (fun v4 _ _ wr => ∃ (pos n f : Nat), n ≤ pos ∧ n ≤ s.size ∧ v4 = .int .i64 n ∧ wr = w.iter s pos ∧ utfOk s f pos = utfV s ∧ s.size + 1 ≤ f + pos) (fun _ _ _ wr => s.size - wr.iterPos w.heap.size)
  case atStart => exact ⟨0, 0, s.size + 1, by omega, by omega, rfl, rfl, rfl, by omega⟩
  case round =>
    obtain ⟨pos, n, f, hn, hn', rfl, rfl, hok, hf⟩ := hrel
    by_cases hlt : pos < s.size
    · obtain ⟨f, rfl⟩ : ∃ g, f = g + 1 := ⟨f - 1, by omega⟩
      have hdp := decode_pos s pos
      have hdl := decode_le s pos
      have hun : utfOk s (f + 1) pos = if utfBad s pos then false else utfOk s f (pos + (Utf8.decode s pos).2) := by rw [utfOk, if_pos hlt]
      have hbad : utfBad s pos = (((Utf8.decode s pos).1 == 65533) && !Lib.hasPrefix (s.data.toList.drop pos) [239, 191, 189]) := rfl
      have hnext := fun ty => run_next_any (P := Tryz.prog) w s pos ty hlt
      generalize (Utf8.decode s pos).1 = r at *
      generalize (Utf8.decode s pos).2 = d at *
      have hex : (s.extract pos s.size).data.toList = s.data.toList.drop pos := by
        rw [ByteArray.data_extract, Array.toList_extract, List.extract_eq_take_drop, List.take_of_length_le]; rw [List.length_drop, toList_length]; exact Nat.le_refl _
      have HEX := Lib.hid hex
      rw [hun] at hok
      have HOK := Lib.hid hok
      have HBD := Lib.hid hbad
      clear hok hun hbad hex
      by_cases hr : r = 65533
      · have hr' : ((r : Int) == 65533) = true := by simp [hr]
        have hr2 : (r == 65533) = true := by simp [hr]
        cases hp : Lib.hasPrefix (s.data.toList.drop pos) [239, 191, 189]
        · have HF := Lib.hid (show utfV s = false by rw [← HOK.out, HBD.out, hr2, hp]; rfl)
          have HP := Lib.hid hp
          clear hp hr2 hr
          go_wp2_with fail
          refine (Tryz.strings_HasPrefix _ _ _).mono ?_
          rintro e w2 ⟨rfl, rfl⟩
          rw [show Lib.hasPrefix (s.extract pos s.size).data.toList ({ data := #[239, 191, 189] } : ByteArray).data.toList = false by rw [HEX.out]; exact HP.out]
          go_wp2
          go_ret2
          exact ⟨0, by rw [HF.out]; rfl, (Below.refl _ _).alloc (Nat.le_refl _) _⟩
        · have HF := Lib.hid (show utfOk s f (pos + d) = utfV s by rw [← HOK.out, HBD.out, hr2, hp]; rfl)
          have HP := Lib.hid hp
          clear hp hr2 hr
          go_wp2_with fail
          refine (Tryz.strings_HasPrefix _ _ _).mono ?_
          rintro e w2 ⟨rfl, rfl⟩
          rw [show Lib.hasPrefix (s.extract pos s.size).data.toList ({ data := #[239, 191, 189] } : ByteArray).data.toList = true by rw [HEX.out]; exact HP.out]
          go_wp2
          go_roundw
          case rel => exact ⟨pos + d, n + 1, f, by omega, by omega, by go_num, rfl, HF.out, by omega⟩
          case measure => simp; omega
      · have hr' : ((r : Int) == 65533) = false := by simp; omega
        have hr2 : (r == 65533) = false := by simp [hr]
        have HF := Lib.hid (show utfOk s f (pos + d) = utfV s by rw [← HOK.out, HBD.out, hr2]; rfl)
        clear hr2 hr
        go_wp2
        go_roundw
        case rel => exact ⟨pos + d, n + 1, f, by omega, by omega, by go_num, rfl, HF.out, by omega⟩
        case measure => simp; omega
    · have hnext := fun ty => run_next_end (P := Tryz.prog) w s pos ty hlt
      have HF := Lib.hid (show utfV s = true by
        rw [← hok]; cases f with
        | zero => rfl
        | succ f => rw [utfOk, if_neg hlt])
      clear hok
      go_wp2
      go_ret2
      exact ⟨n, by rw [HF.out]; rfl, (Below.refl _ _).alloc (Nat.le_refl _) _⟩

set_option maxHeartbeats 400000 in
theorem utfValid (s : ByteArray) (w : World) (hs : s.size ≤ 9223372036854775807) :
    Calls Tryz.prog 105 #[.string s] w fun e w' => e = .returned (.bool (utfV s)) ∧ Below w.heap.size w w' := by
  go_enter Tryz.func105, Tryz.ntmps105
  go_wp2_with fail
  refine (utfLen s w hs).mono ?_
  rintro e w2 ⟨n, rfl, hb⟩
  have HB := Lib.hid hb; clear hb
  go_wp2
  go_ret
  exact ⟨rfl, HB.out⟩

end Go.Proofs.YtaekmmnpdbmoeaaGreatDoor

namespace Go.Proofs.YtaekmmnpdbmoeaaGreatDoor
open Go.RowKit

set_option maxHeartbeats 400000 in
theorem keyMay (s t : ByteArray) (w : World) (hs : s.size ≤ 9223372036854775807) (ht : t.size ≤ 9223372036854775807) :
    Calls Tryz.prog 30 #[.agg #[.string s, .string t]] w fun e w' => e = .returned (.bool (keyOk s.data.toList t.data.toList)) ∧ Below w.heap.size w w' := by
  unfold keyOk
  cases hr : roleOk s.data.toList
  · have HR := Lib.hid hr
    go_enter Tryz.func30, Tryz.ntmps30
    go_wp2_with (go_at_call 56; refine (nameRole s _ hs).mono ?_; rintro e w' ⟨rfl, rfl⟩)
    go_ret
    exact ⟨rfl, (Below.refl _ _).alloc (Nat.le_refl _) _⟩
  by_cases h1 : t.size < 2 ∨ 128 < t.size ∨ t.size % 2 = 1
  · have HP := Lib.hid (pub_no h1)
    rw [HP.out]
    by_cases g1 : t.size = 0
    · have g1' : ¬ 0 < (t.size : Int) := by omega
      clear h1 g1
      go_enter Tryz.func30, Tryz.ntmps30
      go_wp2_with (go_at_call 56; refine (nameRole s _ hs).mono ?_; rintro e w' ⟨rfl, rfl⟩)
      go_ret
      exact ⟨rfl, (Below.refl _ _).alloc (Nat.le_refl _) _⟩
    have g1' : 0 < t.size := by omega
    clear g1
    by_cases g2 : 128 < t.size
    · clear h1
      go_enter Tryz.func30, Tryz.ntmps30
      go_wp2_with (go_at_call 56; refine (nameRole s _ hs).mono ?_; rintro e w' ⟨rfl, rfl⟩)
      go_ret
      exact ⟨rfl, (Below.refl _ _).alloc (Nat.le_refl _) _⟩
    have g3 : ((t.size : Int) % 2 == 0) = false := by simp; omega
    have g2' : t.size ≤ 128 := by omega
    clear h1 g2
    go_enter Tryz.func30, Tryz.ntmps30
    go_wp2_with (go_at_call 56; refine (nameRole s _ hs).mono ?_; rintro e w' ⟨rfl, rfl⟩)
    go_ret
    exact ⟨rfl, (Below.refl _ _).alloc (Nat.le_refl _) _⟩
  · have HP := Lib.hid (pub_hex (s := t) (by omega) (by omega) (by omega))
    rw [HP.out]
    have g1 : 2 ≤ t.size := by omega
    have g2 : t.size ≤ 128 := by omega
    have g3 : ((t.size : Int) % 2 == 0) = true := by simp; omega
    clear h1
    go_enter Tryz.func30, Tryz.ntmps30
    go_wp2_with (first | (go_at_call 56; refine (nameRole s _ hs).mono ?_; rintro e w' ⟨rfl, rfl⟩) | (go_at_call 57; refine (hexIs t _ ht).mono ?_; rintro e w' ⟨rfl, rfl⟩))
    go_ret
    exact ⟨by simp, (Below.refl _ _).alloc (Nat.le_refl _) _⟩

set_option maxHeartbeats 400000 in
theorem ref14Hex (t : ByteArray) (w : World) (ht : t.size ≤ 9223372036854775807) :
    Calls Tryz.prog 42 #[.string t] w fun e w' => e = .returned (.bool (pubOk t.data.toList)) ∧ w = w' := by
  by_cases g1 : t.size < 2
  · have HP := Lib.hid (pub_no (.inl g1))
    go_enter Tryz.func42, Tryz.ntmps42
    go_wp2
    go_ret
    exact ⟨ret_bool HP.out.symm, rfl⟩
  by_cases g2 : 128 < t.size
  · have HP := Lib.hid (pub_no (.inr (.inl g2)))
    go_enter Tryz.func42, Tryz.ntmps42
    go_wp2
    go_ret
    exact ⟨ret_bool HP.out.symm, rfl⟩
  by_cases g3 : t.size % 2 = 0
  · have HP := Lib.hid (pub_hex (s := t) (by omega) (by omega) (by omega))
    have g3' : ((t.size : Int) % 2 == 0) = true := by simp; omega
    clear g3
    go_enter Tryz.func42, Tryz.ntmps42
    go_wp2_with (go_at_call 66; refine (ref01Is t _ ht).mono ?_; rintro e w' ⟨rfl, rfl⟩)
    go_ret
    exact ⟨ret_bool HP.out.symm, rfl⟩
  · have HP := Lib.hid (pub_no (s := t) (.inr (.inr (by omega))))
    have g3' : ((t.size : Int) % 2 == 0) = false := by simp; omega
    clear g3
    go_enter Tryz.func42, Tryz.ntmps42
    go_wp2
    go_ret
    exact ⟨ret_bool HP.out.symm, rfl⟩

set_option maxHeartbeats 400000 in
theorem ref14May (s t : ByteArray) (w : World) (hs : s.size ≤ 9223372036854775807) (ht : t.size ≤ 9223372036854775807) :
    Calls Tryz.prog 65 #[.agg #[.string s, .string t]] w fun e w' => e = .returned (.bool (keyOk s.data.toList t.data.toList)) ∧ Below w.heap.size w w' := by
  unfold keyOk
  cases hr : roleOk s.data.toList
  all_goals
    go_enter Tryz.func65, Tryz.ntmps65
    go_wp2_with (first | (go_at_call 94; refine (ref13Role s _ hs).mono ?_; rintro e w' ⟨rfl, rfl⟩) | (go_at_call 42; refine (ref14Hex t _ ht).mono ?_; rintro e w' ⟨rfl, rfl⟩))
    go_ret
    exact ⟨by simp, (Below.refl _ _).alloc (Nat.le_refl _) _⟩

end Go.Proofs.YtaekmmnpdbmoeaaGreatDoor

namespace Go.Proofs.YtaekmmnpdbmoeaaGreatDoor
open Go.RowKit

mutual
def JV.count : JV → Nat
  | .mk _ _ _ _ xs => 1 + JV.counts xs
def JV.counts : List JV → Nat
  | [] => 0
  | x :: r => JV.count x + JV.counts r
end
theorem JV.counts_take (l : List JV) (k : Nat) (h : k < l.length) : JV.counts (l.take (k + 1)) = JV.counts (l.take k) + JV.count l[k] := by
  induction l generalizing k with
  | nil => simp at h
  | cons x r ih =>
    cases k with
    | zero => simp [JV.counts]
    | succ k => simp only [List.take_succ_cons, JV.counts, List.getElem_cons_succ]; rw [ih k (by simpa using h)]; omega
mutual
theorem JV.count_le : ∀ v : JV, v.count ≤ v.wt
  | .mk _ _ _ _ xs => by have := JV.counts_le xs; simp [JV.count, JV.wt]; omega
theorem JV.counts_le : ∀ l : List JV, JV.counts l ≤ JV.wts l
  | [] => by simp [JV.counts]
  | x :: r => by have := JV.count_le x; have := JV.counts_le r; simp [JV.counts, JV.wts]; omega
end
theorem JV.wts_take (l : List JV) (k : Nat) : JV.wts (l.take k) ≤ JV.wts l := by
  induction l generalizing k with
  | nil => simp
  | cons x r ih => cases k with
    | zero => simp [JV.wts]
    | succ k => have := ih k; simp [JV.wts]; omega

set_option maxHeartbeats 400000 in
theorem refCount (N : Nat) : ∀ (v : JV) (x : Value) (w : World), v.wt ≤ N → N ≤ 4294967296 → Rep w 0 w.heap.size v x →
    Calls Tryz.prog 121 #[x] w fun e w' => e = .returned (.int .i64 v.count) ∧ Below w.heap.size w w' := by
  induction N with
  | zero => intro v x w h; have := v.wt_pos; omega
  | succ N ih =>
    intro v x w hN hM hR
    obtain ⟨an, cn, ai, ci, rfl, h1, h2, h3, h4⟩ := hR.parts
    obtain ⟨b1, b2, b3, b4⟩ := v.wt_bd
    have IH := Lib.hid ih; clear ih
    have H4 := Lib.hid h4; clear h4 hR h3
    go_enter Tryz.func121, Tryz.ntmps121
    go_wp2
    go_loopw [3, 4] (fun s i wr => ∃ k : Nat, k ≤ v.items.length ∧ i = .int .i64 k ∧ s = .int .i64 (1 + JV.counts (v.items.take k) : Nat) ∧ Below (w.heap.size + 1) (w.alloc (.cells #[.int .u8 v.kind, .int .i64 v.n, .string v.t, .slice an v.names.length cn, .slice ai v.items.length ci] 44)) wr) (fun _ i _ => v.items.length - (intOf i).toNat)
    case atStart => exact ⟨0, Nat.zero_le _, rfl, by simp [JV.counts], Below.refl _ _⟩
    case round =>
      obtain ⟨k, hk, rfl, rfl, hbel⟩ := hrel
      have hc4 : wr.cell? ⟨w.heap.size, 4, none⟩ = some (.slice ai v.items.length ci) := by rw [hbel.cell (by simp)]; go_simp
      have hw : Below w.heap.size w wr := ((Below.refl _ _).alloc (Nat.le_refl _) _).trans (hbel.mono (by omega))
      have hz : w.heap.size < wr.heap.size := by have := hbel.size; simp at this; omega
      have HB := Lib.hid hbel; clear hbel
      by_cases hlt : k < v.items.length
      · obtain ⟨b, off, c0, c1, c2, c3, c4, rfl, _, hb, e0, e1, e2, e3, e4, hrep⟩ := (H4.out.below hw (Nat.le_refl _) (Nat.le_refl _) hw.size).at k hlt
        have hcnt := JV.counts_le (v.items.take k)
        have hcnt2 := JV.wts_take v.items k
        have hk1 := JV.wts_get v.items k hlt
        have hk2 := JV.count_le v.items[k]
        have HS := Lib.hid (JV.counts_take v.items k hlt)
        have HW := Lib.hid hw; clear hw
        have HR := Lib.hid hrep; clear hrep
        go_wp2_with fail
        refine (IH.out v.items[k] _ _ (by omega) (by omega) HR.out).mono ?_
        rintro e w1 ⟨rfl, hb1⟩
        have HB1 := Lib.hid hb1; clear hb1
        go_wp2
        go_roundw
        case rel => exact ⟨k + 1, by omega, by go_num, by rw [HS.out]; go_num, HB.out.trans (HB1.out.mono (by omega))⟩
        case measure => simp [intOf]; omega
      · obtain rfl : k = v.items.length := by omega
        have HW := Lib.hid hw; clear hw
        go_wp2
        go_ret
        refine ⟨ret_int ?_, HW.out⟩
        rw [List.take_length]; cases v; rfl

end Go.Proofs.YtaekmmnpdbmoeaaGreatDoor
