/- The contracts of key.May and of the reference's May; of the law's 'short'. The references' functions on values (legateref08). -/
import Derived.Test.YtcahpjejpimdhaaGreatDoorZt202
import Derived.Test.YtcahpjejpimdhaaGreatDoorZt200

namespace Go.Proofs.YtcahpjejpimdhaaGreatDoor
open Go.RowKit

set_option maxHeartbeats 400000 in
theorem keyMay (s t : ByteArray) (w : World) (hs : s.size ≤ 9223372036854775807) (ht : t.size ≤ 9223372036854775807) :
    Calls Tryz.prog 20 #[.agg #[.string s, .string t]] w fun e w' => e = .returned (.bool (keyOk s.data.toList t.data.toList)) ∧ Below w.heap.size w w' := by
  unfold keyOk
  cases hr : roleOk s.data.toList
  · have HR := Lib.hid hr
    go_enter Tryz.func20, Tryz.ntmps20
    go_wp2_with (go_at_call 48; refine (nameRole s _ hs).mono ?_; rintro e w' ⟨rfl, rfl⟩)
    go_ret
    exact ⟨rfl, (Below.refl _ _).alloc (Nat.le_refl _) _⟩
  by_cases h1 : t.size < 2 ∨ 128 < t.size ∨ t.size % 2 = 1
  · have HP := Lib.hid (pub_no h1)
    rw [HP.out]
    by_cases g1 : t.size = 0
    · have g1' : ¬ 0 < (t.size : Int) := by omega
      clear h1 g1
      go_enter Tryz.func20, Tryz.ntmps20
      go_wp2_with (go_at_call 48; refine (nameRole s _ hs).mono ?_; rintro e w' ⟨rfl, rfl⟩)
      go_ret
      exact ⟨rfl, (Below.refl _ _).alloc (Nat.le_refl _) _⟩
    have g1' : 0 < t.size := by omega
    clear g1
    by_cases g2 : 128 < t.size
    · clear h1
      go_enter Tryz.func20, Tryz.ntmps20
      go_wp2_with (go_at_call 48; refine (nameRole s _ hs).mono ?_; rintro e w' ⟨rfl, rfl⟩)
      go_ret
      exact ⟨rfl, (Below.refl _ _).alloc (Nat.le_refl _) _⟩
    have g3 : ((t.size : Int) % 2 == 0) = false := by simp; omega
    have g2' : t.size ≤ 128 := by omega
    clear h1 g2
    go_enter Tryz.func20, Tryz.ntmps20
    go_wp2_with (go_at_call 48; refine (nameRole s _ hs).mono ?_; rintro e w' ⟨rfl, rfl⟩)
    go_ret
    exact ⟨rfl, (Below.refl _ _).alloc (Nat.le_refl _) _⟩
  · have HP := Lib.hid (pub_hex (s := t) (by omega) (by omega) (by omega))
    rw [HP.out]
    have g1 : 2 ≤ t.size := by omega
    have g2 : t.size ≤ 128 := by omega
    have g3 : ((t.size : Int) % 2 == 0) = true := by simp; omega
    clear h1
    go_enter Tryz.func20, Tryz.ntmps20
    go_wp2_with (first | (go_at_call 48; refine (nameRole s _ hs).mono ?_; rintro e w' ⟨rfl, rfl⟩) | (go_at_call 27; refine (hexIs t _ ht).mono ?_; rintro e w' ⟨rfl, rfl⟩))
    go_ret
    exact ⟨by simp, (Below.refl _ _).alloc (Nat.le_refl _) _⟩

set_option maxHeartbeats 400000 in
theorem ref14Hex (t : ByteArray) (w : World) (ht : t.size ≤ 9223372036854775807) :
    Calls Tryz.prog 50 #[.string t] w fun e w' => e = .returned (.bool (pubOk t.data.toList)) ∧ w = w' := by
  by_cases g1 : t.size < 2
  · have HP := Lib.hid (pub_no (.inl g1))
    go_enter Tryz.func50, Tryz.ntmps50
    go_wp2
    go_ret
    exact ⟨ret_bool HP.out.symm, rfl⟩
  by_cases g2 : 128 < t.size
  · have HP := Lib.hid (pub_no (.inr (.inl g2)))
    go_enter Tryz.func50, Tryz.ntmps50
    go_wp2
    go_ret
    exact ⟨ret_bool HP.out.symm, rfl⟩
  by_cases g3 : t.size % 2 = 0
  · have HP := Lib.hid (pub_hex (s := t) (by omega) (by omega) (by omega))
    have g3' : ((t.size : Int) % 2 == 0) = true := by simp; omega
    clear g3
    go_enter Tryz.func50, Tryz.ntmps50
    go_wp2_with (go_at_call 85; refine (ref01Is t _ ht).mono ?_; rintro e w' ⟨rfl, rfl⟩)
    go_ret
    exact ⟨ret_bool HP.out.symm, rfl⟩
  · have HP := Lib.hid (pub_no (s := t) (.inr (.inr (by omega))))
    have g3' : ((t.size : Int) % 2 == 0) = false := by simp; omega
    clear g3
    go_enter Tryz.func50, Tryz.ntmps50
    go_wp2
    go_ret
    exact ⟨ret_bool HP.out.symm, rfl⟩

set_option maxHeartbeats 400000 in
theorem ref14May (s t : ByteArray) (w : World) (hs : s.size ≤ 9223372036854775807) (ht : t.size ≤ 9223372036854775807) :
    Calls Tryz.prog 21 #[.agg #[.string s, .string t]] w fun e w' => e = .returned (.bool (keyOk s.data.toList t.data.toList)) ∧ Below w.heap.size w w' := by
  unfold keyOk
  cases hr : roleOk s.data.toList
  all_goals
    go_enter Tryz.func21, Tryz.ntmps21
    go_wp2_with (first | (go_at_call 49; refine (ref13Role s _ hs).mono ?_; rintro e w' ⟨rfl, rfl⟩) | (go_at_call 50; refine (ref14Hex t _ ht).mono ?_; rintro e w' ⟨rfl, rfl⟩))
    go_ret
    exact ⟨by simp, (Below.refl _ _).alloc (Nat.le_refl _) _⟩

def shortK (s t : ByteArray) : Bool := decide (s.size ≤ 300 ∧ t.size ≤ 300)
set_option maxHeartbeats 400000 in
theorem lawShort (s t : ByteArray) (w : World) :
    Calls Tryz.prog 13 #[.agg #[.string s, .string t]] w fun e w' => e = .returned (.bool (shortK s t)) ∧ Below w.heap.size w w' := by
  by_cases h : s.size ≤ 300
  · by_cases h' : t.size ≤ 300
    · have HP : Hid (shortK s t = true) := by unfold shortK; exact decide_eq_true ⟨h, h'⟩
      go_enter Tryz.func13, Tryz.ntmps13
      go_wp2
      go_ret
      exact ⟨ret_bool (by rw [HP.out]; simp; omega), (Below.refl _ _).alloc (Nat.le_refl _) _⟩
    · have HP : Hid (shortK s t = false) := by unfold shortK; exact decide_eq_false (by omega)
      go_enter Tryz.func13, Tryz.ntmps13
      go_wp2
      go_ret
      exact ⟨ret_bool (by rw [HP.out]; simp; omega), (Below.refl _ _).alloc (Nat.le_refl _) _⟩
  · have HP : Hid (shortK s t = false) := by unfold shortK; exact decide_eq_false (by omega)
    go_enter Tryz.func13, Tryz.ntmps13
    go_wp2
    go_ret
    exact ⟨ret_bool (by rw [HP.out]), (Below.refl _ _).alloc (Nat.le_refl _) _⟩

end Go.Proofs.YtcahpjejpimdhaaGreatDoor

namespace Go.Proofs.YtcahpjejpimdhaaGreatDoor
open Go.RowKit

mutual
def JV.count : JV → Nat
  | .mk _ _ _ _ xs => 1 + JV.counts xs
def JV.counts : List JV → Nat
  | [] => 0
  | x :: r => JV.count x + JV.counts r
end
theorem JV.counts_take (l : List JV) (k : Nat) (h : k < l.length) : JV.counts (l.take (k + 1)) = JV.counts (l.take k) + JV.count l[k] := by
  induction l generalizing k with
  | nil => simp at h
  | cons x r ih =>
    cases k with
    | zero => simp [JV.counts]
    | succ k => simp only [List.take_succ_cons, JV.counts, List.getElem_cons_succ]; rw [ih k (by simpa using h)]; omega
mutual
theorem JV.count_le : ∀ v : JV, v.count ≤ v.wt
  | .mk _ _ _ _ xs => by have := JV.counts_le xs; simp [JV.count, JV.wt]; omega
theorem JV.counts_le : ∀ l : List JV, JV.counts l ≤ JV.wts l
  | [] => by simp [JV.counts]
  | x :: r => by have := JV.count_le x; have := JV.counts_le r; simp [JV.counts, JV.wts]; omega
end
theorem JV.wts_take (l : List JV) (k : Nat) : JV.wts (l.take k) ≤ JV.wts l := by
  induction l generalizing k with
  | nil => simp
  | cons x r ih => cases k with
    | zero => simp [JV.wts]
    | succ k => have := ih k; simp [JV.wts]; omega

set_option maxHeartbeats 400000 in
theorem refCount (N : Nat) : ∀ (v : JV) (x : Value) (w : World), v.wt ≤ N → N ≤ 4294967296 → Rep w 0 w.heap.size v x →
    Calls Tryz.prog 90 #[x] w fun e w' => e = .returned (.int .i64 v.count) ∧ Below w.heap.size w w' := by
  induction N with
  | zero => intro v x w h; have := v.wt_pos; omega
  | succ N ih =>
    intro v x w hN hM hR
    obtain ⟨an, cn, ai, ci, rfl, h1, h2, h3, h4⟩ := hR.parts
    obtain ⟨b1, b2, b3, b4⟩ := v.wt_bd
    have IH := Lib.hid ih; clear ih
    have H4 := Lib.hid h4; clear h4 hR h3
    go_enter Tryz.func90, Tryz.ntmps90
    go_wp2
    go_loopw [3, 4] (fun s i wr => ∃ k : Nat, k ≤ v.items.length ∧ i = .int .i64 k ∧ s = .int .i64 (1 + JV.counts (v.items.take k) : Nat) ∧ Below (w.heap.size + 1) (w.alloc (.cells #[.int .u8 v.kind, .int .i64 v.n, .string v.t, .slice an v.names.length cn, .slice ai v.items.length ci] 29)) wr) (fun _ i _ => v.items.length - (intOf i).toNat)
    case atStart => exact ⟨0, Nat.zero_le _, rfl, by simp [JV.counts], Below.refl _ _⟩
    case round =>
      obtain ⟨k, hk, rfl, rfl, hbel⟩ := hrel
      have hc4 : wr.cell? ⟨w.heap.size, 4, none⟩ = some (.slice ai v.items.length ci) := by rw [hbel.cell (by simp)]; go_simp
      have hw : Below w.heap.size w wr := ((Below.refl _ _).alloc (Nat.le_refl _) _).trans (hbel.mono (by omega))
      have hz : w.heap.size < wr.heap.size := by have := hbel.size; simp at this; omega
      have HB := Lib.hid hbel; clear hbel
      by_cases hlt : k < v.items.length
      · obtain ⟨b, off, c0, c1, c2, c3, c4, rfl, _, hb, e0, e1, e2, e3, e4, hrep⟩ := (H4.out.below hw (Nat.le_refl _) (Nat.le_refl _) hw.size).at k hlt
        have hcnt := JV.counts_le (v.items.take k)
        have hcnt2 := JV.wts_take v.items k
        have hk1 := JV.wts_get v.items k hlt
        have hk2 := JV.count_le v.items[k]
        have HS := Lib.hid (JV.counts_take v.items k hlt)
        have HW := Lib.hid hw; clear hw
        have HR := Lib.hid hrep; clear hrep
        go_wp2_with fail
        refine (IH.out v.items[k] _ _ (by omega) (by omega) HR.out).mono ?_
        rintro e w1 ⟨rfl, hb1⟩
        have HB1 := Lib.hid hb1; clear hb1
        go_wp2
        go_roundw
        case rel => exact ⟨k + 1, by omega, by go_num, by rw [HS.out]; go_num, HB.out.trans (HB1.out.mono (by omega))⟩
        case measure => simp [intOf]; omega
      · obtain rfl : k = v.items.length := by omega
        have HW := Lib.hid hw; clear hw
        go_wp2
        go_ret
        refine ⟨ret_int ?_, HW.out⟩
        rw [List.take_length]; cases v; rfl

end Go.Proofs.YtcahpjejpimdhaaGreatDoor
