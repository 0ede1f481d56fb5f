/- The references' functions on values (legateref08). -/
import Derived.Test.YtcahpjejpimdhaaGreatDoorStr
import Derived.Test.YtcahpjejpimdhaaGreatDoorRep
namespace Go.Proofs.YtcahpjejpimdhaaGreatDoor
open Go.RowKit

mutual
def JV.count : JV → Nat
  | .mk _ _ _ _ xs => 1 + JV.counts xs
def JV.counts : List JV → Nat
  | [] => 0
  | x :: r => JV.count x + JV.counts r
end
theorem JV.counts_take (l : List JV) (k : Nat) (h : k < l.length) : JV.counts (l.take (k + 1)) = JV.counts (l.take k) + JV.count l[k] := by
  induction l generalizing k with
  | nil => simp at h
  | cons x r ih =>
    cases k with
    | zero => simp [JV.counts]
    | succ k => simp only [List.take_succ_cons, JV.counts, List.getElem_cons_succ]; rw [ih k (by simpa using h)]; omega
mutual
theorem JV.count_le : ∀ v : JV, v.count ≤ v.wt
  | .mk _ _ _ _ xs => by have := JV.counts_le xs; simp [JV.count, JV.wt]; omega
theorem JV.counts_le : ∀ l : List JV, JV.counts l ≤ JV.wts l
  | [] => by simp [JV.counts]
  | x :: r => by have := JV.count_le x; have := JV.counts_le r; simp [JV.counts, JV.wts]; omega
end
theorem JV.wts_take (l : List JV) (k : Nat) : JV.wts (l.take k) ≤ JV.wts l := by
  induction l generalizing k with
  | nil => simp
  | cons x r ih => cases k with
    | zero => simp [JV.wts]
    | succ k => have := ih k; simp [JV.wts]; omega

set_option maxHeartbeats 400000 in
theorem refCount (N : Nat) : ∀ (v : JV) (x : Value) (w : World), v.wt ≤ N → N ≤ 4294967296 → Rep w 0 w.heap.size v x →
    Calls Tryz.prog 90 #[x] w fun e w' => e = .returned (.int .i64 v.count) ∧ Below w.heap.size w w' := by
  induction N with
  | zero => intro v x w h; have := v.wt_pos; omega
  | succ N ih =>
    intro v x w hN hM hR
    obtain ⟨an, cn, ai, ci, rfl, h1, h2, h3, h4⟩ := hR.parts
    obtain ⟨b1, b2, b3, b4⟩ := v.wt_bd
    have IH := Lib.hid ih; clear ih
    have H4 := Lib.hid h4; clear h4 hR h3
    go_enter Tryz.func90, Tryz.ntmps90
    go_wp2
    go_loopw [3, 4] (fun s i wr => ∃ k : Nat, k ≤ v.items.length ∧ i = .int .i64 k ∧ s = .int .i64 (1 + JV.counts (v.items.take k) : Nat) ∧ Below (w.heap.size + 1) (w.alloc (.cells #[.int .u8 v.kind, .int .i64 v.n, .string v.t, .slice an v.names.length cn, .slice ai v.items.length ci] 29)) wr) (fun _ i _ => v.items.length - (intOf i).toNat)
    case atStart => exact ⟨0, Nat.zero_le _, rfl, by simp [JV.counts], Below.refl _ _⟩
    case round =>
      obtain ⟨k, hk, rfl, rfl, hbel⟩ := hrel
      have hc4 : wr.cell? ⟨w.heap.size, 4, none⟩ = some (.slice ai v.items.length ci) := by rw [hbel.cell (by simp)]; go_simp
      have hw : Below w.heap.size w wr := ((Below.refl _ _).alloc (Nat.le_refl _) _).trans (hbel.mono (by omega))
      have hz : w.heap.size < wr.heap.size := by have := hbel.size; simp at this; omega
      have HB := Lib.hid hbel; clear hbel
      by_cases hlt : k < v.items.length
      · obtain ⟨b, off, c0, c1, c2, c3, c4, rfl, _, hb, e0, e1, e2, e3, e4, hrep⟩ := (H4.out.below hw (Nat.le_refl _) (Nat.le_refl _) hw.size).at k hlt
        have hcnt := JV.counts_le (v.items.take k)
        have hcnt2 := JV.wts_take v.items k
        have hk1 := JV.wts_get v.items k hlt
        have hk2 := JV.count_le v.items[k]
        have HS := Lib.hid (JV.counts_take v.items k hlt)
        have HW := Lib.hid hw; clear hw
        have HR := Lib.hid hrep; clear hrep
        go_wp2_with fail
        refine (IH.out v.items[k] _ _ (by omega) (by omega) HR.out).mono ?_
        rintro e w1 ⟨rfl, hb1⟩
        have HB1 := Lib.hid hb1; clear hb1
        go_wp2
        go_roundw
        case rel => exact ⟨k + 1, by omega, by go_num, by rw [HS.out]; go_num, HB.out.trans (HB1.out.mono (by omega))⟩
        case measure => simp [intOf]; omega
      · obtain rfl : k = v.items.length := by omega
        have HW := Lib.hid hw; clear hw
        go_wp2
        go_ret
        refine ⟨ret_int ?_, HW.out⟩
        rw [List.take_length]; cases v; rfl

end Go.Proofs.YtcahpjejpimdhaaGreatDoor
