/- The contract of value.endless: a value that can be read as data does not contain itself. -/
import Derived.Test.YtcahpjejpimdhaaGreatDoorRepInj
import Derived.Test.YtcahpjejpimdhaaGreatDoorTouch
import Derived.Test.YtcahpjejpimdhaaGreatDoorProg
import Derived.WalkKit
import Derived.WalkSpells
import Derived.WalkLawsBesides
import Derived.Lib.Hide
import Derived.LaidEqlPtr
namespace Go.Proofs.YtcahpjejpimdhaaGreatDoor
open Go.RowKit

theorem infoVal : ∃ j, Tryz.prog.info? 29 = some j ∧ j.size ≠ 0 := by
  have h : (Tryz.prog.info? 29).map (·.size) = some 5 := by kernel_rfl
  cases hj : Tryz.prog.info? 29 with
  | none => rw [hj] at h; cases h
  | some j =>
    rw [hj] at h
    have e : j.size = 5 := by simpa using h
    exact ⟨j, rfl, by rw [e]; decide⟩

set_option maxRecDepth 100000 in
set_option maxHeartbeats 1000000 in
theorem valueEndless (N : Nat) : ∀ (l : List JV) (a : Option Addr) (c lv : Nat) (p : Option Addr) (lo hi : Nat) (w : World), 0 < lo → JV.wts l ≤ N → lv + N ≤ 1099511627776 → ValsAt w lo hi a l → Above w lo hi (JV.wts l) p →
    Calls Tryz.prog 68 #[.slice a l.length c, .int .i64 lv, .pointer p, .bool false] w fun e w' => e = .returned (.bool false) ∧ w = w' := by
  induction N with
  | zero =>
    intro l a c lv p lo hi w hlo hN hlv hV hA
    have hlen := JV.wts_len l
    obtain rfl : l = [] := List.eq_nil_of_length_eq_zero (by omega)
    clear hV hA
    go_enter Tryz.func68, Tryz.ntmps68
    go_wp2
    refine wp_loop_rounds 1 ?_
    rw [rounds_succ]
    go_wp2
    go_ret
    exact ⟨rfl, rfl⟩
  | succ N ih =>
    intro l a c lv p lo hi w hlo hN hlv hV hA
    have IH := Lib.hid ih; clear ih
    have HV := Lib.hid hV; clear hV
    have HA := Lib.hid hA; clear hA
    have hlen := JV.wts_len l
    obtain ⟨n, hn⟩ : ∃ n, n = l.length := ⟨_, rfl⟩
    rw [← hn]
    rw [← hn] at hlen
    have HN := Lib.hid hn; clear hn
    go_enter Tryz.func68, Tryz.ntmps68
    go_wp2
    go_loop [9, 10, 11, 14] (fun _ _ _ i => ∃ k : Nat, k ≤ n ∧ i = .int .i64 k) (fun _ _ _ i => n - (intOf i).toNat)
    case atStart => exact ⟨0, by omega, rfl⟩
    case round =>
      obtain ⟨k, hk, rfl⟩ := hrel
      by_cases hlt : k < n
      · have hlt' : k < l.length := by rw [← HN.out]; exact hlt
        obtain ⟨b, off, an, cn, ai, ci, rfl, _, hb, y0, y1, y2, y3, y4, hrep⟩ := HV.out.get k hlt'
        have hwk := JV.wts_get l k hlt'
        have HVA : Hid (VAt w lo hi l[k] b (off + k * 5)) := ⟨_, _, _, _, _, y0, y1, y2, y3, y4, hrep⟩
        obtain ⟨_, _, _, hwi⟩ := l[k].wt_bd
        have HI := Lib.hid (show ValsAt w lo hi ai l[k].items by
          obtain ⟨an', cn', ai', ci', hx, _, _, _, h5⟩ := hrep.parts
          simp only [Value.agg.injEq, Array.mk.injEq, List.cons.injEq, and_true, Value.slice.injEq] at hx
          obtain ⟨_, _, _, _, rfl, _, _⟩ := hx
          exact h5)
        have hblk := HV.out.blk k hlt'
        have HBK := Lib.hid hblk
        clear hblk
        generalize l[k] = it at *
        have hblk := HBK.out
        clear hrep y1 y2 y3
        have HA1 : Hid (Above w lo hi (JV.wts it.items) (some ⟨b, off + k * 5, none⟩)) := .inr ⟨b, off + k * 5, it, rfl, HVA.out, by omega, hblk.1, hblk.2⟩
        clear hblk
        rcases HA.out with rfl | ⟨pb, po, pv, rfl, hpv, hpw, hpu, hpf⟩
        · have HA2 : Hid (Above w lo hi (JV.wts it.items) none) := .inl rfl
          cases hbit : (bits BinOp.and IntKind.i64 (lv : Int) ((lv : Int) - 1) == 0)
          · go_wp2_with fail
            rw [show (lv : Int) + 1 = ((lv + 1 : Nat) : Int) by omega]
            refine (IH.out it.items ai ci (lv + 1) none lo hi w hlo (by omega) (by omega) HI.out HA2.out).mono ?_
            rintro e w1 ⟨rfl, rfl⟩
            go_wp2
            go_round
            case rel => exact ⟨k + 1, by omega, by go_num⟩
            case measure => simp [intOf]; omega
          · go_wp2_with fail
            rw [show (lv : Int) + 1 = ((lv + 1 : Nat) : Int) by omega]
            refine (IH.out it.items ai ci (lv + 1) _ lo hi w hlo (by omega) (by omega) HI.out HA1.out).mono ?_
            rintro e w1 ⟨rfl, rfl⟩
            go_wp2
            go_round
            case rel => exact ⟨k + 1, by omega, by go_num⟩
            case measure => simp [intOf]; omega
        · have HA2 : Hid (Above w lo hi (JV.wts it.items) (some ⟨pb, po, none⟩)) := .inr ⟨pb, po, pv, rfl, hpv, by omega, hpu, hpf⟩
          have hne : ¬ (b = pb ∧ off + k * 5 = po) := fun ⟨e1, e2⟩ => by
            subst e1 e2
            have := hpv.inj HVA.out
            subst this
            omega
          have heq : (binOp .eql 92 (.pointer (some ⟨b, off + k * 5, none⟩)) (.pointer (some ⟨pb, po, none⟩))).run Tryz.prog w = .ok (.bool false) w := by
            obtain ⟨ca, ta, fa, ha, ha'⟩ := HBK.out.1
            obtain ⟨cb, tb, fb, hb', hb''⟩ := hpu
            rw [ha' hlo] at ha
            rw [hb'' hlo] at hb'
            obtain ⟨j, hj1, hj2⟩ := infoVal
            exact run_eql_ptr_other w Tryz.underlying92 hj1 hj2 (fun e => hne (by simpa using e)) ha hb'
          clear hne hpv hpu hpf
          cases hbit : (bits BinOp.and IntKind.i64 (lv : Int) ((lv : Int) - 1) == 0)
          · go_wp2_with fail
            rw [show (lv : Int) + 1 = ((lv + 1 : Nat) : Int) by omega]
            refine (IH.out it.items ai ci (lv + 1) _ lo hi w hlo (by omega) (by omega) HI.out HA2.out).mono ?_
            rintro e w1 ⟨rfl, rfl⟩
            go_wp2
            go_round
            case rel => exact ⟨k + 1, by omega, by go_num⟩
            case measure => simp [intOf]; omega
          · go_wp2_with fail
            rw [show (lv : Int) + 1 = ((lv + 1 : Nat) : Int) by omega]
            refine (IH.out it.items ai ci (lv + 1) _ lo hi w hlo (by omega) (by omega) HI.out HA1.out).mono ?_
            rintro e w1 ⟨rfl, rfl⟩
            go_wp2
            go_round
            case rel => exact ⟨k + 1, by omega, by go_num⟩
            case measure => simp [intOf]; omega
      · go_wp2
        go_ret
        exact ⟨rfl, rfl⟩

set_option maxHeartbeats 400000 in
theorem endlessNil (a : Option Addr) (c lv : Nat) (p : Option Addr) (w : World) :
    Calls Tryz.prog 68 #[.slice a 0 c, .int .i64 lv, .pointer p, .bool false] w fun e w' => e = .returned (.bool false) ∧ w = w' := by
  go_enter Tryz.func68, Tryz.ntmps68
  go_wp2
  refine wp_loop_rounds 1 ?_
  rw [rounds_succ]
  go_wp2
  go_ret
  exact ⟨rfl, rfl⟩

set_option maxRecDepth 100000 in
set_option maxHeartbeats 1000000 in
/-- Values whose Items have no Items of their own: nothing is held against anything. -/
theorem endlessFlat (l : List JV) (a : Option Addr) (c lv : Nat) (lo hi : Nat) (w : World) (hN : JV.wts l ≤ 4294967296) (hlv : lv ≤ 1099511627776) (hV : ValsAt w lo hi a l) (hf : ∀ k (h : k < l.length), l[k].items = []) :
    Calls Tryz.prog 68 #[.slice a l.length c, .int .i64 lv, .pointer none, .bool false] w fun e w' => e = .returned (.bool false) ∧ w = w' := by
  have HV := Lib.hid hV; clear hV
  have HF := Lib.hid hf; clear hf
  have hlen := JV.wts_len l
  obtain ⟨n, hn⟩ : ∃ n, n = l.length := ⟨_, rfl⟩
  rw [← hn]
  rw [← hn] at hlen
  have HN := Lib.hid hn; clear hn
  go_enter Tryz.func68, Tryz.ntmps68
  go_wp2
  go_loop [9, 10, 11, 14] (fun _ _ _ i => ∃ k : Nat, k ≤ n ∧ i = .int .i64 k) (fun _ _ _ i => n - (intOf i).toNat)
  case atStart => exact ⟨0, by omega, rfl⟩
  case round =>
    obtain ⟨k, hk, rfl⟩ := hrel
    by_cases hlt : k < n
    · have hlt' : k < l.length := by rw [← HN.out]; exact hlt
      obtain ⟨b, off, an, cn, ai, ci, rfl, _, hb, y0, y1, y2, y3, y4, hrep⟩ := HV.out.get k hlt'
      rw [HF.out k hlt'] at y4
      simp only [List.length_nil] at y4
      clear hrep y1 y2 y3
      generalize l[k] = it at *
      cases hbit : (bits BinOp.and IntKind.i64 (lv : Int) ((lv : Int) - 1) == 0)
      · go_wp2_with fail
        rw [show (lv : Int) + 1 = ((lv + 1 : Nat) : Int) by omega]
        refine (endlessNil ai ci (lv + 1) none w).mono ?_
        rintro e w1 ⟨rfl, rfl⟩
        go_wp2
        go_round
        case rel => exact ⟨k + 1, by omega, by go_num⟩
        case measure => simp [intOf]; omega
      · go_wp2_with fail
        rw [show (lv : Int) + 1 = ((lv + 1 : Nat) : Int) by omega]
        refine (endlessNil ai ci (lv + 1) _ w).mono ?_
        rintro e w1 ⟨rfl, rfl⟩
        go_wp2
        go_round
        case rel => exact ⟨k + 1, by omega, by go_num⟩
        case measure => simp [intOf]; omega
    · go_wp2
      go_ret
      exact ⟨rfl, rfl⟩

/-- Of the call's own memory, or no deeper than two: then nothing in a value contains itself, and the program sees it. -/
def Seen (lo : Nat) (v : JV) : Prop := 0 < lo ∨ ∀ k (h : k < v.items.length), v.items[k].items = []
theorem endlessItem (it : JV) (ai : Option Addr) (ci : Nat) (lo hi : Nat) (w : World) (hN : it.wt ≤ 4294967296) (hV : ValsAt w lo hi ai it.items) (hs : Seen lo it) :
    Calls Tryz.prog 68 #[.slice ai it.items.length ci, .int .i64 1, .pointer none, .bool false] w fun e w' => e = .returned (.bool false) ∧ w = w' := by
  have := it.wt_bd
  rcases hs with h | h
  · exact valueEndless 4294967296 it.items ai ci 1 none lo hi w h (by omega) (by omega) hV (.inl rfl)
  · exact endlessFlat it.items ai ci 1 lo hi w (by omega) (by omega) hV h

end Go.Proofs.YtcahpjejpimdhaaGreatDoor
