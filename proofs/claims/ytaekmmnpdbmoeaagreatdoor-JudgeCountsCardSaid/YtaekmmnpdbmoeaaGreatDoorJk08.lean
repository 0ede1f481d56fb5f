/- The contracts of legateref16.May and legateref16.Signed. -/
import Derived.Test.YtaekmmnpdbmoeaaGreatDoorJh28
import Derived.Test.YtaekmmnpdbmoeaaGreatDoorJk06
import Derived.Test.YtaekmmnpdbmoeaaGreatDoorJk00
import Derived.Test.YtaekmmnpdbmoeaaGreatDoorJk07

namespace Go.Proofs.YtaekmmnpdbmoeaaGreatDoor
open Go.RowKit

set_option maxHeartbeats 1000000 in
set_option maxRecDepth 100000 in
theorem ref16May (v : JV) (l : List Sig2) (an ai sa : Option Addr) (cn ci c : Nat) (w : World) (hE : EnvAt w v l an ai sa cn ci) :
    Calls Tryz.prog 76 #[envV v an ai cn ci sa l.length c] w fun e w' => e = .returned (.bool (envOk v l)) ∧ Below w.heap.size w w' := by
  have hlen := hE.len
  have HE := Lib.hid hE
  clear hE
  unfold envV
  obtain ⟨W, hW⟩ : ∃ W, W = w.alloc (.cells #[.int .u8 v.kind, .int .i64 v.n, .string v.t, .slice an v.names.length cn, .slice ai v.items.length ci, .slice sa l.length c] 47) := ⟨_, rfl⟩
  have HBW := Lib.hid (show Below w.heap.size w W by rw [hW]; exact (Below.refl _ _).alloc (Nat.le_refl _) _)
  have HX0 := Lib.hid (show W.heap[w.heap.size]? = some (.cells #[.int .u8 v.kind, .int .i64 v.n, .string v.t, .slice an v.names.length cn, .slice ai v.items.length ci, .slice sa l.length c] 47 (0, 0)) by rw [hW]; exact heap_alloc_new w _)
  have HW := Lib.hid hW
  have a0 : W.cell? ⟨w.heap.size, 0, none⟩ = some (.int .u8 v.kind) := box_cell HX0.out rfl
  have a5 : W.cell? ⟨w.heap.size, 5, none⟩ = some (.slice sa l.length c) := box_cell HX0.out rfl
  rw [hW] at a0 a5
  clear hW
  by_cases h32 : l.length ≤ 32
  · have d1 : decide (32 < (l.length : Int)) = false := decide_eq_false (by omega)
    by_cases hk : v.kind = 5
    · have d2 : (v.kind != 5) = false := by simp [hk]
      have HK := Lib.hid hk
      clear hk
      go_enter Tryz.func76, Tryz.ntmps76
      go_wp2_with fail
      rw [← HW.out]
      go_loopw [3] (fun i wr => ∃ k : Nat, k ≤ l.length ∧ i = .int .i64 k ∧ (l.take k).all sigOk = true ∧ Below W.heap.size W wr) (fun i _ => l.length - (intOf i).toNat)
      case atStart => exact ⟨0, by omega, rfl, rfl, Below.refl _ _⟩
      case round =>
        obtain ⟨k, hk, rfl, hall, hbel⟩ := hrel
        have HAL := Lib.hid hall
        have HB := Lib.hid (HBW.out.trans (hbel.mono HBW.out.size))
        have hx := hbel.block _ (heap_lt HX0.out)
        rw [HX0.out] at hx
        have HX := Lib.hid hx
        have HBB := Lib.hid hbel
        clear hall hbel
        have b5 : wr.cell? ⟨w.heap.size, 5, none⟩ = some (.slice sa l.length c) := box_cell hx rfl
        have m0 : (0 : Int) ≤ (k : Int) := by omega
        by_cases hlt : k < l.length
        · have m1 : (k : Int) < (l.length : Int) := by omega
          obtain ⟨b, off, ha, _, hb, e0, e1⟩ := (HE.out.keys.below HB.out (Nat.le_refl _) (Nat.le_refl _) HB.out.size).at k hlt
          subst ha
          obtain ⟨z0, z1⟩ := HE.out.sizes l[k] (List.getElem_mem hlt)
          have HBAD := Lib.hid (envOk_bad (v := v) k hlt)
          have HALN := Lib.hid (all_takeS hlt HAL.out)
          obtain ⟨x, hxl⟩ : ∃ x, x = l[k] := ⟨_, rfl⟩
          rw [← hxl] at e0 e1 z0 z1 HBAD HALN
          clear hxl hx
          obtain ⟨xi, xg⟩ := x
          have e0 : wr.cell? ⟨b, off + k * 2, none⟩ = some (.string xi) := e0
          have e1 : wr.cell? ⟨b, off + k * 2 + 1, none⟩ = some (.string xg) := e1
          have z0 : xi.size ≤ 9223372036854775807 := z0
          have z1 : xg.size ≤ 9223372036854775807 := z1
          have HMS := Lib.hid (ref16Sig xi xg wr z0 z1)
          obtain ⟨q, hq⟩ : ∃ q, q = sigOk (xi, xg) := ⟨_, rfl⟩
          rw [← hq] at HBAD HALN HMS
          clear hq
          go_wp2_with fail
          refine HMS.out.mono ?_
          rintro e w1 ⟨rfl, hb1⟩
          have HB1 := Lib.hid (HBB.out.trans (hb1.mono HBB.out.size))
          clear hb1 e0 e1 HMS b5
          cases q
          · go_wp2
            go_ret
            exact ⟨ret_bool (HBAD.out (by first | trivial | rfl)).symm, HBW.out.trans (HB1.out.mono HBW.out.size)⟩
          · go_wp2
            go_roundw
            case rel => exact ⟨k + 1, by omega, by go_num, HALN.out (by first | trivial | rfl), HB1.out⟩
            case measure => simp [intOf]; omega
        · have m1 : ¬ ((k : Int) < (l.length : Int)) := by omega
          have HAL2 := Lib.hid (show l.all sigOk = true by have := HAL.out; rwa [List.take_of_length_le (by omega)] at this)
          have HEN := Lib.hid (HE.out.below HB.out)
          have HOB := Lib.hid (refWhole v l an ai sa cn ci c wr HEN.out.rep HEN.out.keys (by omega))
          have b0 : wr.cell? ⟨w.heap.size, 0, none⟩ = some (.int .u8 v.kind) := box_cell hx rfl
          have b1 : wr.cell? ⟨w.heap.size, 1, none⟩ = some (.int .i64 v.n) := box_cell hx rfl
          have b2 : wr.cell? ⟨w.heap.size, 2, none⟩ = some (.string v.t) := box_cell hx rfl
          have b3 : wr.cell? ⟨w.heap.size, 3, none⟩ = some (.slice an v.names.length cn) := box_cell hx rfl
          have b4 : wr.cell? ⟨w.heap.size, 4, none⟩ = some (.slice ai v.items.length ci) := box_cell hx rfl
          clear hx
          go_wp2_with fail
          refine HOB.out.mono ?_
          rintro e w1 ⟨an', ai', rfl, hr1, hb1⟩
          have HB1 := Lib.hid (HB.out.trans (hb1.mono HB.out.size))
          have HMV := Lib.hid (refMay (envJ v l) _ w1 (env_wt HE.out.wt h32 (sigs_small HAL2.out)) hr1)
          have HF := Lib.hid (envOk_all ⟨h32, HK.out⟩ HAL2.out)
          clear hb1 hr1 b0 b1 b2 b3 b4 b5
          go_wp2_with fail
          refine HMV.out.mono ?_
          rintro e w2 ⟨rfl, hb2⟩
          have HB2 := Lib.hid (HB1.out.trans (hb2.mono HB1.out.size))
          clear hb2
          go_wp2
          go_ret
          exact ⟨ret_bool HF.out.symm, HB2.out⟩
    · have d2 : (v.kind != 5) = true := by simp [hk]
      have HF := Lib.hid (envOk_long (v := v) (l := l) (fun h => hk h.2))
      clear hk
      go_enter Tryz.func76, Tryz.ntmps76
      go_wp2
      go_ret
      exact ⟨ret_bool HF.out.symm, by rw [← HW.out]; exact HBW.out⟩
  · have d1 : decide (32 < (l.length : Int)) = true := decide_eq_true (by omega)
    have HF := Lib.hid (envOk_long (v := v) (l := l) (fun h => h32 h.1))
    go_enter Tryz.func76, Tryz.ntmps76
    go_wp2
    go_ret
    exact ⟨ret_bool HF.out.symm, by rw [← HW.out]; exact HBW.out⟩

set_option maxHeartbeats 1000000 in
set_option maxRecDepth 100000 in
theorem ref16Signed (v : JV) (l : List Sig2) (an ai sa : Option Addr) (cn ci c : Nat) (w : World) (hE : EnvAt w v l an ai sa cn ci) (hn : v.num) :
    Calls Tryz.prog 50 #[envV v an ai cn ci sa l.length c] w fun e w' => e = .returned (.tuple #[.string ⟨(signS v l).toArray⟩, .int .i64 (signE v l)]) ∧ Below w.heap.size w w' := by
  have HE := Lib.hid hE
  have HN := Lib.hid hn
  clear hE hn
  obtain ⟨W, hW⟩ : ∃ W, W = w.alloc (.cells #[.int .u8 v.kind, .int .i64 v.n, .string v.t, .slice an v.names.length cn, .slice ai v.items.length ci, .slice sa l.length c] 47) := ⟨_, rfl⟩
  have HBW := Lib.hid (show Below w.heap.size w W by rw [hW]; exact (Below.refl _ _).alloc (Nat.le_refl _) _)
  have HX0 := Lib.hid (show W.heap[w.heap.size]? = some (.cells #[.int .u8 v.kind, .int .i64 v.n, .string v.t, .slice an v.names.length cn, .slice ai v.items.length ci, .slice sa l.length c] 47 (0, 0)) by rw [hW]; exact heap_alloc_new w _)
  have HW := Lib.hid hW
  have HM := Lib.hid (ref16May v l an ai sa cn ci c W (HE.out.below HBW.out))
  clear hW
  unfold envV at HM ⊢
  unfold signS signE
  obtain ⟨ok, hok⟩ : ∃ ok, ok = envOk v l := ⟨_, rfl⟩
  rw [← hok] at HM ⊢
  have HOK := Lib.hid hok
  clear hok
  cases ok
  · go_enter Tryz.func50, Tryz.ntmps50
    go_wp2_with fail
    rw [← HW.out]
    refine HM.out.mono ?_
    rintro e w1 ⟨rfl, hb1⟩
    have HB1 := Lib.hid (HBW.out.trans (hb1.mono HBW.out.size))
    clear hb1
    go_wp2
    go_ret2
    exact ⟨rfl, HB1.out⟩
  · have HMB := Lib.hid (envOk_may HOK.out.symm)
    go_enter Tryz.func50, Tryz.ntmps50
    go_wp2_with fail
    rw [← HW.out]
    refine HM.out.mono ?_
    rintro e w1 ⟨rfl, hb1⟩
    have HB1 := Lib.hid (HBW.out.trans (hb1.mono HBW.out.size))
    have hx := hb1.block _ (heap_lt HX0.out)
    rw [HX0.out] at hx
    have b0 : w1.cell? ⟨w.heap.size, 0, none⟩ = some (.int .u8 v.kind) := box_cell hx rfl
    have b1 : w1.cell? ⟨w.heap.size, 1, none⟩ = some (.int .i64 v.n) := box_cell hx rfl
    have b2 : w1.cell? ⟨w.heap.size, 2, none⟩ = some (.string v.t) := box_cell hx rfl
    have b3 : w1.cell? ⟨w.heap.size, 3, none⟩ = some (.slice an v.names.length cn) := box_cell hx rfl
    have b4 : w1.cell? ⟨w.heap.size, 4, none⟩ = some (.slice ai v.items.length ci) := box_cell hx rfl
    have HC := Lib.hid (ref10Encode v _ w1 (by have := HE.out.wt; omega) HN.out (HE.out.below HB1.out).rep)
    rw [HMB.out, if_pos rfl, if_pos rfl] at HC
    clear hb1 hx
    go_wp2_with fail
    refine HC.out.mono ?_
    rintro e w2 ⟨rfl, hb2⟩
    have HB2 := Lib.hid (HB1.out.trans (hb2.mono HB1.out.size))
    clear hb2
    go_wp2
    go_ret2
    exact ⟨rfl, HB2.out⟩

end Go.Proofs.YtaekmmnpdbmoeaaGreatDoor
