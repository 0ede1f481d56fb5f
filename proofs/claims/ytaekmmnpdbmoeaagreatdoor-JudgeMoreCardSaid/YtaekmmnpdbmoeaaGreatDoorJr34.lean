/- The contract of legatelaw17.JudgeMore. Printed by genmore.py. -/
import Derived.Test.YtaekmmnpdbmoeaaGreatDoorJr33
import Derived.Test.YtaekmmnpdbmoeaaGreatDoorJr01
import Derived.Test.YtaekmmnpdbmoeaaGreatDoorJr28
import Derived.Test.YtaekmmnpdbmoeaaGreatDoorJr17
import Derived.Test.YtaekmmnpdbmoeaaGreatDoorJr13

namespace Go.Proofs.YtaekmmnpdbmoeaaGreatDoor
open Go.RowKit

theorem u64_mod (n : Int) : IntKind.u64.wrap n = n % 18446744073709551616 := by
  simp [IntKind.wrap, IntKind.bits, IntKind.signed]
theorem wrap_len (n : Nat) (h : n ≤ 9223372036854775806) : IntKind.u64.wrap (wrap64 ((n : Int) + 1)) = (n : Int) + 1 := by
  rw [u64_mod]; unfold wrap64; omega
theorem at_index (a : Int) (n : Nat) (h : n ≤ 9223372036854775806) : ∃ i : Nat, i ≤ n ∧ wrap64 ((IntKind.u64.wrap a).tmod ((n : Int) + 1)) = (i : Int) := by
  rw [u64_mod]
  have h0 : 0 ≤ a % 18446744073709551616 := Int.emod_nonneg _ (by decide)
  have h1 : 0 ≤ (a % 18446744073709551616).tmod ((n : Int) + 1) := Int.tmod_nonneg _ h0
  have h2 : (a % 18446744073709551616).tmod ((n : Int) + 1) < (n : Int) + 1 := Int.tmod_lt_of_pos _ (by omega)
  refine ⟨((a % 18446744073709551616).tmod ((n : Int) + 1)).toNat, by omega, ?_⟩
  unfold wrap64; omega

set_option maxHeartbeats 2000000 in
set_option maxRecDepth 100000 in
theorem lawMore (hm : Bool) (vl : List Ver3) (va : Option Addr) (vc : Nat) (u : JV) (l : List Sig2) (an ai sa : Option Addr) (cn ci sc : Nat) (t : Int) (ids : List ByteArray) (ia : Option Addr) (ic : Nat) (keys : List Key2) (ka : Option Addr) (kc : Nat) (g0 g1 : ByteArray) (at_ : Int) (w : World)
    (hV : TrisAt w 0 w.heap.size va vl) (hvl : vl.length ≤ 9223372036854775807) (hI : JudgeIn w u l an ai sa cn ci ids ia keys ka) (hn : u.num) (hsc : l.length ≤ sc) (hat : -9223372036854775808 ≤ at_ ∧ at_ ≤ 9223372036854775807) (hT : Tabs w) (hP : Pow10 w) :
    Calls Tryz.prog 10 #[.bool hm, .slice va vl.length vc, envV u an ai cn ci sa l.length sc, .agg #[.int .i64 t, .slice ia ids.length ic], .slice ka keys.length kc, .agg #[.string g0, .string g1], .int .i64 at_] w fun e w' => e = .returned (.bool true) ∧ Below w.heap.size w w' := by
  obtain ⟨i1, hi1, hy0, hy1, hy2⟩ := info_parts infoSig
  obtain ⟨W0, hW0⟩ : ∃ W0, W0 = ((w.alloc (.cells #[.int .u8 u.kind, .int .i64 u.n, .string u.t, .slice an u.names.length cn, .slice ai u.items.length ci, .slice sa l.length sc] 47)).alloc (.cells #[.int .i64 t, .slice ia ids.length ic] 49)).alloc (.cells #[.string g0, .string g1] 26) := ⟨_, rfl⟩
  have HB0 := Lib.hid (show Below w.heap.size w W0 by rw [hW0]; exact (below_n2 w _ _).alloc (by simp <;> omega) _)
  have HZ0 := Lib.hid (show W0.heap.size = w.heap.size + 3 by rw [hW0]; simp)
  have hb0 : W0.heap[w.heap.size]? = some (.cells #[.int .u8 u.kind, .int .i64 u.n, .string u.t, .slice an u.names.length cn, .slice ai u.items.length ci, .slice sa l.length sc] 47 (0, 0)) := by
    rw [hW0, Below.heap_alloc _ _ _ (by simp <;> omega), Below.heap_alloc _ _ _ (by simp)]; exact heap_alloc_new w _
  have hb1 : W0.heap[w.heap.size + 1]? = some (.cells #[.int .i64 t, .slice ia ids.length ic] 49 (0, 0)) := by
    rw [hW0, Below.heap_alloc _ _ _ (by simp)]
    have := heap_alloc_new (w.alloc (.cells #[.int .u8 u.kind, .int .i64 u.n, .string u.t, .slice an u.names.length cn, .slice ai u.items.length ci, .slice sa l.length sc] 47)) (.cells #[.int .i64 t, .slice ia ids.length ic] 49)
    simpa using this
  have hb2 : W0.heap[w.heap.size + 1 + 1]? = some (.cells #[.string g0, .string g1] 26 (0, 0)) := by
    rw [hW0]
    have := heap_alloc_new ((w.alloc (.cells #[.int .u8 u.kind, .int .i64 u.n, .string u.t, .slice an u.names.length cn, .slice ai u.items.length ci, .slice sa l.length sc] 47)).alloc (.cells #[.int .i64 t, .slice ia ids.length ic] 49)) (.cells #[.string g0, .string g1] 26)
    simpa using this
  have HS := Lib.hid (show ∀ w' : World, Below W0.heap.size W0 w' → w'.cell? ⟨w.heap.size, 0, none⟩ = some (.int .u8 u.kind) ∧ w'.cell? ⟨w.heap.size, 1, none⟩ = some (.int .i64 u.n) ∧ w'.cell? ⟨w.heap.size, 2, none⟩ = some (.string u.t) ∧ w'.cell? ⟨w.heap.size, 3, none⟩ = some (.slice an u.names.length cn) ∧ w'.cell? ⟨w.heap.size, 4, none⟩ = some (.slice ai u.items.length ci) ∧ w'.cell? ⟨w.heap.size, 5, none⟩ = some (.slice sa l.length sc) ∧
      w'.cell? ⟨w.heap.size + 1, 0, none⟩ = some (.int .i64 t) ∧ w'.cell? ⟨w.heap.size + 1, 1, none⟩ = some (.slice ia ids.length ic) ∧ w'.cell? ⟨w.heap.size + 1 + 1, 0, none⟩ = some (.string g0) ∧ w'.cell? ⟨w.heap.size + 1 + 1, 1, none⟩ = some (.string g1) from fun w' h => by
    have y0 := (h.block _ (heap_lt hb0)).trans hb0
    have y1 := (h.block _ (heap_lt hb1)).trans hb1
    have y2 := (h.block _ (heap_lt hb2)).trans hb2
    exact ⟨box_cell y0 rfl, box_cell y0 rfl, box_cell y0 rfl, box_cell y0 rfl, box_cell y0 rfl, box_cell y0 rfl, box_cell y1 rfl, box_cell y1 rfl, box_cell y2 rfl, box_cell y2 rfl⟩)
  have HBT := Lib.hid (show ∀ w' : World, Below W0.heap.size W0 w' → Below w.heap.size w w' from fun w' h => HB0.out.trans (h.mono HB0.out.size))
  have HT := Lib.hid (show ∀ w' : World, Below W0.heap.size W0 w' → Tabs w' from fun w' h => hT.below (HBT.out w' h))
  have HP := Lib.hid (show ∀ w' : World, Below W0.heap.size W0 w' → Pow10 w' from fun w' h => hP.below (HBT.out w' h))
  have HA := Lib.hid (show ∀ w' : World, Below W0.heap.size W0 w' → Calls Tryz.prog 14 #[] w' (fun e w'' => e = .returned (.bool true) ∧ Below w'.heap.size w' w'') from fun w' h => lawAwake17 w' (HT.out w' h) (HP.out w' h))
  have HLV := Lib.hid (lawLongVerdicts vl va vc W0 (hV.below HB0.out (Nat.le_refl _) (Nat.le_refl _) HB0.out.size) hvl)
  have HI := Lib.hid (show ∀ w' : World, Below W0.heap.size W0 w' → JudgeIn w' u l an ai sa cn ci ids ia keys ka from fun w' h => hI.below (HBT.out w' h))
  have HV := Lib.hid (show ∀ w' : World, Below W0.heap.size W0 w' → TrisAt w' 0 w'.heap.size va vl from fun w' h => hV.below (HBT.out w' h) (Nat.le_refl _) (Nat.le_refl _) (HBT.out w' h).size)
  have HLG := Lib.hid (show ∀ w' : World, Below W0.heap.size W0 w' → Calls Tryz.prog 20 #[.agg #[.int .u8 u.kind, .int .i64 u.n, .string u.t, .slice an u.names.length cn, .slice ai u.items.length ci, .slice sa l.length sc], .agg #[.int .i64 t, .slice ia ids.length ic], .slice ka keys.length kc] w' (LongPost17 u l ids keys w') from fun w' h => lawLong17 u l an ai sa cn ci sc t ids ia ic keys ka kc w' (HI.out w' h))
  have HW0 := Lib.hid hW0
  have HNUM := Lib.hid hn
  have HSC := Lib.hid hsc
  have HAT := Lib.hid hat
  unfold envV
  clear hV hvl hT hP hb0 hb1 hb2 hW0 hI hn hsc hat
  go_enter Tryz.func10, Tryz.ntmps10
  go_wp2_with fail
  rw [← HW0.out]
  refine HLV.out.mono ?_
  clear HLV HW0
  rintro e w1 ⟨b, rfl, hb, hb1⟩
  have HB1 := Lib.hid hb1
  clear hb1
  obtain ⟨q0, q1, q2, q3, q4, q5, q6, q7, q8, q9⟩ := HS.out w1 HB1.out
  cases b
  case true =>
    clear hb
    go_wp2_with fail
    refine (HA.out w1 HB1.out).mono ?_
    rintro e w99 ⟨rfl, hb9⟩
    have HB9 := Lib.hid (HB1.out.trans (hb9.mono HB1.out.size))
    clear hb9
    go_wp2
    go_ret
    exact ⟨rfl, HBT.out _ HB9.out⟩
  have HVZ := Lib.hid (hb rfl).1
  clear hb
  go_wp2_with fail
  refine (HLG.out w1 HB1.out).mono ?_
  clear HLG q0 q1 q2 q3 q4 q5 q6 q7 q8 q9
  rintro e w2 ⟨b, rfl, hb, hb2⟩
  have HB2 := Lib.hid (HB1.out.trans (hb2.mono HB1.out.size))
  clear hb2
  obtain ⟨q0, q1, q2, q3, q4, q5, q6, q7, q8, q9⟩ := HS.out w2 HB2.out
  cases b
  case true =>
    clear hb
    go_wp2_with fail
    refine (HA.out w2 HB2.out).mono ?_
    rintro e w99 ⟨rfl, hb9⟩
    have HB9 := Lib.hid (HB2.out.trans (hb9.mono HB2.out.size))
    clear hb9
    go_wp2
    go_ret
    exact ⟨rfl, HBT.out _ HB9.out⟩
  have HNL := Lib.hid (hb rfl)
  clear hb
  by_cases z0 : g0.size ≤ 300
  case neg =>
    have z0' : decide (300 < g0.size) = true := by simp; omega
    go_wp2_with fail
    refine (HA.out w2 HB2.out).mono ?_
    rintro e w99 ⟨rfl, hb9⟩
    have HB9 := Lib.hid (HB2.out.trans (hb9.mono HB2.out.size))
    clear hb9
    go_wp2
    go_ret
    exact ⟨rfl, HBT.out _ HB9.out⟩
  have z0' : decide (300 < g0.size) = false := by simp; omega
  by_cases z1 : g1.size ≤ 300
  case neg =>
    have z1' : decide (300 < g1.size) = true := by simp; omega
    go_wp2_with fail
    refine (HA.out w2 HB2.out).mono ?_
    rintro e w99 ⟨rfl, hb9⟩
    have HB9 := Lib.hid (HB2.out.trans (hb9.mono HB2.out.size))
    clear hb9
    go_wp2
    go_ret
    exact ⟨rfl, HBT.out _ HB9.out⟩
  have z1' : decide (300 < g1.size) = false := by simp; omega
  go_wp2_with fail
  refine (HA.out w2 HB2.out).mono ?_
  rintro e w3 ⟨rfl, hb3⟩
  have HB3 := Lib.hid (HB2.out.trans (hb3.mono HB2.out.size))
  clear hb3 q0 q1 q2 q3 q4 q5 q6 q7 q8 q9 z0' z1' HA HB1 HB2
  have HLF := Lib.hid (lawVerifier hm vl va vc w3 (HV.out w3 HB3.out) HVZ.out)
  obtain ⟨v, hv⟩ : ∃ v, v = verOf hm vl := ⟨_, rfl⟩
  rw [← hv] at HLF
  clear hv
  go_wp2_with fail
  refine HLF.out.mono ?_
  clear HLF
  rintro e w5 ⟨x, rfl, hx, hb5⟩
  have HB5 := Lib.hid (HB3.out.trans (hb5.mono HB3.out.size))
  have HXV := Lib.hid (show ∀ w' : World, Below w5.heap.size w5 w' → VerIs w' x v from fun w' h => hx.below h)
  have HB50 := Lib.hid (show ∀ w' : World, Below w5.heap.size w5 w' → Below W0.heap.size W0 w' from fun w' h => HB5.out.trans (h.mono HB5.out.size))
  clear hb5 hx HV HVZ HB3
  obtain ⟨q0, q1, q2, q3, q4, q5, q6, q7, q8, q9⟩ := HS.out w5 HB5.out
  have hzX : w.heap.size + 3 ≤ w5.heap.size := by have := HB5.out.size; have := HZ0.out; omega
  have hll : l.length ≤ 40 := HNL.out.len
  have hwr := wrap_len l.length (by omega)
  have hnz : ¬ ((l.length : Int) + 1 = 0) := by omega
  obtain ⟨i, hi, hti⟩ := at_index at_ l.length (by omega)
  go_wp2_with fail
  rw [hti]
  obtain ⟨wY, hwY⟩ : ∃ wY, wY = w5.alloc (.cells #[.int .u8 u.kind, .int .i64 u.n, .string u.t, .slice an u.names.length cn, .slice ai u.items.length ci, .slice sa l.length sc] 47) := ⟨_, rfl⟩
  rw [← hwY]
  have HYX := Lib.hid (show wY.heap[w5.heap.size]? = some (.cells #[.int .u8 u.kind, .int .i64 u.n, .string u.t, .slice an u.names.length cn, .slice ai u.items.length ci, .slice sa l.length sc] 47 (0, 0)) by rw [hwY]; exact heap_alloc_new _ _)
  have HYB := Lib.hid (show Below w5.heap.size w5 wY by rw [hwY]; exact (Below.refl _ _).alloc (Nat.le_refl _) _)
  have HHZ := Lib.hid (show wY.heap.size = w5.heap.size + 1 by rw [hwY]; simp)
  clear hwY
  obtain ⟨H, hH0⟩ : ∃ H, H = wY.heap.size := ⟨_, rfl⟩
  have HH := Lib.hid hH0
  have HYW := Lib.hid (show ∀ w' : World, Below wY.heap.size wY w' → Below W0.heap.size W0 w' from fun w' h => HB50.out w' (HYB.out.trans (h.mono HYB.out.size)))
  have hk1 := keys_first (HI.out wY (HYW.out wY (Below.refl _ _))).sigs i
  obtain ⟨a2, c2, hs2, hk2⟩ := keys_behind (HI.out wY (HYW.out wY (Below.refl _ _))).sigs i sc HSC.out hi
  have HS2 := Lib.hid hs2
  have HK1 := Lib.hid hk1
  have HK2 := Lib.hid hk2
  have hi3 : (0 : Int) ≤ (i : Int) := by omega
  have hi4 : (i : Int) ≤ (sc : Int) := by have := HSC.out; omega
  have hi5 : (i : Int) ≤ (l.length : Int) := by omega
  clear hs2 hk1 hk2 q0 q1 q2 q3 q4 q5 q6 q7 q8 q9 hti hwr hnz hH0
  obtain ⟨V, hV⟩ : ∃ V : List (Option Value), V = [none, some (.pointer (some ⟨w.heap.size, 5, none⟩)), some (.slice sa l.length sc), some (.int .i64 (i : Int)), some (.slice sa i sc), none, some (.agg #[.string g0, .string g1]), none, none, some (.pointer (some ⟨w.heap.size, 5, none⟩)), some (.slice sa l.length sc), some (.int .i64 (i : Int)), some (.slice a2 (l.length - i) c2)] := ⟨_, rfl⟩
  have HV := Lib.hid hV
  clear hV
  refine wp_region_inv 13 (fun d a' w' => ∃ x65 x66 x67 x68 x69 x70 x71 x72 x73 x74 x75 x76 x77, a' = ⟨#[Value.bool hm, Value.slice va vl.length vc, Value.agg #[Value.int IntKind.u8 u.kind, Value.int IntKind.i64 u.n, Value.string u.t, Value.slice an u.names.length cn, Value.slice ai u.items.length ci, Value.slice sa l.length sc], Value.agg #[Value.int IntKind.i64 t, Value.slice ia ids.length ic], Value.slice ka keys.length kc, Value.agg #[Value.string g0, Value.string g1], Value.int IntKind.i64 at_, undef, undef, Value.pointer (some { block := w.heap.size, off := 0 }), Value.pointer (some { block := w.heap.size + 1, off := 0 }), undef, Value.pointer (some { block := w.heap.size + 1 + 1, off := 0 }), undef, Value.bool false, x, Value.int IntKind.i64 ((i : Int)), Value.pointer (some { block := w5.heap.size, off := 0 }), undef, undef, undef, undef, undef, undef, undef, undef, undef, Value.slice va vl.length vc, Value.bool false, Value.bool false, Value.agg #[Value.int IntKind.u8 u.kind, Value.int IntKind.i64 u.n, Value.string u.t, Value.slice an u.names.length cn, Value.slice ai u.items.length ci, Value.slice sa l.length sc], Value.agg #[Value.int IntKind.i64 t, Value.slice ia ids.length ic], Value.slice ka keys.length kc, Value.bool false, Value.bool false, Value.bool false, Value.pointer (some { block := w.heap.size + 1 + 1, off := 0 }), Value.string g0, Value.int IntKind.i64 (g0.size : Int), Value.bool (decide (300 < (g0.size : Int))), Value.bool (decide (300 < (g0.size : Int))), Value.bool (decide (300 < (g0.size : Int))), Value.pointer (some { block := w.heap.size + 1 + 1, off := 1 }), Value.string g1, Value.int IntKind.i64 (g1.size : Int), Value.bool (decide (300 < (g1.size : Int))), Value.bool (decide (300 < (g0.size : Int)) || decide (300 < (g1.size : Int))), Value.bool (decide (300 < (g0.size : Int)) || decide (300 < (g1.size : Int))), Value.bool true, Value.bool false, Value.bool (decide (300 < (g0.size : Int)) || decide (300 < (g1.size : Int))), undef, Value.bool hm, Value.slice va vl.length vc, x, Value.int IntKind.i64 at_, Value.int IntKind.u64 (IntKind.u64.wrap at_), Value.pointer (some { block := w.heap.size, off := 5 }), Value.slice sa l.length sc, Value.int IntKind.i64 (l.length : Int), Value.int IntKind.i64 ((l.length : Int) + 1), Value.int IntKind.u64 ((l.length : Int) + 1), Value.int IntKind.u64 ((IntKind.u64.wrap at_).tmod ((l.length : Int) + 1)), Value.int IntKind.i64 ((i : Int)), Value.agg #[Value.int IntKind.u8 u.kind, Value.int IntKind.i64 u.n, Value.string u.t, Value.slice an u.names.length cn, Value.slice ai u.items.length ci, Value.slice sa l.length sc], x65, x66, x67, x68, x69, x70, x71, x72, x73, x74, x75, x76, x77, undef, undef, undef, undef, undef, undef, undef, undef, undef, undef, undef, undef, undef, undef, undef, undef, undef, undef, undef, undef, undef, undef, undef, undef, undef, undef, undef, undef, undef, undef, undef, undef, undef, undef, undef, undef, undef, undef, undef, undef, undef, undef, undef, undef, undef, undef, undef, undef, undef, undef, undef, undef, undef, undef, undef, undef, undef, undef, undef, undef, undef, undef, undef, undef, undef, undef, undef, undef, undef, undef, undef, undef, undef, undef, undef, undef, undef, undef, undef, undef, undef, undef, undef, undef, undef, undef, undef, undef, undef, undef, undef, undef, undef, undef, undef, undef, undef, undef, undef, undef, undef, undef, undef, undef, undef, undef, undef, undef, undef, undef, undef, undef, undef, undef, undef, undef, undef, undef, undef, undef, undef], []⟩ ∧ ConI wY V d w' [x65, x66, x67, x68, x69, x70, x71, x72, x73, x74, x75, x76, x77] ∧ Chn H 26 ((l.take i).flatMap encK) #[.string g0, .string g1] i d w' x65 x70 x72 x73) (by kernel_rfl) (by kernel_rfl) ?first ?step ?last
  case first => exact ⟨_, _, _, _, _, _, _, _, _, _, _, _, _, rfl, ConI.first _ _ _ (by rw [HV.out]; rfl), Chn.first _ _ _ _ _⟩
  case step =>
    rintro d a' w' ⟨x65, x66, x67, x68, x69, x70, x71, x72, x73, x74, x75, x76, x77, rfl, h, hc⟩ q hq hn hw
    have hH : H ≤ w'.heap.size := by rw [HH.out]; exact h.1.size
    rcases q with _ | _ | _ | _ | _ | _ | _ | _ | _ | _ | _ | _ | _ | q
    · refine wpOp_step rfl fun K hK => ?_
      go_simp
      exact hK _ _ ⟨_, x66, x67, x68, x69, x70, x71, x72, x73, x74, x75, x76, x77, rfl, h.did (h.1.alloc h.1.size _) 0 _ none (by rw [HV.out]; rfl) (fun v e => by cases e), hc.s0 hH hn⟩
    · refine wpOp_step rfl fun K hK => ?_
      go_simp
      exact hK _ _ ⟨x65, _, x67, x68, x69, x70, x71, x72, x73, x74, x75, x76, x77, rfl, h.same 1 _ (.pointer (some ⟨w.heap.size, 5, none⟩)) (by rw [HV.out]; rfl) rfl, hc.same 1 (by decide) (by decide) (by decide) (by decide)⟩
    · obtain rfl : x66 = .pointer (some ⟨w.heap.size, 5, none⟩) := h.get 1 (hw _ rfl ⟨1, .data⟩ (by simp) rfl) (.pointer (some ⟨w.heap.size, 5, none⟩)) (by rw [HV.out]; rfl) _ rfl
      obtain ⟨q0, q1, q2, q3, q4, q5, q6, q7, q8, q9⟩ := HS.out w' (HYW.out w' h.1)
      refine wpOp_step rfl fun K hK => ?_
      go_simp
      exact hK _ _ ⟨x65, _, _, x68, x69, x70, x71, x72, x73, x74, x75, x76, x77, rfl, h.same 2 _ (.slice sa l.length sc) (by rw [HV.out]; rfl) rfl, hc.same 2 (by decide) (by decide) (by decide) (by decide)⟩
    · refine wpOp_step rfl fun K hK => ?_
      go_simp
      exact hK _ _ ⟨x65, x66, x67, _, x69, x70, x71, x72, x73, x74, x75, x76, x77, rfl, h.same 3 _ (.int .i64 (i : Int)) (by rw [HV.out]; rfl) rfl, hc.same 3 (by decide) (by decide) (by decide) (by decide)⟩
    · obtain rfl : x67 = .slice sa l.length sc := h.get 2 (hw _ rfl ⟨2, .data⟩ (by simp) rfl) (.slice sa l.length sc) (by rw [HV.out]; rfl) _ rfl
      obtain rfl : x68 = .int .i64 (i : Int) := h.get 3 (hw _ rfl ⟨3, .data⟩ (by simp) rfl) (.int .i64 (i : Int)) (by rw [HV.out]; rfl) _ rfl
      refine wpOp_step rfl fun K hK => ?_
      go_simp
      exact hK _ _ ⟨x65, x66, _, _, _, x70, x71, x72, x73, x74, x75, x76, x77, rfl, h.same 4 _ (.slice sa i sc) (by rw [HV.out]; rfl) rfl, hc.same 4 (by decide) (by decide) (by decide) (by decide)⟩
    · obtain rfl : x69 = .slice sa i sc := h.get 4 (hw _ rfl ⟨4, .data⟩ (by simp) rfl) (.slice sa i sc) (by rw [HV.out]; rfl) _ rfl
      have h0 : d 0 := (hw _ rfl ⟨0, .data⟩ (by simp) rfl)
      have how := hc.own0 h0 hn
      have hk := HK1.out.below (lo' := 0) (hi' := w'.heap.size) h.1 (Nat.le_refl _) (Nat.le_refl _) h.1.size
      refine wpOp_step rfl fun K hK => ?_
      refine step_append_any w' rfl (.tmp 65) (.tmp 69) 45 rfl H 26 i1 _ 2 32 Tryz.underlying45 hi1 hy0 hy1 hy2 rfl (by decide) x65 0 [] rfl how sa i sc ((l.take i).flatMap encK) rfl (by rw [keys_len, List.length_take]; omega) (fun h0 => news_keysW hk (by rw [List.length_take]; omega)) (keys_one _) (by unfold maxLen; omega) (by omega) hH _ rfl ?_
      intro a4 c4 w2 ho hg hat
      exact hK _ _ ⟨x65, x66, x67, x68, _, _, x71, x72, x73, x74, x75, x76, x77, rfl, h.did (below_grown h.1 h.1.size hg fun b hb => (by rw [← HH.out]; exact (how.lt b hb).1)) 5 _ none (by rw [HV.out]; rfl) (fun v e => by cases e), hc.s5 h0 hn ho hg hat⟩
    · obtain ⟨q0, q1, q2, q3, q4, q5, q6, q7, q8, q9⟩ := HS.out w' (HYW.out w' h.1)
      refine wpOp_step rfl fun K hK => ?_
      go_simp
      exact hK _ _ ⟨x65, x66, x67, x68, x69, x70, _, x72, x73, x74, x75, x76, x77, rfl, h.same 6 _ (.agg #[.string g0, .string g1]) (by rw [HV.out]; rfl) rfl, hc.same 6 (by decide) (by decide) (by decide) (by decide)⟩
    · obtain rfl : x71 = .agg #[.string g0, .string g1] := h.get 6 (hw _ rfl ⟨6, .data⟩ (by simp) rfl) (.agg #[.string g0, .string g1]) (by rw [HV.out]; rfl) _ rfl
      refine wpOp_step rfl fun K hK => ?_
      go_simp
      exact hK _ _ ⟨x65, x66, x67, x68, x69, x70, _, _, x73, x74, x75, x76, x77, rfl, h.did (h.1.alloc h.1.size _) 7 _ none (by rw [HV.out]; rfl) (fun v e => by cases e), hc.s7 hH hn⟩
    · have h5 : d 5 := (hw _ rfl ⟨5, .data⟩ (by simp) rfl)
      have h7 : d 7 := (hw _ rfl ⟨7, .data⟩ (by simp) rfl)
      have how := hc.own1 h5 hn
      obtain ⟨b, rfl, hb1, hb2, hb3, hb4⟩ := hc.row h7 hn
      refine wpOp_step rfl fun K hK => ?_
      refine step_append_lies w' rfl (.tmp 70) (.tmp 72) 45 rfl H 26 i1 _ 2 32 Tryz.underlying45 hi1 hy0 hy1 hy2 rfl (by decide) x70 i ((l.take i).flatMap encK) rfl how ⟨b, 0, none⟩ 1 1 (Array.toList #[.string g0, .string g1]) rfl rfl (World.news_of_block hb2) (fun u hu => by simp at hu; rcases hu with rfl | rfl <;> rfl) (by decide) (by unfold maxLen; omega) (by omega) hH _ rfl ?_
      intro g4 c4 w2 ho hg hat hlt
      exact hK _ _ ⟨x65, x66, x67, x68, x69, x70, x71, _, _, x74, x75, x76, x77, rfl, h.did (below_grown h.1 h.1.size hg fun b hb => (by rw [← HH.out]; exact (how.lt b hb).1)) 8 _ none (by rw [HV.out]; rfl) (fun v e => by cases e), hc.s8 h5 h7 ho⟩
    · refine wpOp_step rfl fun K hK => ?_
      go_simp
      exact hK _ _ ⟨x65, x66, x67, x68, x69, x70, x71, x72, x73, _, x75, x76, x77, rfl, h.same 9 _ (.pointer (some ⟨w.heap.size, 5, none⟩)) (by rw [HV.out]; rfl) rfl, hc.same 9 (by decide) (by decide) (by decide) (by decide)⟩
    · obtain rfl : x74 = .pointer (some ⟨w.heap.size, 5, none⟩) := h.get 9 (hw _ rfl ⟨9, .data⟩ (by simp) rfl) (.pointer (some ⟨w.heap.size, 5, none⟩)) (by rw [HV.out]; rfl) _ rfl
      obtain ⟨q0, q1, q2, q3, q4, q5, q6, q7, q8, q9⟩ := HS.out w' (HYW.out w' h.1)
      refine wpOp_step rfl fun K hK => ?_
      go_simp
      exact hK _ _ ⟨x65, x66, x67, x68, x69, x70, x71, x72, x73, _, _, x76, x77, rfl, h.same 10 _ (.slice sa l.length sc) (by rw [HV.out]; rfl) rfl, hc.same 10 (by decide) (by decide) (by decide) (by decide)⟩
    · refine wpOp_step rfl fun K hK => ?_
      go_simp
      exact hK _ _ ⟨x65, x66, x67, x68, x69, x70, x71, x72, x73, x74, x75, _, x77, rfl, h.same 11 _ (.int .i64 (i : Int)) (by rw [HV.out]; rfl) rfl, hc.same 11 (by decide) (by decide) (by decide) (by decide)⟩
    · obtain rfl : x75 = .slice sa l.length sc := h.get 10 (hw _ rfl ⟨10, .data⟩ (by simp) rfl) (.slice sa l.length sc) (by rw [HV.out]; rfl) _ rfl
      obtain rfl : x76 = .int .i64 (i : Int) := h.get 11 (hw _ rfl ⟨11, .data⟩ (by simp) rfl) (.int .i64 (i : Int)) (by rw [HV.out]; rfl) _ rfl
      refine wpOp_step rfl fun K hK => ?_
      go_simp
      exact hK _ _ ⟨x65, x66, x67, x68, x69, x70, x71, x72, x73, x74, _, _, _, rfl, h.same 12 _ (.slice a2 (l.length - i) c2) (by rw [HV.out]; rfl) (by simpa [sliced] using HS2.out), hc.same 12 (by decide) (by decide) (by decide) (by decide)⟩
    · omega
  case last =>
    rintro d a' w' hall ⟨x65, x66, x67, x68, x69, x70, x71, x72, x73, x74, x75, x76, x77, rfl, h, hc⟩
    obtain rfl : x77 = .slice a2 (l.length - i) c2 := h.get 12 (hall _ (by omega)) (.slice a2 (l.length - i) c2) (by rw [HV.out]; rfl) _ rfl
    have hown := hc.own2 (hall 8 (by omega))
    have hbel := h.1
    clear h hc hall HV
    have hH : H ≤ w'.heap.size := by rw [HH.out]; exact hbel.size
    have hk := HK2.out.below (lo' := 0) (hi' := w'.heap.size) hbel (Nat.le_refl _) (Nat.le_refl _) hbel.size
    refine wpList_append_any _ rfl (.tmp 73) (.tmp 77) 45 rfl H 26 i1 _ 2 32 Tryz.underlying45 hi1 hy0 hy1 hy2 rfl (by decide) x73 (i + 1) ((l.take i).flatMap encK ++ Array.toList #[.string g0, .string g1]) rfl hown a2 (l.length - i) c2 ((l.drop i).flatMap encK) rfl (by rw [keys_len, List.length_drop]) (fun h0 => news_keysW hk (by rw [List.length_drop]; exact h0)) (keys_one _) (by unfold maxLen; omega) (by omega) hH _ rfl ?_
    intro a6 c6 wD how hgr hat
    rw [show i + 1 + (l.length - i) = l.length + 1 by omega] at how hat ⊢
    have hbd : Below wY.heap.size wY wD := below_grown hbel hbel.size hgr fun b hb => by rw [← HH.out]; exact (hown.lt b hb).1
    clear hat hgr hown hk hbel hH
    obtain ⟨M, hM⟩ : ∃ M : List Sig2, M = l.take i ++ [(g0, g1)] ++ l.drop i := ⟨_, rfl⟩
    have HML := Lib.hid (show M.length = l.length + 1 by rw [hM]; simp; omega)
    have howM : wD.ownsRow H 26 2 (.slice a6 (l.length + 1) c6) (l.length + 1) (M.flatMap encK) := by rw [hM]; simpa [encK] using how
    obtain ⟨wE, hwE⟩ : ∃ wE, wE = wD.setCell ⟨w5.heap.size, 5, none⟩ (.slice a6 (l.length + 1) c6) := ⟨_, rfl⟩
    have HBE := Lib.hid (show Below w5.heap.size w5 wE by rw [hwE]; exact (HYB.out.trans (hbd.mono HYB.out.size)).setCell (Nat.le_refl _) _)
    have hxd : wD.heap[w5.heap.size]? = some (.cells #[.int .u8 u.kind, .int .i64 u.n, .string u.t, .slice an u.names.length cn, .slice ai u.items.length ci, .slice sa l.length sc] 47 (0, 0)) := (hbd.block _ (heap_lt HYX.out)).trans HYX.out
    have HXE := Lib.hid (show wE.heap[w5.heap.size]? = some (.cells #[.int .u8 u.kind, .int .i64 u.n, .string u.t, .slice an u.names.length cn, .slice ai u.items.length ci, .slice a6 (l.length + 1) c6] 47 (0, 0)) by rw [hwE]; simp [World.setCell, Array.getElem?_modify, hxd])
    have HSE := Lib.hid (show KeysAt wE 0 wE.heap.size a6 M by
      obtain ⟨ja, jc, hjv, hjS⟩ := owns_keys howM HML.out.symm
      simp only [Value.slice.injEq] at hjv
      rw [← hjv.1] at hjS
      refine hjS.carry (Nat.zero_le _) (by rw [hwE]; simp [World.setCell]) fun b h1 h2 => ?_
      rw [hwE, Below.heap_setCell _ _ _ _ (by have := HHZ.out; have := HH.out; show b ≠ w5.heap.size; omega)])
    have c1d : wD.cell? ⟨w5.heap.size, 5, none⟩ = some (.slice sa l.length sc) := box_cell hxd rfl
    have f1d : wD.frozen? ⟨w5.heap.size, 5, none⟩ = false := by simp only [World.frozen?, hxd]; simp
    have HME := Lib.hid hM
    have HEX := Lib.hid (show ∀ w' : World, Below wE.heap.size wE w' → EnvAt w' u l an ai sa cn ci from fun w' h => HNL.out.env (HI.out w' (HB50.out w' (HBE.out.trans (h.mono HBE.out.size)))))
    have HEY := Lib.hid (show ∀ w' : World, Below wE.heap.size wE w' → EnvAt w' u M an ai a6 cn ci from fun w' h => by
      refine ⟨(HEX.out w' h).rep, HSE.out.below h (Nat.le_refl _) (Nat.le_refl _) h.size, (HEX.out w' h).wt, fun s hs => ?_, by rw [HML.out]; omega⟩
      rw [HME.out] at hs
      simp only [List.mem_append, List.mem_singleton] at hs
      rcases hs with (hs | rfl) | hs
      · exact (HEX.out w' h).sizes s (List.mem_of_mem_take hs)
      · exact ⟨by show g0.size ≤ _; omega, by show g1.size ≤ _; omega⟩
      · exact (HEX.out w' h).sizes s (List.mem_of_mem_drop hs))
    have HSY := Lib.hid (show ∀ w' : World, Below wE.heap.size wE w' → w'.cell? ⟨w5.heap.size, 0, none⟩ = some (.int .u8 u.kind) ∧ w'.cell? ⟨w5.heap.size, 1, none⟩ = some (.int .i64 u.n) ∧ w'.cell? ⟨w5.heap.size, 2, none⟩ = some (.string u.t) ∧ w'.cell? ⟨w5.heap.size, 3, none⟩ = some (.slice an u.names.length cn) ∧ w'.cell? ⟨w5.heap.size, 4, none⟩ = some (.slice ai u.items.length ci) ∧ w'.cell? ⟨w5.heap.size, 5, none⟩ = some (.slice a6 (l.length + 1) c6) from fun w' h => by
      have y0 := (h.block _ (heap_lt HXE.out)).trans HXE.out
      exact ⟨box_cell y0 rfl, box_cell y0 rfl, box_cell y0 rfl, box_cell y0 rfl, box_cell y0 rfl, box_cell y0 rfl⟩)
    have HE0 := Lib.hid (show ∀ w' : World, Below wE.heap.size wE w' → Below W0.heap.size W0 w' from fun w' h => HB50.out w' (HBE.out.trans (h.mono HBE.out.size)))
    obtain ⟨q0, q1, q2, q3, q4, q5, q6, q7, q8, q9⟩ := HS.out wE (HE0.out wE (Below.refl _ _))
    rw [hwE] at q0 q1 q2 q3 q4 q5 q6 q7 q8 q9
    have HWE := Lib.hid hwE
    clear how howM hxd hwE hM hbd hi3 hi4 hi5 HYX HS2 HK1 HK2
    go_wp2_with fail
    rw [← HWE.out]
    have HMX := Lib.hid (signMay u l an ai sa cn ci sc wE (HEX.out wE (Below.refl _ _)))
    obtain ⟨b1, hb1⟩ : ∃ b1, b1 = envOk u l := ⟨_, rfl⟩
    rw [← hb1] at HMX
    have HO1 := Lib.hid hb1
    clear hb1
    refine HMX.out.mono ?_
    clear HMX HWE q0 q1 q2 q3 q4 q5 q6 q7 q8 q9 c1d f1d
    rintro e w6 ⟨rfl, hb6⟩
    have HB6 := Lib.hid hb6
    clear hb6
    obtain ⟨q0, q1, q2, q3, q4, q5, q6, q7, q8, q9⟩ := HS.out w6 (HE0.out w6 HB6.out)
    obtain ⟨p0, p1, p2, p3, p4, p5⟩ := HSY.out w6 HB6.out
    cases b1
    case false =>
      go_wp2
      go_ret
      exact ⟨rfl, HBT.out _ (HE0.out _ HB6.out)⟩
    have HMY := Lib.hid (signMay u M an ai a6 cn ci c6 w6 (HEY.out w6 HB6.out))
    obtain ⟨b2, hb2⟩ : ∃ b2, b2 = envOk u M := ⟨_, rfl⟩
    rw [← hb2, HML.out] at HMY
    have HO2 := Lib.hid hb2
    clear hb2
    go_wp2_with fail
    refine HMY.out.mono ?_
    clear HMY q0 q1 q2 q3 q4 q5 q6 q7 q8 q9 p0 p1 p2 p3 p4 p5
    rintro e w7 ⟨rfl, hb7⟩
    have HB7 := Lib.hid (HB6.out.trans (hb7.mono HB6.out.size))
    clear hb7 HB6
    cases b2
    case false =>
      go_wp2
      go_ret
      exact ⟨rfl, HBT.out _ (HE0.out _ HB7.out)⟩
    have HSI := Lib.hid (show Calls Tryz.prog 29 #[.agg #[.int .u8 u.kind, .int .i64 u.n, .string u.t, .slice an u.names.length cn, .slice ai u.items.length ci, .slice sa l.length sc]] w7 (fun e w' => e = .returned (.tuple #[.string ⟨(signS u l).toArray⟩, .int .i64 (signE u l)]) ∧ Below w7.heap.size w7 w') from signSigned u l an ai sa cn ci sc w7 (HEX.out w7 HB7.out) HNUM.out (HP.out w7 (HE0.out w7 HB7.out)))
    rw [show signE u l = 0 by unfold signE; rw [← HO1.out]; rfl, show signS u l = u.enc by unfold signS; rw [← HO1.out]; rfl] at HSI
    obtain ⟨X, hX⟩ : ∃ X : ByteArray, X = ⟨u.enc.toArray⟩ := ⟨_, rfl⟩
    rw [← hX] at HSI
    have HX := Lib.hid hX
    clear hX
    obtain ⟨q0, q1, q2, q3, q4, q5, q6, q7, q8, q9⟩ := HS.out w7 (HE0.out w7 HB7.out)
    go_wp2_with fail
    refine HSI.out.mono ?_
    clear HSI q0 q1 q2 q3 q4 q5 q6 q7 q8 q9
    rintro e w8 ⟨rfl, hb8⟩
    have HB8 := Lib.hid (HB7.out.trans (hb8.mono HB7.out.size))
    clear hb8 HB7
    have HXZ := Lib.hid (show X.size ≤ 1099511620000 by
      rw [HX.out]
      show u.enc.toArray.size ≤ _
      rw [List.size_toArray]
      have h1 := HNL.out.wt
      have h2 := JV.enc_length u (JV.form_of_may u _ _ HNUM.out (envOk_may HO1.out.symm))
      omega)
    have HXD := Lib.hid (show X.data.toList = u.enc by rw [HX.out])
    have HFD := Lib.hid (keyFind keys g0 ka kc w8 (HI.out w8 (HE0.out w8 HB8.out)).rows (by have := HNL.out.keylen; omega) HNL.out.keysizes (HT.out w8 (HE0.out w8 HB8.out)))
    unfold KFindPost at HFD
    have HFZ := Lib.hid (KeyRow.find (HNL.out.row (HI.out w8 (HE0.out w8 HB8.out))) g0)
    obtain ⟨G, hG⟩ : ∃ G, G = goodMore v keys ids (g0, g1) u.enc := ⟨_, rfl⟩
    obtain ⟨HD, hHD⟩ : ∃ HD, HD = hadMore v keys l (g0, g1) u.enc := ⟨_, rfl⟩
    have HG := Lib.hid hG
    have HHD := Lib.hid hHD
    unfold goodMore at hG
    unfold hadMore at hHD
    obtain ⟨⟨⟨f1, f2⟩, fb⟩, hf⟩ : ∃ r : Key2 × Bool, r = findK g0 keys := ⟨_, rfl⟩
    rw [← hf] at HFD HFZ
    simp only [← hf] at hG hHD
    have HG2 := Lib.hid hG
    have HHD2 := Lib.hid hHD
    clear hf hG hHD
    obtain ⟨q0, q1, q2, q3, q4, q5, q6, q7, q8, q9⟩ := HS.out w8 (HE0.out w8 HB8.out)
    go_wp2_with fail
    refine HFD.out.mono ?_
    clear HFD q0 q1 q2 q3 q4 q5 q6 q7 q8 q9
    rintro e wF ⟨rfl, hbf⟩
    obtain ⟨wG, hwG⟩ : ∃ wG, wG = wF.alloc (.cells #[.string f1, .string f2] 24) := ⟨_, rfl⟩
    have hbg : Below w8.heap.size w8 wG := by rw [hwG]; exact hbf.alloc hbf.size _
    have HBG := Lib.hid (HB8.out.trans (hbg.mono HB8.out.size))
    have HKX := Lib.hid (show wG.heap[wF.heap.size]? = some (.cells #[.string f1, .string f2] 24 (0, 0)) by rw [hwG]; exact heap_alloc_new _ _)
    have HKC := Lib.hid (show ∀ w' : World, Below wG.heap.size wG w' → w'.cell? ⟨wF.heap.size, 0, none⟩ = some (.string f1) ∧ w'.cell? ⟨wF.heap.size, 1, none⟩ = some (.string f2) from fun w' h => by
      have y0 := (h.block _ (heap_lt HKX.out)).trans HKX.out
      exact ⟨box_cell y0 rfl, box_cell y0 rfl⟩)
    have HG0 := Lib.hid (show ∀ w' : World, Below wG.heap.size wG w' → Below W0.heap.size W0 w' from fun w' h => HE0.out w' (HBG.out.trans (h.mono HBG.out.size)))
    have HG5 := Lib.hid (show ∀ w' : World, Below wG.heap.size wG w' → Below w5.heap.size w5 w' from fun w' h => HBE.out.trans ((HBG.out.trans (h.mono HBG.out.size)).mono HBE.out.size))
    have HWG := Lib.hid hwG
    clear hbf hbg hwG HB8 HKX
    go_upto_region 11 with fail
    rw [← HWG.out]
    clear HWG
    go_cut [22] (fun s22 wx => s22 = .bool G ∧ Below wG.heap.size wG wx)
    case first =>
      obtain ⟨q0, q1, q2, q3, q4, q5, q6, q7, q8, q9⟩ := HS.out wG (HG0.out wG (Below.refl _ _))
      cases fb
      · have HGF := Lib.hid (show G = false from HG2.out)
        go_wp2_with fail
        go_meet
        exact ⟨by rw [HGF.out], Below.refl _ _⟩
      · have HHA := Lib.hid (authHas t ids g0 ia ic wG (HI.out wG (HG0.out wG (Below.refl _ _))).strs (HI.out wG (HG0.out wG (Below.refl _ _))).lids)
        obtain ⟨hs, hhs⟩ : ∃ hs, hs = (ids.any fun i => decide (i = g0)) := ⟨_, rfl⟩
        rw [← hhs] at HHA
        have hg2 := HG2.out
        rw [← hhs] at hg2
        have HG3 := Lib.hid hg2
        clear hhs hg2
        go_wp2_with fail
        refine HHA.out.mono ?_
        clear HHA q0 q1 q2 q3 q4 q5 q6 q7 q8 q9
        rintro e wH ⟨rfl, hbh⟩
        have HBH := Lib.hid hbh
        clear hbh
        cases hs
        · have HGF := Lib.hid (show G = false from HG3.out)
          go_wp2_with fail
          go_meet
          exact ⟨by rw [HGF.out], HBH.out⟩
        · obtain ⟨q0, q1, q2, q3, q4, q5, q6, q7, q8, q9⟩ := HS.out wH (HG0.out wH HBH.out)
          obtain ⟨k0, k1⟩ := HKC.out wH HBH.out
          have HGF := Lib.hid (show G = v.good (f1, f2) (g0, g1) u.enc by rw [HG3.out]; rfl)
          have HGD := Lib.hid (show Calls Tryz.prog 16 #[x, .agg #[.string f1, .string f2], .agg #[.string g0, .string g1], .string X] wH (fun e w' => e = .returned (.bool G) ∧ Below wH.heap.size wH w') from by
            have h := judgeGood v x (f1, f2) (g0, g1) X wH (HXV.out wH (HG5.out wH HBH.out)) HFZ.out.1 HFZ.out.2 (by show g1.size ≤ _; omega) HXZ.out (HT.out wH (HG0.out wH HBH.out))
            rw [HXD.out, ← HGF.out] at h
            exact h)
          go_wp2_with fail
          refine HGD.out.mono ?_
          clear HGD q0 q1 q2 q3 q4 q5 q6 q7 q8 q9 k0 k1
          rintro e wL ⟨rfl, hbl⟩
          have HBL := Lib.hid (HBH.out.trans (hbl.mono HBH.out.size))
          clear hbl
          go_wp2_with fail
          go_meet
          exact ⟨rfl, HBL.out⟩
    case rest =>
      obtain ⟨rfl, hbc⟩ := hcut
      have HBC := Lib.hid hbc
      clear hbc
      obtain ⟨n, hnn⟩ : ∃ n : Nat, n = countV v u l t ids keys := ⟨_, rfl⟩
      obtain ⟨mm, hmm⟩ : ∃ mm : Nat, mm = countV v u M t ids keys := ⟨_, rfl⟩
      obtain ⟨bn, hbn⟩ : ∃ bn : Bool, bn = enoughV v u l t ids keys := ⟨_, rfl⟩
      obtain ⟨bm, hbm⟩ : ∃ bm : Bool, bm = enoughV v u M t ids keys := ⟨_, rfl⟩
      have HC5 := Lib.hid (show ∀ w' : World, Below wc.heap.size wc w' → Below w5.heap.size w5 w' from fun w' h => HG5.out w' (HBC.out.trans (h.mono HBC.out.size)))
      have HC0 := Lib.hid (show ∀ w' : World, Below wc.heap.size wc w' → Below W0.heap.size W0 w' from fun w' h => HG0.out w' (HBC.out.trans (h.mono HBC.out.size)))
      have HCE := Lib.hid (show ∀ w' : World, Below wc.heap.size wc w' → Below wE.heap.size wE w' from fun w' h => HBG.out.trans ((HBC.out.trans (h.mono HBC.out.size)).mono HBG.out.size))
      have HCX := Lib.hid (show ∀ w' : World, Below wc.heap.size wc w' → Calls Tryz.prog 21 #[x, .agg #[.int .u8 u.kind, .int .i64 u.n, .string u.t, .slice an u.names.length cn, .slice ai u.items.length ci, .slice sa l.length sc], .agg #[.int .i64 t, .slice ia ids.length ic], .slice ka keys.length kc] w' (fun e w'' => e = .returned (.int .i64 (n : Int)) ∧ Below w'.heap.size w' w'') from fun w' h => by
        have hI := HI.out w' (HC0.out w' h)
        rw [hnn]
        exact judgeCount v x u l an ai sa cn ci sc t ids ia ic keys ka kc w' (HXV.out w' (HC5.out w' h)) (HNL.out.env hI) (HNL.out.auth hI) (HNL.out.row hI) HNUM.out (HP.out w' (HC0.out w' h)) (HT.out w' (HC0.out w' h)))
      have HNX := Lib.hid (show ∀ w' : World, Below wc.heap.size wc w' → Calls Tryz.prog 23 #[x, .agg #[.int .u8 u.kind, .int .i64 u.n, .string u.t, .slice an u.names.length cn, .slice ai u.items.length ci, .slice sa l.length sc], .agg #[.int .i64 t, .slice ia ids.length ic], .slice ka keys.length kc] w' (fun e w'' => e = .returned (.bool bn) ∧ Below w'.heap.size w' w'') from fun w' h => by
        have hI := HI.out w' (HC0.out w' h)
        rw [hbn]
        exact judgeEnough v x u l an ai sa cn ci sc t ids ia ic keys ka kc w' (HXV.out w' (HC5.out w' h)) (HNL.out.env hI) (HNL.out.auth hI) (HNL.out.row hI) HNUM.out (HP.out w' (HC0.out w' h)) (HT.out w' (HC0.out w' h)))
      have HCY := Lib.hid (show ∀ w' : World, Below wc.heap.size wc w' → Calls Tryz.prog 21 #[x, .agg #[.int .u8 u.kind, .int .i64 u.n, .string u.t, .slice an u.names.length cn, .slice ai u.items.length ci, .slice a6 (l.length + 1) c6], .agg #[.int .i64 t, .slice ia ids.length ic], .slice ka keys.length kc] w' (fun e w'' => e = .returned (.int .i64 (mm : Int)) ∧ Below w'.heap.size w' w'') from fun w' h => by
        have hI := HI.out w' (HC0.out w' h)
        have hc := judgeCount v x u M an ai a6 cn ci c6 t ids ia ic keys ka kc w' (HXV.out w' (HC5.out w' h)) (HEY.out w' (HCE.out w' h)) (HNL.out.auth hI) (HNL.out.row hI) HNUM.out (HP.out w' (HC0.out w' h)) (HT.out w' (HC0.out w' h))
        rw [← hmm, HML.out] at hc
        exact hc)
      have HNY := Lib.hid (show ∀ w' : World, Below wc.heap.size wc w' → Calls Tryz.prog 23 #[x, .agg #[.int .u8 u.kind, .int .i64 u.n, .string u.t, .slice an u.names.length cn, .slice ai u.items.length ci, .slice a6 (l.length + 1) c6], .agg #[.int .i64 t, .slice ia ids.length ic], .slice ka keys.length kc] w' (fun e w'' => e = .returned (.bool bm) ∧ Below w'.heap.size w' w'') from fun w' h => by
        have hI := HI.out w' (HC0.out w' h)
        have hc := judgeEnough v x u M an ai a6 cn ci c6 t ids ia ic keys ka kc w' (HXV.out w' (HC5.out w' h)) (HEY.out w' (HCE.out w' h)) (HNL.out.auth hI) (HNL.out.row hI) HNUM.out (HP.out w' (HC0.out w' h)) (HT.out w' (HC0.out w' h))
        rw [← hbm, HML.out] at hc
        exact hc)
      have HN1 := Lib.hid hnn
      have HN2 := Lib.hid hmm
      have HN3 := Lib.hid hbn
      have HN4 := Lib.hid hbm
      clear hnn hmm hbn hbm
      go_upto_region 12 with fail
      obtain ⟨V, hV⟩ : ∃ V : List MP, V = [.con (x), .con (.agg #[.int .u8 u.kind, .int .i64 u.n, .string u.t, .slice an u.names.length cn, .slice ai u.items.length ci, .slice sa l.length sc]), .con (.agg #[.int .i64 t, .slice ia ids.length ic]), .con (.slice ka keys.length kc), .con (.int .i64 (n : Int)), .con (x), .con (.agg #[.int .u8 u.kind, .int .i64 u.n, .string u.t, .slice an u.names.length cn, .slice ai u.items.length ci, .slice a6 (l.length + 1) c6]), .con (.agg #[.int .i64 t, .slice ia ids.length ic]), .con (.slice ka keys.length kc), .con (.int .i64 (mm : Int))] := ⟨_, rfl⟩
      have HV := Lib.hid hV
      clear hV
      refine wp_region_inv 10 (fun d a' w' => ∃ x114 x115 x116 x117 x118 x119 x120 x121 x122 x123, a' = ⟨#[Value.bool hm, Value.slice va vl.length vc, Value.agg #[Value.int IntKind.u8 u.kind, Value.int IntKind.i64 u.n, Value.string u.t, Value.slice an u.names.length cn, Value.slice ai u.items.length ci, Value.slice sa l.length sc], Value.agg #[Value.int IntKind.i64 t, Value.slice ia ids.length ic], Value.slice ka keys.length kc, Value.agg #[Value.string g0, Value.string g1], Value.int IntKind.i64 at_, undef, undef, Value.pointer (some { block := w.heap.size, off := 0 }), Value.pointer (some { block := w.heap.size + 1, off := 0 }), undef, Value.pointer (some { block := w.heap.size + 1 + 1, off := 0 }), undef, Value.bool false, x, Value.int IntKind.i64 (i : Int), Value.pointer (some { block := w5.heap.size, off := 0 }), Value.string X, Value.int IntKind.i64 0, Value.pointer (some { block := wF.heap.size, off := 0 }), Value.bool fb, Value.bool G, undef, undef, undef, undef, u27, u28, u29, u30, u31, u32, u33, u34, u35, u36, u37, u38, u39, u40, u41, u42, u43, u44, u45, u46, u47, u48, u49, u50, u51, u52, u53, u54, u55, u56, u57, u58, u59, u60, u61, u62, u63, u64, u65, u66, u67, u68, u69, u70, u71, u72, u73, u74, u75, u76, u77, u78, u79, u80, u81, u82, u83, u84, u85, u86, u87, u88, u89, u90, u91, u92, u93, u94, u95, u96, u97, u98, u99, u100, u101, u102, u103, u104, u105, u106, u107, u108, u109, u110, u111, u112, u113, x114, x115, x116, x117, x118, x119, x120, x121, x122, x123, u124, u125, u126, u127, u128, u129, u130, u131, u132, u133, u134, u135, u136, u137, u138, u139, u140, u141, u142, u143, u144, u145, u146, u147, u148, u149, u150, u151, u152, u153, u154, u155, u156, u157, u158, u159, u160, u161, u162, u163, u164, u165, u166, u167, u168, u169, u170, u171, u172, u173, u174, u175, u176, u177, u178, u179, u180, u181, u182, u183, u184, u185, u186, u187, u188, u189, u190, u191, u192, u193, u194, u195, u196, u197, u198], []⟩ ∧ RegI wc V d w' [x114, x115, x116, x117, x118, x119, x120, x121, x122, x123]) (by kernel_rfl) (by kernel_rfl) ?first ?step ?last
      case first => exact ⟨_, _, _, _, _, _, _, _, _, _, rfl, RegI.first _ _ _ (by rw [HV.out]; rfl)⟩
      case step =>
        rintro d a' w' ⟨x114, x115, x116, x117, x118, x119, x120, x121, x122, x123, rfl, h⟩ q hq hn hw
        rcases q with _ | _ | _ | _ | _ | _ | _ | _ | _ | _ | q
        · refine wpOp_step rfl fun K hK => ?_
          go_simp
          exact hK _ _ ⟨_, x115, x116, x117, x118, x119, x120, x121, x122, x123, rfl, h.same 0 _ (.con (x)) (by rw [HV.out]; rfl) rfl⟩
        · obtain ⟨q0, q1, q2, q3, q4, q5, q6, q7, q8, q9⟩ := HS.out w' (HC0.out w' h.1); obtain ⟨p0, p1, p2, p3, p4, p5⟩ := HSY.out w' (HCE.out w' h.1)
          refine wpOp_step rfl fun K hK => ?_
          go_simp
          exact hK _ _ ⟨x114, _, x116, x117, x118, x119, x120, x121, x122, x123, rfl, h.same 1 _ (.con (.agg #[.int .u8 u.kind, .int .i64 u.n, .string u.t, .slice an u.names.length cn, .slice ai u.items.length ci, .slice sa l.length sc])) (by rw [HV.out]; rfl) rfl⟩
        · obtain ⟨q0, q1, q2, q3, q4, q5, q6, q7, q8, q9⟩ := HS.out w' (HC0.out w' h.1); obtain ⟨p0, p1, p2, p3, p4, p5⟩ := HSY.out w' (HCE.out w' h.1)
          refine wpOp_step rfl fun K hK => ?_
          go_simp
          exact hK _ _ ⟨x114, x115, _, x117, x118, x119, x120, x121, x122, x123, rfl, h.same 2 _ (.con (.agg #[.int .i64 t, .slice ia ids.length ic])) (by rw [HV.out]; rfl) rfl⟩
        · refine wpOp_step rfl fun K hK => ?_
          go_simp
          exact hK _ _ ⟨x114, x115, x116, _, x118, x119, x120, x121, x122, x123, rfl, h.same 3 _ (.con (.slice ka keys.length kc)) (by rw [HV.out]; rfl) rfl⟩
        · obtain rfl : x114 = x := h.get 0 (hw _ rfl ⟨0, .data⟩ (by simp) rfl) (.con (x)) (by rw [HV.out]; rfl) _ rfl
          obtain rfl : x115 = .agg #[.int .u8 u.kind, .int .i64 u.n, .string u.t, .slice an u.names.length cn, .slice ai u.items.length ci, .slice sa l.length sc] := h.get 1 (hw _ rfl ⟨1, .data⟩ (by simp) rfl) (.con (.agg #[.int .u8 u.kind, .int .i64 u.n, .string u.t, .slice an u.names.length cn, .slice ai u.items.length ci, .slice sa l.length sc])) (by rw [HV.out]; rfl) _ rfl
          obtain rfl : x116 = .agg #[.int .i64 t, .slice ia ids.length ic] := h.get 2 (hw _ rfl ⟨2, .data⟩ (by simp) rfl) (.con (.agg #[.int .i64 t, .slice ia ids.length ic])) (by rw [HV.out]; rfl) _ rfl
          obtain rfl : x117 = .slice ka keys.length kc := h.get 3 (hw _ rfl ⟨3, .data⟩ (by simp) rfl) (.con (.slice ka keys.length kc)) (by rw [HV.out]; rfl) _ rfl
          obtain ⟨q0, q1, q2, q3, q4, q5, q6, q7, q8, q9⟩ := HS.out w' (HC0.out w' h.1); obtain ⟨p0, p1, p2, p3, p4, p5⟩ := HSY.out w' (HCE.out w' h.1)
          refine wpOp_step rfl fun K hK => ?_
          go_simp
          refine (HCX.out w' h.1).mono ?_
          rintro e w2 ⟨rfl, hb2⟩
          exact hK _ _ ⟨_, _, _, _, _, x119, x120, x121, x122, x123, rfl, h.did hb2 4 _ (.con (.int .i64 (n : Int))) (by rw [HV.out]; rfl) rfl⟩
        · refine wpOp_step rfl fun K hK => ?_
          go_simp
          exact hK _ _ ⟨x114, x115, x116, x117, x118, _, x120, x121, x122, x123, rfl, h.same 5 _ (.con (x)) (by rw [HV.out]; rfl) rfl⟩
        · obtain ⟨q0, q1, q2, q3, q4, q5, q6, q7, q8, q9⟩ := HS.out w' (HC0.out w' h.1); obtain ⟨p0, p1, p2, p3, p4, p5⟩ := HSY.out w' (HCE.out w' h.1)
          refine wpOp_step rfl fun K hK => ?_
          go_simp
          exact hK _ _ ⟨x114, x115, x116, x117, x118, x119, _, x121, x122, x123, rfl, h.same 6 _ (.con (.agg #[.int .u8 u.kind, .int .i64 u.n, .string u.t, .slice an u.names.length cn, .slice ai u.items.length ci, .slice a6 (l.length + 1) c6])) (by rw [HV.out]; rfl) rfl⟩
        · obtain ⟨q0, q1, q2, q3, q4, q5, q6, q7, q8, q9⟩ := HS.out w' (HC0.out w' h.1); obtain ⟨p0, p1, p2, p3, p4, p5⟩ := HSY.out w' (HCE.out w' h.1)
          refine wpOp_step rfl fun K hK => ?_
          go_simp
          exact hK _ _ ⟨x114, x115, x116, x117, x118, x119, x120, _, x122, x123, rfl, h.same 7 _ (.con (.agg #[.int .i64 t, .slice ia ids.length ic])) (by rw [HV.out]; rfl) rfl⟩
        · refine wpOp_step rfl fun K hK => ?_
          go_simp
          exact hK _ _ ⟨x114, x115, x116, x117, x118, x119, x120, x121, _, x123, rfl, h.same 8 _ (.con (.slice ka keys.length kc)) (by rw [HV.out]; rfl) rfl⟩
        · obtain rfl : x119 = x := h.get 5 (hw _ rfl ⟨5, .data⟩ (by simp) rfl) (.con (x)) (by rw [HV.out]; rfl) _ rfl
          obtain rfl : x120 = .agg #[.int .u8 u.kind, .int .i64 u.n, .string u.t, .slice an u.names.length cn, .slice ai u.items.length ci, .slice a6 (l.length + 1) c6] := h.get 6 (hw _ rfl ⟨6, .data⟩ (by simp) rfl) (.con (.agg #[.int .u8 u.kind, .int .i64 u.n, .string u.t, .slice an u.names.length cn, .slice ai u.items.length ci, .slice a6 (l.length + 1) c6])) (by rw [HV.out]; rfl) _ rfl
          obtain rfl : x121 = .agg #[.int .i64 t, .slice ia ids.length ic] := h.get 7 (hw _ rfl ⟨7, .data⟩ (by simp) rfl) (.con (.agg #[.int .i64 t, .slice ia ids.length ic])) (by rw [HV.out]; rfl) _ rfl
          obtain rfl : x122 = .slice ka keys.length kc := h.get 8 (hw _ rfl ⟨8, .data⟩ (by simp) rfl) (.con (.slice ka keys.length kc)) (by rw [HV.out]; rfl) _ rfl
          obtain ⟨q0, q1, q2, q3, q4, q5, q6, q7, q8, q9⟩ := HS.out w' (HC0.out w' h.1); obtain ⟨p0, p1, p2, p3, p4, p5⟩ := HSY.out w' (HCE.out w' h.1)
          refine wpOp_step rfl fun K hK => ?_
          go_simp
          refine (HCY.out w' h.1).mono ?_
          rintro e w2 ⟨rfl, hb2⟩
          exact hK _ _ ⟨x114, x115, x116, x117, x118, _, _, _, _, _, rfl, h.did hb2 9 _ (.con (.int .i64 (mm : Int))) (by rw [HV.out]; rfl) rfl⟩
        · omega
      case last =>
        rintro d a' w' hall ⟨x114, x115, x116, x117, x118, x119, x120, x121, x122, x123, rfl, h⟩
        have hle := h.1
        obtain rfl : x118 = .int .i64 (n : Int) := h.get 4 (hall _ (by omega)) (.con (.int .i64 (n : Int))) (by rw [HV.out]; rfl) _ rfl
        obtain rfl : x123 = .int .i64 (mm : Int) := h.get 9 (hall _ (by omega)) (.con (.int .i64 (mm : Int))) (by rw [HV.out]; rfl) _ rfl
        have HLE := Lib.hid hle
        clear h hall hle HV
        have HBM := Lib.hid (HBC.out.trans (HLE.out.mono HBC.out.size))
        obtain ⟨wM, rfl⟩ : ∃ wM, wM = w' := ⟨w', rfl⟩
        obtain ⟨wC, rfl⟩ : ∃ wC, wC = wc := ⟨wc, rfl⟩
        obtain ⟨PP, hPP⟩ : ∃ PP : Sig2 → Bool, PP = fun q => decide (q.1 = g0) && (fb && v.good (f1, f2) q u.enc) := ⟨_, rfl⟩
        have HHD3 := Lib.hid (show HD = l.any PP by rw [hPP]; exact HHD2.out)
        have HPP := Lib.hid (show ∀ q : Sig2, PP q = (decide (q.1 = g0) && (fb && v.good (f1, f2) q u.enc)) from fun q => by rw [hPP])
        clear hPP HG2 HHD2
        go_wp2_with fail
        go_loopw [25, 26] (fun hv i wr => ∃ q : Nat, q ≤ l.length ∧ i = .int .i64 q ∧ hv = .bool ((l.take q).any PP) ∧ Below wM.heap.size wM wr) (fun _ i _ => l.length - (intOf i).toNat)
        case atStart => exact ⟨0, Nat.zero_le _, rfl, rfl, Below.refl _ _⟩
        case round =>
          obtain ⟨q, hq, rfl, rfl, hbel⟩ := hrel
          have HBR := Lib.hid hbel
          have HB0R := Lib.hid (HC0.out wr (HLE.out.trans (hbel.mono HLE.out.size)))
          clear hbel
          obtain ⟨hv, hhv⟩ : ∃ hv : Bool, hv = (l.take q).any PP := ⟨_, rfl⟩
          rw [← hhv]
          have HHV := Lib.hid hhv
          clear hhv
          obtain ⟨q0, q1, q2, q3, q4, q5, q6, q7, q8, q9⟩ := HS.out wr HB0R.out
          by_cases hlq : q < l.length
          · cases hv
            case true =>
              have HNX := Lib.hid (show ((l.take (q + 1)).any PP) = true by
                rw [List.take_succ_eq_append_getElem hlq, List.any_append, ← HHV.out]; rfl)
              clear HHV
              go_wp2_with fail
              go_quiet (fail)
              go_wp2
              go_roundw
              case rel => exact ⟨q + 1, by omega, by go_num, by rw [HNX.out], Below.drewN HBR.out _⟩
              case measure => simp [intOf]; omega
            case false =>
              obtain ⟨b, off, ha, _, _, e0, e1⟩ := (HI.out wr HB0R.out).sigs.at q hlq
              subst ha
              obtain ⟨s, hs⟩ : ∃ s, s = l[q] := ⟨_, rfl⟩
              rw [← hs] at e0 e1
              have HNX := Lib.hid (show ((l.take (q + 1)).any PP) = (decide (s.1 = g0) && (fb && v.good (f1, f2) s u.enc)) by
                rw [List.take_succ_eq_append_getElem hlq, List.any_append, ← HHV.out, Bool.false_or, List.any_cons, List.any_nil, Bool.or_false, ← hs, HPP.out])
              have HSZ := Lib.hid (HNL.out.sizes s (by rw [hs]; exact List.getElem_mem _))
              clear hs HHV
              obtain ⟨s0, s1⟩ := s
              replace e0 : wr.cell? ⟨b, off + q * 2, none⟩ = some (.string s0) := e0
              replace e1 : wr.cell? ⟨b, off + q * 2 + 1, none⟩ = some (.string s1) := e1
              have m1 : (0 : Int) ≤ (q : Int) := by omega
              have m2 : (q : Int) < (l.length : Int) := by omega
              cases h1 : (s0.toList == g0.toList)
              · have HN0 := Lib.hid (show ((l.take (q + 1)).any PP) = false by
                  rw [HNX.out, decide_eq_false (fun e : s0 = g0 => by rw [e] at h1; simp at h1)]; rfl)
                clear HNX
                go_wp2_with fail
                go_quiet (fail)
                go_wp2
                go_roundw
                case rel => exact ⟨q + 1, by omega, by go_num, by rw [HN0.out], Below.drewN HBR.out _⟩
                case measure => simp [intOf]; omega
              · cases fb
                · have HN0 := Lib.hid (show ((l.take (q + 1)).any PP) = false by rw [HNX.out]; simp)
                  clear HNX
                  go_wp2_with fail
                  go_quiet (fail)
                  go_wp2
                  go_roundw
                  case rel => exact ⟨q + 1, by omega, by go_num, by rw [HN0.out], Below.drewN HBR.out _⟩
                  case measure => simp [intOf]; omega
                · obtain ⟨gq, hgq⟩ : ∃ gq, gq = v.good (f1, f2) (s0, s1) u.enc := ⟨_, rfl⟩
                  have HN0 := Lib.hid (show ((l.take (q + 1)).any PP) = gq by rw [HNX.out, hgq, decide_eq_true (show (s0, s1).1 = g0 from ba_ext (eq_of_beq h1))]; rfl)
                  have HGR := Lib.hid (show ∀ w' : World, Below wr.heap.size wr w' → Calls Tryz.prog 16 #[x, .agg #[.string f1, .string f2], .agg #[.string s0, .string s1], .string X] w' (fun e w'' => e = .returned (.bool gq) ∧ Below w'.heap.size w' w'') from fun w' h => by
                    have h5 := HC5.out w' (HLE.out.trans ((HBR.out.trans (h.mono HBR.out.size)).mono HLE.out.size))
                    have hc := judgeGood v x (f1, f2) (s0, s1) X w' (HXV.out w' h5) HFZ.out.1 HFZ.out.2 (by have := HSZ.out.2; show s1.size ≤ _; simp only at this; omega) HXZ.out (HT.out w' (HB50.out w' h5))
                    rw [HXD.out, ← hgq] at hc
                    exact hc)
                  have HCR := Lib.hid (show ∀ w' : World, Below wr.heap.size wr w' → w'.cell? ⟨w.heap.size, 5, none⟩ = some (.slice (some ⟨b, off, none⟩) l.length sc) ∧ w'.cell? ⟨w.heap.size + 1 + 1, 0, none⟩ = some (.string g0) ∧ w'.cell? ⟨b, off + q * 2, none⟩ = some (.string s0) ∧ w'.cell? ⟨b, off + q * 2 + 1, none⟩ = some (.string s1) ∧ w'.cell? ⟨wF.heap.size, 0, none⟩ = some (.string f1) ∧ w'.cell? ⟨wF.heap.size, 1, none⟩ = some (.string f2) from fun w' h => by
                    have h0 := HS.out w' (HC0.out w' (HLE.out.trans ((HBR.out.trans (h.mono HBR.out.size)).mono HLE.out.size)))
                    have hk := HKC.out w' (HBC.out.trans ((HLE.out.trans ((HBR.out.trans (h.mono HBR.out.size)).mono HLE.out.size)).mono HBC.out.size))
                    have hb : b < wr.heap.size := World.block_lt_of_cell? wr _ e0
                    exact ⟨h0.2.2.2.2.2.1, h0.2.2.2.2.2.2.2.2.1, (World.cell?_of_block (w := wr) (h.block b hb)).trans e0, (World.cell?_of_block (w := wr) (h.block b hb)).trans e1, hk.1, hk.2⟩)
                  clear hgq HNX
                  go_upto_region 17 with fail
                  obtain ⟨V, hV⟩ : ∃ V : List MP, V = [.con (.bool false), .con (.bool false), .con (.pointer (some ⟨w.heap.size, 5, none⟩)), .con (.slice (some ⟨b, off, none⟩) l.length sc), .con (.int .i64 (q : Int)), .con (.pointer (some ⟨b, off + q * 2, none⟩)), .con (.pointer (some ⟨b, off + q * 2, none⟩)), .con (.string s0), .con (.pointer (some ⟨w.heap.size + 1 + 1, 0, none⟩)), .con (.string g0), .con (.bool true), .con (.bool true), .con (.bool true), .con (.bool true), .con (.bool true), .con (x), .con (.agg #[.string f1, .string f2]), .con (.pointer (some ⟨w.heap.size, 5, none⟩)), .con (.slice (some ⟨b, off, none⟩) l.length sc), .con (.int .i64 (q : Int)), .con (.pointer (some ⟨b, off + q * 2, none⟩)), .con (.agg #[.string s0, .string s1]), .con (.string X), .con (.bool gq), .con (.bool gq), .con (.bool gq)] := ⟨_, rfl⟩
                  have HV := Lib.hid hV
                  clear hV
                  refine wp_region_inv 26 (fun d a' w' => ∃ x131 x132 x133 x134 x135 x136 x137 x138 x139 x140 x141 x142 x143 x144 x145 x146 x147 x148 x149 x150 x151 x152 x153 x154 x155 x156, a' = ⟨#[Value.bool hm, Value.slice va vl.length vc, Value.agg #[Value.int IntKind.u8 u.kind, Value.int IntKind.i64 u.n, Value.string u.t, Value.slice an u.names.length cn, Value.slice ai u.items.length ci, Value.slice (some { block := b, off := off }) l.length sc], Value.agg #[Value.int IntKind.i64 t, Value.slice ia ids.length ic], Value.slice ka keys.length kc, Value.agg #[Value.string g0, Value.string g1], Value.int IntKind.i64 at_, undef, undef, Value.pointer (some { block := w.heap.size, off := 0 }), Value.pointer (some { block := w.heap.size + 1, off := 0 }), undef, Value.pointer (some { block := w.heap.size + 1 + 1, off := 0 }), undef, Value.bool false, x, Value.int IntKind.i64 (i : Int), Value.pointer (some { block := w5.heap.size, off := 0 }), Value.string X, Value.int IntKind.i64 0, Value.pointer (some { block := wF.heap.size, off := 0 }), Value.bool true, Value.bool G, Value.int IntKind.i64 (n : Int), Value.int IntKind.i64 (mm : Int), Value.bool false, Value.int IntKind.i64 (q : Int), u27, u28, u29, u30, u31, u32, u33, u34, u35, u36, u37, u38, u39, u40, u41, u42, u43, u44, u45, u46, u47, u48, u49, u50, u51, u52, u53, u54, u55, u56, u57, u58, u59, u60, u61, u62, u63, u64, u65, u66, u67, u68, u69, u70, u71, u72, u73, u74, u75, u76, u77, u78, u79, u80, u81, u82, u83, u84, u85, u86, u87, u88, u89, u90, u91, u92, u93, u94, u95, u96, u97, u98, u99, u100, u101, u102, u103, u104, u105, u106, u107, u108, u109, u110, u111, u112, u113, x114, x115, x116, x117, Value.int IntKind.i64 (n : Int), x119, x120, x121, x122, Value.int IntKind.i64 (mm : Int), Value.int IntKind.i64 (q : Int), Value.pointer (some { block := w.heap.size, off := 5 }), Value.slice (some { block := b, off := off }) l.length sc, Value.int IntKind.i64 (l.length : Int), Value.bool true, u129, u130, x131, x132, x133, x134, x135, x136, x137, x138, x139, x140, x141, x142, x143, x144, x145, x146, x147, x148, x149, x150, x151, x152, x153, x154, x155, x156, u157, u158, u159, u160, u161, u162, u163, u164, u165, u166, u167, u168, u169, u170, u171, u172, u173, u174, u175, u176, u177, u178, u179, u180, u181, u182, u183, u184, u185, u186, u187, u188, u189, u190, u191, u192, u193, u194, u195, u196, u197, u198], []⟩ ∧ RegI wr V d w' [x131, x132, x133, x134, x135, x136, x137, x138, x139, x140, x141, x142, x143, x144, x145, x146, x147, x148, x149, x150, x151, x152, x153, x154, x155, x156]) (by kernel_rfl) (by kernel_rfl) ?first ?step ?last
                  case first => exact ⟨_, _, _, _, _, _, _, _, _, _, _, _, _, _, _, _, _, _, _, _, _, _, _, _, _, _, rfl, RegI.first _ _ _ (by rw [HV.out]; rfl)⟩
                  case step =>
                    rintro d a' w' ⟨x131, x132, x133, x134, x135, x136, x137, x138, x139, x140, x141, x142, x143, x144, x145, x146, x147, x148, x149, x150, x151, x152, x153, x154, x155, x156, rfl, h⟩ q hq hn hw
                    rcases q with _ | _ | _ | _ | _ | _ | _ | _ | _ | _ | _ | _ | _ | _ | _ | _ | _ | _ | _ | _ | _ | _ | _ | _ | _ | _ | q
                    · refine wpOp_step rfl fun K hK => ?_
                      go_simp
                      exact hK _ _ ⟨_, x132, x133, x134, x135, x136, x137, x138, x139, x140, x141, x142, x143, x144, x145, x146, x147, x148, x149, x150, x151, x152, x153, x154, x155, x156, rfl, h.same 0 _ (.con (.bool false)) (by rw [HV.out]; rfl) rfl⟩
                    · obtain rfl : x131 = .bool false := h.get 0 (hw _ rfl ⟨0, .data⟩ (by simp) rfl) (.con (.bool false)) (by rw [HV.out]; rfl) _ rfl
                      refine wpOp_step rfl fun K hK => ?_
                      go_simp
                      exact hK _ _ ⟨_, _, x133, x134, x135, x136, x137, x138, x139, x140, x141, x142, x143, x144, x145, x146, x147, x148, x149, x150, x151, x152, x153, x154, x155, x156, rfl, h.same 1 _ (.con (.bool false)) (by rw [HV.out]; rfl) rfl⟩
                    · obtain rfl : x132 = .bool false := h.get 1 (hw _ rfl ⟨1, .guard⟩ (by simp) rfl) (.con (.bool false)) (by rw [HV.out]; rfl) _ rfl
                      refine wpOp_step rfl fun K hK => ?_
                      go_simp
                      exact hK _ _ ⟨x131, _, _, x134, x135, x136, x137, x138, x139, x140, x141, x142, x143, x144, x145, x146, x147, x148, x149, x150, x151, x152, x153, x154, x155, x156, rfl, h.same 2 _ (.con (.pointer (some ⟨w.heap.size, 5, none⟩))) (by rw [HV.out]; rfl) rfl⟩
                    · obtain rfl : x132 = .bool false := h.get 1 (hw _ rfl ⟨1, .guard⟩ (by simp) rfl) (.con (.bool false)) (by rw [HV.out]; rfl) _ rfl
                      obtain rfl : x133 = .pointer (some ⟨w.heap.size, 5, none⟩) := h.get 2 (hw _ rfl ⟨2, .data⟩ (by simp) rfl) (.con (.pointer (some ⟨w.heap.size, 5, none⟩))) (by rw [HV.out]; rfl) _ rfl
                      obtain ⟨q5, q8, e0, e1, k0, k1⟩ := HCR.out w' h.1
                      refine wpOp_step rfl fun K hK => ?_
                      go_simp
                      exact hK _ _ ⟨x131, _, _, _, x135, x136, x137, x138, x139, x140, x141, x142, x143, x144, x145, x146, x147, x148, x149, x150, x151, x152, x153, x154, x155, x156, rfl, h.same 3 _ (.con (.slice (some ⟨b, off, none⟩) l.length sc)) (by rw [HV.out]; rfl) rfl⟩
                    · obtain rfl : x132 = .bool false := h.get 1 (hw _ rfl ⟨1, .guard⟩ (by simp) rfl) (.con (.bool false)) (by rw [HV.out]; rfl) _ rfl
                      refine wpOp_step rfl fun K hK => ?_
                      go_simp
                      exact hK _ _ ⟨x131, _, x133, x134, _, x136, x137, x138, x139, x140, x141, x142, x143, x144, x145, x146, x147, x148, x149, x150, x151, x152, x153, x154, x155, x156, rfl, h.same 4 _ (.con (.int .i64 (q : Int))) (by rw [HV.out]; rfl) rfl⟩
                    · obtain rfl : x132 = .bool false := h.get 1 (hw _ rfl ⟨1, .guard⟩ (by simp) rfl) (.con (.bool false)) (by rw [HV.out]; rfl) _ rfl
                      obtain rfl : x134 = .slice (some ⟨b, off, none⟩) l.length sc := h.get 3 (hw _ rfl ⟨3, .data⟩ (by simp) rfl) (.con (.slice (some ⟨b, off, none⟩) l.length sc)) (by rw [HV.out]; rfl) _ rfl
                      obtain rfl : x135 = .int .i64 (q : Int) := h.get 4 (hw _ rfl ⟨4, .data⟩ (by simp) rfl) (.con (.int .i64 (q : Int))) (by rw [HV.out]; rfl) _ rfl
                      obtain ⟨q5, q8, e0, e1, k0, k1⟩ := HCR.out w' h.1
                      refine wpOp_step rfl fun K hK => ?_
                      go_simp
                      exact hK _ _ ⟨x131, _, x133, _, _, _, x137, x138, x139, x140, x141, x142, x143, x144, x145, x146, x147, x148, x149, x150, x151, x152, x153, x154, x155, x156, rfl, h.same 5 _ (.con (.pointer (some ⟨b, off + q * 2, none⟩))) (by rw [HV.out]; rfl) rfl⟩
                    · obtain rfl : x132 = .bool false := h.get 1 (hw _ rfl ⟨1, .guard⟩ (by simp) rfl) (.con (.bool false)) (by rw [HV.out]; rfl) _ rfl
                      obtain rfl : x136 = .pointer (some ⟨b, off + q * 2, none⟩) := h.get 5 (hw _ rfl ⟨5, .data⟩ (by simp) rfl) (.con (.pointer (some ⟨b, off + q * 2, none⟩))) (by rw [HV.out]; rfl) _ rfl
                      refine wpOp_step rfl fun K hK => ?_
                      go_simp
                      exact hK _ _ ⟨x131, _, x133, x134, x135, _, _, x138, x139, x140, x141, x142, x143, x144, x145, x146, x147, x148, x149, x150, x151, x152, x153, x154, x155, x156, rfl, h.same 6 _ (.con (.pointer (some ⟨b, off + q * 2, none⟩))) (by rw [HV.out]; rfl) rfl⟩
                    · obtain rfl : x132 = .bool false := h.get 1 (hw _ rfl ⟨1, .guard⟩ (by simp) rfl) (.con (.bool false)) (by rw [HV.out]; rfl) _ rfl
                      obtain rfl : x137 = .pointer (some ⟨b, off + q * 2, none⟩) := h.get 6 (hw _ rfl ⟨6, .data⟩ (by simp) rfl) (.con (.pointer (some ⟨b, off + q * 2, none⟩))) (by rw [HV.out]; rfl) _ rfl
                      obtain ⟨q5, q8, e0, e1, k0, k1⟩ := HCR.out w' h.1
                      refine wpOp_step rfl fun K hK => ?_
                      go_simp
                      exact hK _ _ ⟨x131, _, x133, x134, x135, x136, _, _, x139, x140, x141, x142, x143, x144, x145, x146, x147, x148, x149, x150, x151, x152, x153, x154, x155, x156, rfl, h.same 7 _ (.con (.string s0)) (by rw [HV.out]; rfl) rfl⟩
                    · obtain rfl : x132 = .bool false := h.get 1 (hw _ rfl ⟨1, .guard⟩ (by simp) rfl) (.con (.bool false)) (by rw [HV.out]; rfl) _ rfl
                      refine wpOp_step rfl fun K hK => ?_
                      go_simp
                      exact hK _ _ ⟨x131, _, x133, x134, x135, x136, x137, x138, _, x140, x141, x142, x143, x144, x145, x146, x147, x148, x149, x150, x151, x152, x153, x154, x155, x156, rfl, h.same 8 _ (.con (.pointer (some ⟨w.heap.size + 1 + 1, 0, none⟩))) (by rw [HV.out]; rfl) rfl⟩
                    · obtain rfl : x132 = .bool false := h.get 1 (hw _ rfl ⟨1, .guard⟩ (by simp) rfl) (.con (.bool false)) (by rw [HV.out]; rfl) _ rfl
                      obtain rfl : x139 = .pointer (some ⟨w.heap.size + 1 + 1, 0, none⟩) := h.get 8 (hw _ rfl ⟨8, .data⟩ (by simp) rfl) (.con (.pointer (some ⟨w.heap.size + 1 + 1, 0, none⟩))) (by rw [HV.out]; rfl) _ rfl
                      obtain ⟨q5, q8, e0, e1, k0, k1⟩ := HCR.out w' h.1
                      refine wpOp_step rfl fun K hK => ?_
                      go_simp
                      exact hK _ _ ⟨x131, _, x133, x134, x135, x136, x137, x138, _, _, x141, x142, x143, x144, x145, x146, x147, x148, x149, x150, x151, x152, x153, x154, x155, x156, rfl, h.same 9 _ (.con (.string g0)) (by rw [HV.out]; rfl) rfl⟩
                    · obtain rfl : x132 = .bool false := h.get 1 (hw _ rfl ⟨1, .guard⟩ (by simp) rfl) (.con (.bool false)) (by rw [HV.out]; rfl) _ rfl
                      obtain rfl : x138 = .string s0 := h.get 7 (hw _ rfl ⟨7, .data⟩ (by simp) rfl) (.con (.string s0)) (by rw [HV.out]; rfl) _ rfl
                      obtain rfl : x140 = .string g0 := h.get 9 (hw _ rfl ⟨9, .data⟩ (by simp) rfl) (.con (.string g0)) (by rw [HV.out]; rfl) _ rfl
                      refine wpOp_step rfl fun K hK => ?_
                      go_simp
                      exact hK _ _ ⟨x131, _, x133, x134, x135, x136, x137, _, x139, _, _, x142, x143, x144, x145, x146, x147, x148, x149, x150, x151, x152, x153, x154, x155, x156, rfl, h.same 10 _ (.con (.bool true)) (by rw [HV.out]; rfl) rfl⟩
                    · obtain rfl : x132 = .bool false := h.get 1 (hw _ rfl ⟨1, .chain⟩ (by simp) rfl) (.con (.bool false)) (by rw [HV.out]; rfl) _ rfl
                      obtain rfl : x141 = .bool true := h.get 10 (hw _ rfl ⟨10, .data⟩ (by simp) rfl) (.con (.bool true)) (by rw [HV.out]; rfl) _ rfl
                      refine wpOp_step rfl fun K hK => ?_
                      go_simp
                      exact hK _ _ ⟨x131, _, x133, x134, x135, x136, x137, x138, x139, x140, _, _, x143, x144, x145, x146, x147, x148, x149, x150, x151, x152, x153, x154, x155, x156, rfl, h.same 11 _ (.con (.bool true)) (by rw [HV.out]; rfl) rfl⟩
                    · obtain rfl : x142 = .bool true := h.get 11 (hw _ rfl ⟨11, .guard⟩ (by simp) rfl) (.con (.bool true)) (by rw [HV.out]; rfl) _ rfl
                      refine wpOp_step rfl fun K hK => ?_
                      go_simp
                      exact hK _ _ ⟨x131, x132, x133, x134, x135, x136, x137, x138, x139, x140, x141, _, _, x144, x145, x146, x147, x148, x149, x150, x151, x152, x153, x154, x155, x156, rfl, h.same 12 _ (.con (.bool true)) (by rw [HV.out]; rfl) rfl⟩
                    · obtain rfl : x132 = .bool false := h.get 1 (hw _ rfl ⟨1, .guard⟩ (by simp) rfl) (.con (.bool false)) (by rw [HV.out]; rfl) _ rfl
                      obtain rfl : x142 = .bool true := h.get 11 (hw _ rfl ⟨11, .data⟩ (by simp) rfl) (.con (.bool true)) (by rw [HV.out]; rfl) _ rfl
                      obtain rfl : x143 = .bool true := h.get 12 (hw _ rfl ⟨12, .data⟩ (by simp) rfl) (.con (.bool true)) (by rw [HV.out]; rfl) _ rfl
                      refine wpOp_step rfl fun K hK => ?_
                      go_simp
                      exact hK _ _ ⟨x131, _, x133, x134, x135, x136, x137, x138, x139, x140, x141, _, _, _, x145, x146, x147, x148, x149, x150, x151, x152, x153, x154, x155, x156, rfl, h.same 13 _ (.con (.bool true)) (by rw [HV.out]; rfl) rfl⟩
                    · obtain rfl : x132 = .bool false := h.get 1 (hw _ rfl ⟨1, .guard⟩ (by simp) rfl) (.con (.bool false)) (by rw [HV.out]; rfl) _ rfl
                      obtain rfl : x144 = .bool true := h.get 13 (hw _ rfl ⟨13, .data⟩ (by simp) rfl) (.con (.bool true)) (by rw [HV.out]; rfl) _ rfl
                      refine wpOp_step rfl fun K hK => ?_
                      go_simp
                      exact hK _ _ ⟨x131, _, x133, x134, x135, x136, x137, x138, x139, x140, x141, x142, x143, _, _, x146, x147, x148, x149, x150, x151, x152, x153, x154, x155, x156, rfl, h.same 14 _ (.con (.bool true)) (by rw [HV.out]; rfl) rfl⟩
                    · obtain rfl : x145 = .bool true := h.get 14 (hw _ rfl ⟨14, .guard⟩ (by simp) rfl) (.con (.bool true)) (by rw [HV.out]; rfl) _ rfl
                      refine wpOp_step rfl fun K hK => ?_
                      go_simp
                      exact hK _ _ ⟨x131, x132, x133, x134, x135, x136, x137, x138, x139, x140, x141, x142, x143, x144, _, _, x147, x148, x149, x150, x151, x152, x153, x154, x155, x156, rfl, h.same 15 _ (.con (x)) (by rw [HV.out]; rfl) rfl⟩
                    · obtain rfl : x145 = .bool true := h.get 14 (hw _ rfl ⟨14, .guard⟩ (by simp) rfl) (.con (.bool true)) (by rw [HV.out]; rfl) _ rfl
                      obtain ⟨q5, q8, e0, e1, k0, k1⟩ := HCR.out w' h.1
                      refine wpOp_step rfl fun K hK => ?_
                      go_simp
                      exact hK _ _ ⟨x131, x132, x133, x134, x135, x136, x137, x138, x139, x140, x141, x142, x143, x144, _, x146, _, x148, x149, x150, x151, x152, x153, x154, x155, x156, rfl, h.same 16 _ (.con (.agg #[.string f1, .string f2])) (by rw [HV.out]; rfl) rfl⟩
                    · obtain rfl : x145 = .bool true := h.get 14 (hw _ rfl ⟨14, .guard⟩ (by simp) rfl) (.con (.bool true)) (by rw [HV.out]; rfl) _ rfl
                      refine wpOp_step rfl fun K hK => ?_
                      go_simp
                      exact hK _ _ ⟨x131, x132, x133, x134, x135, x136, x137, x138, x139, x140, x141, x142, x143, x144, _, x146, x147, _, x149, x150, x151, x152, x153, x154, x155, x156, rfl, h.same 17 _ (.con (.pointer (some ⟨w.heap.size, 5, none⟩))) (by rw [HV.out]; rfl) rfl⟩
                    · obtain rfl : x145 = .bool true := h.get 14 (hw _ rfl ⟨14, .guard⟩ (by simp) rfl) (.con (.bool true)) (by rw [HV.out]; rfl) _ rfl
                      obtain rfl : x148 = .pointer (some ⟨w.heap.size, 5, none⟩) := h.get 17 (hw _ rfl ⟨17, .data⟩ (by simp) rfl) (.con (.pointer (some ⟨w.heap.size, 5, none⟩))) (by rw [HV.out]; rfl) _ rfl
                      obtain ⟨q5, q8, e0, e1, k0, k1⟩ := HCR.out w' h.1
                      refine wpOp_step rfl fun K hK => ?_
                      go_simp
                      exact hK _ _ ⟨x131, x132, x133, x134, x135, x136, x137, x138, x139, x140, x141, x142, x143, x144, _, x146, x147, _, _, x150, x151, x152, x153, x154, x155, x156, rfl, h.same 18 _ (.con (.slice (some ⟨b, off, none⟩) l.length sc)) (by rw [HV.out]; rfl) rfl⟩
                    · obtain rfl : x145 = .bool true := h.get 14 (hw _ rfl ⟨14, .guard⟩ (by simp) rfl) (.con (.bool true)) (by rw [HV.out]; rfl) _ rfl
                      refine wpOp_step rfl fun K hK => ?_
                      go_simp
                      exact hK _ _ ⟨x131, x132, x133, x134, x135, x136, x137, x138, x139, x140, x141, x142, x143, x144, _, x146, x147, x148, x149, _, x151, x152, x153, x154, x155, x156, rfl, h.same 19 _ (.con (.int .i64 (q : Int))) (by rw [HV.out]; rfl) rfl⟩
                    · obtain rfl : x145 = .bool true := h.get 14 (hw _ rfl ⟨14, .guard⟩ (by simp) rfl) (.con (.bool true)) (by rw [HV.out]; rfl) _ rfl
                      obtain rfl : x149 = .slice (some ⟨b, off, none⟩) l.length sc := h.get 18 (hw _ rfl ⟨18, .data⟩ (by simp) rfl) (.con (.slice (some ⟨b, off, none⟩) l.length sc)) (by rw [HV.out]; rfl) _ rfl
                      obtain rfl : x150 = .int .i64 (q : Int) := h.get 19 (hw _ rfl ⟨19, .data⟩ (by simp) rfl) (.con (.int .i64 (q : Int))) (by rw [HV.out]; rfl) _ rfl
                      obtain ⟨q5, q8, e0, e1, k0, k1⟩ := HCR.out w' h.1
                      refine wpOp_step rfl fun K hK => ?_
                      go_simp
                      exact hK _ _ ⟨x131, x132, x133, x134, x135, x136, x137, x138, x139, x140, x141, x142, x143, x144, _, x146, x147, x148, _, _, _, x152, x153, x154, x155, x156, rfl, h.same 20 _ (.con (.pointer (some ⟨b, off + q * 2, none⟩))) (by rw [HV.out]; rfl) rfl⟩
                    · obtain rfl : x145 = .bool true := h.get 14 (hw _ rfl ⟨14, .guard⟩ (by simp) rfl) (.con (.bool true)) (by rw [HV.out]; rfl) _ rfl
                      obtain rfl : x151 = .pointer (some ⟨b, off + q * 2, none⟩) := h.get 20 (hw _ rfl ⟨20, .data⟩ (by simp) rfl) (.con (.pointer (some ⟨b, off + q * 2, none⟩))) (by rw [HV.out]; rfl) _ rfl
                      obtain ⟨q5, q8, e0, e1, k0, k1⟩ := HCR.out w' h.1
                      refine wpOp_step rfl fun K hK => ?_
                      go_simp
                      exact hK _ _ ⟨x131, x132, x133, x134, x135, x136, x137, x138, x139, x140, x141, x142, x143, x144, _, x146, x147, x148, x149, x150, _, _, x153, x154, x155, x156, rfl, h.same 21 _ (.con (.agg #[.string s0, .string s1])) (by rw [HV.out]; rfl) rfl⟩
                    · obtain rfl : x145 = .bool true := h.get 14 (hw _ rfl ⟨14, .guard⟩ (by simp) rfl) (.con (.bool true)) (by rw [HV.out]; rfl) _ rfl
                      refine wpOp_step rfl fun K hK => ?_
                      go_simp
                      exact hK _ _ ⟨x131, x132, x133, x134, x135, x136, x137, x138, x139, x140, x141, x142, x143, x144, _, x146, x147, x148, x149, x150, x151, x152, _, x154, x155, x156, rfl, h.same 22 _ (.con (.string X)) (by rw [HV.out]; rfl) rfl⟩
                    · obtain rfl : x145 = .bool true := h.get 14 (hw _ rfl ⟨14, .chain⟩ (by simp) rfl) (.con (.bool true)) (by rw [HV.out]; rfl) _ rfl
                      obtain rfl : x146 = x := h.get 15 (hw _ rfl ⟨15, .data⟩ (by simp) rfl) (.con (x)) (by rw [HV.out]; rfl) _ rfl
                      obtain rfl : x147 = .agg #[.string f1, .string f2] := h.get 16 (hw _ rfl ⟨16, .data⟩ (by simp) rfl) (.con (.agg #[.string f1, .string f2])) (by rw [HV.out]; rfl) _ rfl
                      obtain rfl : x152 = .agg #[.string s0, .string s1] := h.get 21 (hw _ rfl ⟨21, .data⟩ (by simp) rfl) (.con (.agg #[.string s0, .string s1])) (by rw [HV.out]; rfl) _ rfl
                      obtain rfl : x153 = .string X := h.get 22 (hw _ rfl ⟨22, .data⟩ (by simp) rfl) (.con (.string X)) (by rw [HV.out]; rfl) _ rfl
                      obtain ⟨q5, q8, e0, e1, k0, k1⟩ := HCR.out w' h.1
                      refine wpOp_step rfl fun K hK => ?_
                      go_simp
                      refine (HGR.out w' h.1).mono ?_
                      rintro e w2 ⟨rfl, hb2⟩
                      exact hK _ _ ⟨x131, x132, x133, x134, x135, x136, x137, x138, x139, x140, x141, x142, x143, x144, _, _, _, x148, x149, x150, x151, _, _, _, x155, x156, rfl, h.did hb2 23 _ (.con (.bool gq)) (by rw [HV.out]; rfl) rfl⟩
                    · obtain rfl : x132 = .bool false := h.get 1 (hw _ rfl ⟨1, .guard⟩ (by simp) rfl) (.con (.bool false)) (by rw [HV.out]; rfl) _ rfl
                      obtain rfl : x145 = .bool true := h.get 14 (hw _ rfl ⟨14, .data⟩ (by simp) rfl) (.con (.bool true)) (by rw [HV.out]; rfl) _ rfl
                      obtain rfl : x154 = .bool gq := h.get 23 (hw _ rfl ⟨23, .data⟩ (by simp) rfl) (.con (.bool gq)) (by rw [HV.out]; rfl) _ rfl
                      refine wpOp_step rfl fun K hK => ?_
                      go_simp
                      exact hK _ _ ⟨x131, _, x133, x134, x135, x136, x137, x138, x139, x140, x141, x142, x143, x144, _, x146, x147, x148, x149, x150, x151, x152, x153, _, _, x156, rfl, h.same 24 _ (.con (.bool gq)) (by rw [HV.out]; rfl) rfl⟩
                    · obtain rfl : x132 = .bool false := h.get 1 (hw _ rfl ⟨1, .data⟩ (by simp) rfl) (.con (.bool false)) (by rw [HV.out]; rfl) _ rfl
                      obtain rfl : x155 = .bool gq := h.get 24 (hw _ rfl ⟨24, .data⟩ (by simp) rfl) (.con (.bool gq)) (by rw [HV.out]; rfl) _ rfl
                      refine wpOp_step rfl fun K hK => ?_
                      go_simp
                      exact hK _ _ ⟨x131, _, x133, x134, x135, x136, x137, x138, x139, x140, x141, x142, x143, x144, x145, x146, x147, x148, x149, x150, x151, x152, x153, x154, _, _, rfl, h.same 25 _ (.con (.bool gq)) (by rw [HV.out]; rfl) rfl⟩
                    · omega
                  case last =>
                    rintro d a' w' hall ⟨x131, x132, x133, x134, x135, x136, x137, x138, x139, x140, x141, x142, x143, x144, x145, x146, x147, x148, x149, x150, x151, x152, x153, x154, x155, x156, rfl, h⟩
                    have hle := h.1
                    obtain rfl : x156 = .bool gq := h.get 25 (hall _ (by omega)) (.con (.bool gq)) (by rw [HV.out]; rfl) _ rfl
                    have HLE := Lib.hid hle
                    clear h hall hle HV
                    have HBU := Lib.hid (HBR.out.trans (HLE.out.mono HBR.out.size))
                    go_wp2
                    go_roundw
                    case rel => exact ⟨q + 1, by omega, by go_num, by rw [HN0.out], HBU.out⟩
                    case measure => simp [intOf]; omega
          · have hqe : q = l.length := by omega
            subst hqe
            have hh : hv = HD := by rw [HHV.out, HHD3.out, List.take_length]
            subst hh
            clear hlq hq HHV HHD3 HPP
            obtain ⟨C, hC⟩ : ∃ C, C = (G && (!hv && authOk t ids)) := ⟨_, rfl⟩
            have hm0 : envOk u (l.take i ++ [(g0, g1)] ++ l.drop i) = true := by rw [← HME.out]; exact HO2.out.symm
            have HPL := Lib.hid (show C = true → mm = n + 1 from fun h => by
              rw [hC, HG.out, HHD.out] at h
              simp only [Bool.and_eq_true, Bool.not_eq_true'] at h
              rw [HN1.out, HN2.out, HME.out]
              exact more_plus HO1.out.symm hm0 h.1 h.2.1 h.2.2)
            have HSM := Lib.hid (show C = false → mm = n from fun h => by
              rw [hC, HG.out, HHD.out] at h
              rw [HN1.out, HN2.out, HME.out]
              exact more_same HO1.out.symm hm0 h)
            have HCC0 := Lib.hid hC
            have hnl : n ≤ ids.length := by rw [HN1.out]; exact countV_le _ _ _ _ _ _
            have hn1 : ¬ ((n : Int) < 0) := by omega
            have hn2 : (n : Int) ≤ (ids.length : Int) := by omega
            have hn3 := HNL.out.idlen
            have HBW := Lib.hid (show Below wC.heap.size wC wr from HLE.out.trans (HBR.out.mono HLE.out.size))
            clear hC hm0
            go_upto_region 20 with fail
            go_cut [178] (fun s wx => s = .bool C ∧ Below wr.heap.size wr wx)
            case first =>
              cases G
              · have HCF := Lib.hid (show C = false by rw [HCC0.out]; rfl)
                go_wp2_with fail
                go_meet
                exact ⟨by rw [HCF.out], Below.refl _ _⟩
              · cases hv
                · have HAM := Lib.hid (authMay t ids ia ic wr (HI.out wr HB0R.out).strs (fun s hs => by have := HNL.out.idsizes s hs; omega))
                  have HCF := Lib.hid (show authOk t ids = C by rw [HCC0.out]; rfl)
                  rw [HCF.out] at HAM
                  go_wp2_with fail
                  refine HAM.out.mono ?_
                  clear HAM q0 q1 q2 q3 q4 q5 q6 q7 q8 q9
                  rintro e wT ⟨rfl, hbt⟩
                  have HBT2 := Lib.hid hbt
                  clear hbt
                  go_wp2_with fail
                  go_meet
                  exact ⟨rfl, HBT2.out⟩
                · have HCF := Lib.hid (show C = false by rw [HCC0.out]; rfl)
                  go_wp2_with fail
                  go_meet
                  exact ⟨by rw [HCF.out], Below.refl _ _⟩
            case rest =>
              obtain ⟨rfl, hbz⟩ := hcut
              have HBZ := Lib.hid hbz
              clear hbz
              have HCC := Lib.hid (show ∀ w' : World, Below wc.heap.size wc w' → Below wC.heap.size wC w' from fun w' h => HBW.out.trans ((HBZ.out.trans (h.mono HBZ.out.size)).mono HBW.out.size))
              have HCZ := Lib.hid (show ∀ w' : World, Below wc.heap.size wc w' → Below W0.heap.size W0 w' from fun w' h => HC0.out w' (HCC.out w' h))
              have HCEZ := Lib.hid (show ∀ w' : World, Below wc.heap.size wc w' → Below wE.heap.size wE w' from fun w' h => HCE.out w' (HCC.out w' h))
              cases C
              · have hmn := HSM.out rfl
                have hbnm : bm = bn := by rw [HN3.out, HN4.out]; unfold enoughV; rw [← HN1.out, ← HN2.out, hmn]
                obtain rfl : n = mm := hmn.symm
                obtain rfl : bn = bm := hbnm.symm
                go_upto_region 22 with fail
                obtain ⟨V, hV⟩ : ∃ V : List MP, V = [.con (.int .i64 (n : Int)), .con (.int .i64 (n : Int)), .con (.bool true), .con (.bool true), .con (x), .con (.agg #[.int .u8 u.kind, .int .i64 u.n, .string u.t, .slice an u.names.length cn, .slice ai u.items.length ci, .slice sa l.length sc]), .con (.agg #[.int .i64 t, .slice ia ids.length ic]), .con (.slice ka keys.length kc), .con (.bool bn), .con (x), .con (.agg #[.int .u8 u.kind, .int .i64 u.n, .string u.t, .slice an u.names.length cn, .slice ai u.items.length ci, .slice a6 (l.length + 1) c6]), .con (.agg #[.int .i64 t, .slice ia ids.length ic]), .con (.slice ka keys.length kc), .con (.bool bn), .con (.bool true), .con (.bool true)] := ⟨_, rfl⟩
                have HV := Lib.hid hV
                clear hV
                refine wp_region_inv 16 (fun d a' w' => ∃ x183 x184 x185 x186 x187 x188 x189 x190 x191 x192 x193 x194 x195 x196 x197 x198, a' = ⟨#[Value.bool hm, Value.slice va vl.length vc, Value.agg #[Value.int IntKind.u8 u.kind, Value.int IntKind.i64 u.n, Value.string u.t, Value.slice an u.names.length cn, Value.slice ai u.items.length ci, Value.slice sa l.length sc], Value.agg #[Value.int IntKind.i64 t, Value.slice ia ids.length ic], Value.slice ka keys.length kc, Value.agg #[Value.string g0, Value.string g1], Value.int IntKind.i64 at_, undef, undef, Value.pointer (some { block := w.heap.size, off := 0 }), Value.pointer (some { block := w.heap.size + 1, off := 0 }), undef, Value.pointer (some { block := w.heap.size + 1 + 1, off := 0 }), undef, Value.bool false, x, Value.int IntKind.i64 (i : Int), Value.pointer (some { block := w5.heap.size, off := 0 }), Value.string X, Value.int IntKind.i64 0, Value.pointer (some { block := wF.heap.size, off := 0 }), Value.bool fb, Value.bool G, Value.int IntKind.i64 (n : Int), Value.int IntKind.i64 (n : Int), Value.bool hv, Value.int IntKind.i64 (l.length : Int), u27, u28, u29, u30, u31, u32, u33, u34, u35, u36, u37, u38, u39, u40, u41, u42, u43, u44, u45, u46, u47, u48, u49, u50, u51, u52, u53, u54, u55, u56, u57, u58, u59, u60, u61, u62, u63, u64, u65, u66, u67, u68, u69, u70, u71, u72, u73, u74, u75, u76, u77, u78, u79, u80, u81, u82, u83, u84, u85, u86, u87, u88, u89, u90, u91, u92, u93, u94, u95, u96, u97, u98, u99, u100, u101, u102, u103, u104, u105, u106, u107, u108, u109, u110, u111, u112, u113, u114, u115, u116, u117, u118, u119, u120, u121, u122, u123, u124, u125, u126, u127, u128, u129, u130, u131, u132, u133, u134, u135, u136, u137, u138, u139, u140, u141, u142, u143, u144, u145, u146, u147, u148, u149, u150, u151, u152, u153, u154, u155, u156, u157, u158, u159, u160, u161, u162, u163, u164, u165, u166, u167, u168, u169, u170, u171, u172, u173, u174, u175, u176, u177, Value.bool false, u179, u180, u181, u182, x183, x184, x185, x186, x187, x188, x189, x190, x191, x192, x193, x194, x195, x196, x197, x198], []⟩ ∧ RegI wc V d w' [x183, x184, x185, x186, x187, x188, x189, x190, x191, x192, x193, x194, x195, x196, x197, x198]) (by kernel_rfl) (by kernel_rfl) ?first ?step ?last
                case first => exact ⟨_, _, _, _, _, _, _, _, _, _, _, _, _, _, _, _, rfl, RegI.first _ _ _ (by rw [HV.out]; rfl)⟩
                case step =>
                  rintro d a' w' ⟨x183, x184, x185, x186, x187, x188, x189, x190, x191, x192, x193, x194, x195, x196, x197, x198, rfl, h⟩ q hq hn hw
                  rcases q with _ | _ | _ | _ | _ | _ | _ | _ | _ | _ | _ | _ | _ | _ | _ | _ | q
                  · refine wpOp_step rfl fun K hK => ?_
                    go_simp
                    exact hK _ _ ⟨_, x184, x185, x186, x187, x188, x189, x190, x191, x192, x193, x194, x195, x196, x197, x198, rfl, h.same 0 _ (.con (.int .i64 (n : Int))) (by rw [HV.out]; rfl) rfl⟩
                  · refine wpOp_step rfl fun K hK => ?_
                    go_simp
                    exact hK _ _ ⟨x183, _, x185, x186, x187, x188, x189, x190, x191, x192, x193, x194, x195, x196, x197, x198, rfl, h.same 1 _ (.con (.int .i64 (n : Int))) (by rw [HV.out]; rfl) rfl⟩
                  · obtain rfl : x183 = .int .i64 (n : Int) := h.get 0 (hw _ rfl ⟨0, .data⟩ (by simp) rfl) (.con (.int .i64 (n : Int))) (by rw [HV.out]; rfl) _ rfl
                    obtain rfl : x184 = .int .i64 (n : Int) := h.get 1 (hw _ rfl ⟨1, .data⟩ (by simp) rfl) (.con (.int .i64 (n : Int))) (by rw [HV.out]; rfl) _ rfl
                    refine wpOp_step rfl fun K hK => ?_
                    go_simp
                    exact hK _ _ ⟨_, _, _, x186, x187, x188, x189, x190, x191, x192, x193, x194, x195, x196, x197, x198, rfl, h.same 2 _ (.con (.bool true)) (by rw [HV.out]; rfl) rfl⟩
                  · obtain rfl : x185 = .bool true := h.get 2 (hw _ rfl ⟨2, .data⟩ (by simp) rfl) (.con (.bool true)) (by rw [HV.out]; rfl) _ rfl
                    refine wpOp_step rfl fun K hK => ?_
                    go_simp
                    exact hK _ _ ⟨x183, x184, _, _, x187, x188, x189, x190, x191, x192, x193, x194, x195, x196, x197, x198, rfl, h.same 3 _ (.con (.bool true)) (by rw [HV.out]; rfl) rfl⟩
                  · obtain rfl : x186 = .bool true := h.get 3 (hw _ rfl ⟨3, .guard⟩ (by simp) rfl) (.con (.bool true)) (by rw [HV.out]; rfl) _ rfl
                    refine wpOp_step rfl fun K hK => ?_
                    go_simp
                    exact hK _ _ ⟨x183, x184, x185, _, _, x188, x189, x190, x191, x192, x193, x194, x195, x196, x197, x198, rfl, h.same 4 _ (.con (x)) (by rw [HV.out]; rfl) rfl⟩
                  · obtain rfl : x186 = .bool true := h.get 3 (hw _ rfl ⟨3, .guard⟩ (by simp) rfl) (.con (.bool true)) (by rw [HV.out]; rfl) _ rfl
                    obtain ⟨q0, q1, q2, q3, q4, q5, q6, q7, q8, q9⟩ := HS.out w' (HCZ.out w' h.1); obtain ⟨p0, p1, p2, p3, p4, p5⟩ := HSY.out w' (HCEZ.out w' h.1)
                    refine wpOp_step rfl fun K hK => ?_
                    go_simp
                    exact hK _ _ ⟨x183, x184, x185, _, x187, _, x189, x190, x191, x192, x193, x194, x195, x196, x197, x198, rfl, h.same 5 _ (.con (.agg #[.int .u8 u.kind, .int .i64 u.n, .string u.t, .slice an u.names.length cn, .slice ai u.items.length ci, .slice sa l.length sc])) (by rw [HV.out]; rfl) rfl⟩
                  · obtain rfl : x186 = .bool true := h.get 3 (hw _ rfl ⟨3, .guard⟩ (by simp) rfl) (.con (.bool true)) (by rw [HV.out]; rfl) _ rfl
                    obtain ⟨q0, q1, q2, q3, q4, q5, q6, q7, q8, q9⟩ := HS.out w' (HCZ.out w' h.1); obtain ⟨p0, p1, p2, p3, p4, p5⟩ := HSY.out w' (HCEZ.out w' h.1)
                    refine wpOp_step rfl fun K hK => ?_
                    go_simp
                    exact hK _ _ ⟨x183, x184, x185, _, x187, x188, _, x190, x191, x192, x193, x194, x195, x196, x197, x198, rfl, h.same 6 _ (.con (.agg #[.int .i64 t, .slice ia ids.length ic])) (by rw [HV.out]; rfl) rfl⟩
                  · obtain rfl : x186 = .bool true := h.get 3 (hw _ rfl ⟨3, .guard⟩ (by simp) rfl) (.con (.bool true)) (by rw [HV.out]; rfl) _ rfl
                    refine wpOp_step rfl fun K hK => ?_
                    go_simp
                    exact hK _ _ ⟨x183, x184, x185, _, x187, x188, x189, _, x191, x192, x193, x194, x195, x196, x197, x198, rfl, h.same 7 _ (.con (.slice ka keys.length kc)) (by rw [HV.out]; rfl) rfl⟩
                  · obtain rfl : x186 = .bool true := h.get 3 (hw _ rfl ⟨3, .chain⟩ (by simp) rfl) (.con (.bool true)) (by rw [HV.out]; rfl) _ rfl
                    obtain rfl : x187 = x := h.get 4 (hw _ rfl ⟨4, .data⟩ (by simp) rfl) (.con (x)) (by rw [HV.out]; rfl) _ rfl
                    obtain rfl : x188 = .agg #[.int .u8 u.kind, .int .i64 u.n, .string u.t, .slice an u.names.length cn, .slice ai u.items.length ci, .slice sa l.length sc] := h.get 5 (hw _ rfl ⟨5, .data⟩ (by simp) rfl) (.con (.agg #[.int .u8 u.kind, .int .i64 u.n, .string u.t, .slice an u.names.length cn, .slice ai u.items.length ci, .slice sa l.length sc])) (by rw [HV.out]; rfl) _ rfl
                    obtain rfl : x189 = .agg #[.int .i64 t, .slice ia ids.length ic] := h.get 6 (hw _ rfl ⟨6, .data⟩ (by simp) rfl) (.con (.agg #[.int .i64 t, .slice ia ids.length ic])) (by rw [HV.out]; rfl) _ rfl
                    obtain rfl : x190 = .slice ka keys.length kc := h.get 7 (hw _ rfl ⟨7, .data⟩ (by simp) rfl) (.con (.slice ka keys.length kc)) (by rw [HV.out]; rfl) _ rfl
                    obtain ⟨q0, q1, q2, q3, q4, q5, q6, q7, q8, q9⟩ := HS.out w' (HCZ.out w' h.1); obtain ⟨p0, p1, p2, p3, p4, p5⟩ := HSY.out w' (HCEZ.out w' h.1)
                    refine wpOp_step rfl fun K hK => ?_
                    go_simp
                    refine (HNX.out w' (HCC.out w' h.1)).mono ?_
                    rintro e w2 ⟨rfl, hb2⟩
                    exact hK _ _ ⟨x183, x184, x185, _, _, _, _, _, _, x192, x193, x194, x195, x196, x197, x198, rfl, h.did hb2 8 _ (.con (.bool bn)) (by rw [HV.out]; rfl) rfl⟩
                  · obtain rfl : x186 = .bool true := h.get 3 (hw _ rfl ⟨3, .guard⟩ (by simp) rfl) (.con (.bool true)) (by rw [HV.out]; rfl) _ rfl
                    refine wpOp_step rfl fun K hK => ?_
                    go_simp
                    exact hK _ _ ⟨x183, x184, x185, _, x187, x188, x189, x190, x191, _, x193, x194, x195, x196, x197, x198, rfl, h.same 9 _ (.con (x)) (by rw [HV.out]; rfl) rfl⟩
                  · obtain rfl : x186 = .bool true := h.get 3 (hw _ rfl ⟨3, .guard⟩ (by simp) rfl) (.con (.bool true)) (by rw [HV.out]; rfl) _ rfl
                    obtain ⟨q0, q1, q2, q3, q4, q5, q6, q7, q8, q9⟩ := HS.out w' (HCZ.out w' h.1); obtain ⟨p0, p1, p2, p3, p4, p5⟩ := HSY.out w' (HCEZ.out w' h.1)
                    refine wpOp_step rfl fun K hK => ?_
                    go_simp
                    exact hK _ _ ⟨x183, x184, x185, _, x187, x188, x189, x190, x191, x192, _, x194, x195, x196, x197, x198, rfl, h.same 10 _ (.con (.agg #[.int .u8 u.kind, .int .i64 u.n, .string u.t, .slice an u.names.length cn, .slice ai u.items.length ci, .slice a6 (l.length + 1) c6])) (by rw [HV.out]; rfl) rfl⟩
                  · obtain rfl : x186 = .bool true := h.get 3 (hw _ rfl ⟨3, .guard⟩ (by simp) rfl) (.con (.bool true)) (by rw [HV.out]; rfl) _ rfl
                    obtain ⟨q0, q1, q2, q3, q4, q5, q6, q7, q8, q9⟩ := HS.out w' (HCZ.out w' h.1); obtain ⟨p0, p1, p2, p3, p4, p5⟩ := HSY.out w' (HCEZ.out w' h.1)
                    refine wpOp_step rfl fun K hK => ?_
                    go_simp
                    exact hK _ _ ⟨x183, x184, x185, _, x187, x188, x189, x190, x191, x192, x193, _, x195, x196, x197, x198, rfl, h.same 11 _ (.con (.agg #[.int .i64 t, .slice ia ids.length ic])) (by rw [HV.out]; rfl) rfl⟩
                  · obtain rfl : x186 = .bool true := h.get 3 (hw _ rfl ⟨3, .guard⟩ (by simp) rfl) (.con (.bool true)) (by rw [HV.out]; rfl) _ rfl
                    refine wpOp_step rfl fun K hK => ?_
                    go_simp
                    exact hK _ _ ⟨x183, x184, x185, _, x187, x188, x189, x190, x191, x192, x193, x194, _, x196, x197, x198, rfl, h.same 12 _ (.con (.slice ka keys.length kc)) (by rw [HV.out]; rfl) rfl⟩
                  · obtain rfl : x186 = .bool true := h.get 3 (hw _ rfl ⟨3, .guard⟩ (by simp) rfl) (.con (.bool true)) (by rw [HV.out]; rfl) _ rfl
                    obtain rfl : x192 = x := h.get 9 (hw _ rfl ⟨9, .data⟩ (by simp) rfl) (.con (x)) (by rw [HV.out]; rfl) _ rfl
                    obtain rfl : x193 = .agg #[.int .u8 u.kind, .int .i64 u.n, .string u.t, .slice an u.names.length cn, .slice ai u.items.length ci, .slice a6 (l.length + 1) c6] := h.get 10 (hw _ rfl ⟨10, .data⟩ (by simp) rfl) (.con (.agg #[.int .u8 u.kind, .int .i64 u.n, .string u.t, .slice an u.names.length cn, .slice ai u.items.length ci, .slice a6 (l.length + 1) c6])) (by rw [HV.out]; rfl) _ rfl
                    obtain rfl : x194 = .agg #[.int .i64 t, .slice ia ids.length ic] := h.get 11 (hw _ rfl ⟨11, .data⟩ (by simp) rfl) (.con (.agg #[.int .i64 t, .slice ia ids.length ic])) (by rw [HV.out]; rfl) _ rfl
                    obtain rfl : x195 = .slice ka keys.length kc := h.get 12 (hw _ rfl ⟨12, .data⟩ (by simp) rfl) (.con (.slice ka keys.length kc)) (by rw [HV.out]; rfl) _ rfl
                    obtain ⟨q0, q1, q2, q3, q4, q5, q6, q7, q8, q9⟩ := HS.out w' (HCZ.out w' h.1); obtain ⟨p0, p1, p2, p3, p4, p5⟩ := HSY.out w' (HCEZ.out w' h.1)
                    refine wpOp_step rfl fun K hK => ?_
                    go_simp
                    refine (HNY.out w' (HCC.out w' h.1)).mono ?_
                    rintro e w2 ⟨rfl, hb2⟩
                    exact hK _ _ ⟨x183, x184, x185, _, x187, x188, x189, x190, x191, _, _, _, _, _, x197, x198, rfl, h.did hb2 13 _ (.con (.bool bn)) (by rw [HV.out]; rfl) rfl⟩
                  · obtain rfl : x186 = .bool true := h.get 3 (hw _ rfl ⟨3, .guard⟩ (by simp) rfl) (.con (.bool true)) (by rw [HV.out]; rfl) _ rfl
                    obtain rfl : x191 = .bool bn := h.get 8 (hw _ rfl ⟨8, .data⟩ (by simp) rfl) (.con (.bool bn)) (by rw [HV.out]; rfl) _ rfl
                    obtain rfl : x196 = .bool bn := h.get 13 (hw _ rfl ⟨13, .data⟩ (by simp) rfl) (.con (.bool bn)) (by rw [HV.out]; rfl) _ rfl
                    refine wpOp_step rfl fun K hK => ?_
                    go_simp
                    exact hK _ _ ⟨x183, x184, x185, _, x187, x188, x189, x190, _, x192, x193, x194, x195, _, _, x198, rfl, h.same 14 _ (.con (.bool true)) (by rw [HV.out]; rfl) rfl⟩
                  · obtain rfl : x186 = .bool true := h.get 3 (hw _ rfl ⟨3, .data⟩ (by simp) rfl) (.con (.bool true)) (by rw [HV.out]; rfl) _ rfl
                    obtain rfl : x197 = .bool true := h.get 14 (hw _ rfl ⟨14, .data⟩ (by simp) rfl) (.con (.bool true)) (by rw [HV.out]; rfl) _ rfl
                    refine wpOp_step rfl fun K hK => ?_
                    go_simp
                    exact hK _ _ ⟨x183, x184, x185, _, x187, x188, x189, x190, x191, x192, x193, x194, x195, x196, _, _, rfl, h.same 15 _ (.con (.bool true)) (by rw [HV.out]; rfl) rfl⟩
                  · omega
                case last =>
                  rintro d a' w' hall ⟨x183, x184, x185, x186, x187, x188, x189, x190, x191, x192, x193, x194, x195, x196, x197, x198, rfl, h⟩
                  have hle := h.1
                  obtain rfl : x198 = .bool true := h.get 15 (hall _ (by omega)) (.con (.bool true)) (by rw [HV.out]; rfl) _ rfl
                  have HLE := Lib.hid hle
                  clear h hall hle HV
                  have HBV := Lib.hid (HCZ.out _ HLE.out)
                  go_wp2
                  go_ret
                  exact ⟨by simp, HBT.out _ HBV.out⟩
              · have hmn := HPL.out rfl
                subst hmn
                go_wp2_with fail
                go_ret
                exact ⟨by simp, HBT.out _ (HCZ.out _ (Below.refl _ _))⟩

end Go.Proofs.YtaekmmnpdbmoeaaGreatDoor
