/- The contract of legatelaw17.JudgeRows. Printed by genrows.py. -/
import Derived.Test.YtaekmmnpdbmoeaaGreatDoorJr34
import Derived.Test.YtaekmmnpdbmoeaaGreatDoorJr28

namespace Go.Proofs.YtaekmmnpdbmoeaaGreatDoor
open Go.RowKit

theorem u64_len (n : Nat) (h : n ≤ 9223372036854775807) : IntKind.u64.wrap (n : Int) = (n : Int) := by rw [u64_mod]; omega
theorem at_index2 (a : Int) (n : Nat) (h0 : 0 < n) (h : n ≤ 9223372036854775807) : ∃ i : Nat, i < n ∧ wrap64 ((IntKind.u64.wrap a).tmod (n : Int)) = (i : Int) ∧ IntKind.i64.wrap ((IntKind.u64.wrap a).tmod (n : Int)) = (i : Int) := by
  rw [u64_mod]
  have h0 : 0 ≤ a % 18446744073709551616 := Int.emod_nonneg _ (by decide)
  have h1 : 0 ≤ (a % 18446744073709551616).tmod (n : Int) := Int.tmod_nonneg _ h0
  have h2 : (a % 18446744073709551616).tmod (n : Int) < (n : Int) := Int.tmod_lt_of_pos _ (by omega)
  refine ⟨((a % 18446744073709551616).tmod (n : Int)).toNat, by omega, by unfold wrap64; omega, ?_⟩
  rw [IntWalk.i64_in _ (by omega)]; omega

set_option maxHeartbeats 2000000 in
set_option maxRecDepth 100000 in
theorem lawRows (hm : Bool) (vl : List Ver3) (va : Option Addr) (vc : Nat) (u : JV) (l : List Sig2) (an ai sa : Option Addr) (cn ci sc : Nat) (t : Int) (ids : List ByteArray) (ia : Option Addr) (ic : Nat) (keys : List Key2) (ka : Option Addr) (kc : Nat) (by_ ag : Int) (w : World)
    (hV : TrisAt w 0 w.heap.size va vl) (hvl : vl.length ≤ 9223372036854775807) (hI : JudgeIn w u l an ai sa cn ci ids ia keys ka) (hn : u.num) (hT : Tabs w) (hP : Pow10 w) :
    Calls Tryz.prog 7 #[.bool hm, .slice va vl.length vc, envV u an ai cn ci sa l.length sc, .agg #[.int .i64 t, .slice ia ids.length ic], .slice ka keys.length kc, .int .i64 by_, .int .i64 ag] w fun e w' => e = .returned (.bool true) ∧ Below w.heap.size w w' := by
  obtain ⟨i1, hi1, hy0, hy1, hy2⟩ := info_parts infoSig
  obtain ⟨i2, hi2, hx0, hx1, hx2⟩ := info_parts infoStr2
  obtain ⟨W0, hW0⟩ : ∃ W0, W0 = (w.alloc (.cells #[.int .u8 u.kind, .int .i64 u.n, .string u.t, .slice an u.names.length cn, .slice ai u.items.length ci, .slice sa l.length sc] 47)).alloc (.cells #[.int .i64 t, .slice ia ids.length ic] 49) := ⟨_, rfl⟩
  have HB0 := Lib.hid (show Below w.heap.size w W0 by rw [hW0]; exact below_n2 w _ _)
  have HZ0 := Lib.hid (show W0.heap.size = w.heap.size + 2 by rw [hW0]; simp)
  have hb0 : W0.heap[w.heap.size]? = some (.cells #[.int .u8 u.kind, .int .i64 u.n, .string u.t, .slice an u.names.length cn, .slice ai u.items.length ci, .slice sa l.length sc] 47 (0, 0)) := by
    rw [hW0, Below.heap_alloc _ _ _ (by simp)]; exact heap_alloc_new w _
  have hb1 : W0.heap[w.heap.size + 1]? = some (.cells #[.int .i64 t, .slice ia ids.length ic] 49 (0, 0)) := by
    rw [hW0]
    have := heap_alloc_new (w.alloc (.cells #[.int .u8 u.kind, .int .i64 u.n, .string u.t, .slice an u.names.length cn, .slice ai u.items.length ci, .slice sa l.length sc] 47)) (.cells #[.int .i64 t, .slice ia ids.length ic] 49)
    simpa using this
  have HS := Lib.hid (show ∀ w' : World, Below W0.heap.size W0 w' → w'.cell? ⟨w.heap.size, 0, none⟩ = some (.int .u8 u.kind) ∧ w'.cell? ⟨w.heap.size, 1, none⟩ = some (.int .i64 u.n) ∧ w'.cell? ⟨w.heap.size, 2, none⟩ = some (.string u.t) ∧ w'.cell? ⟨w.heap.size, 3, none⟩ = some (.slice an u.names.length cn) ∧ w'.cell? ⟨w.heap.size, 4, none⟩ = some (.slice ai u.items.length ci) ∧ w'.cell? ⟨w.heap.size, 5, none⟩ = some (.slice sa l.length sc) ∧
      w'.cell? ⟨w.heap.size + 1, 0, none⟩ = some (.int .i64 t) ∧ w'.cell? ⟨w.heap.size + 1, 1, none⟩ = some (.slice ia ids.length ic) from fun w' h => by
    have y0 := (h.block _ (heap_lt hb0)).trans hb0
    have y1 := (h.block _ (heap_lt hb1)).trans hb1
    exact ⟨box_cell y0 rfl, box_cell y0 rfl, box_cell y0 rfl, box_cell y0 rfl, box_cell y0 rfl, box_cell y0 rfl, box_cell y1 rfl, box_cell y1 rfl⟩)
  have HBT := Lib.hid (show ∀ w' : World, Below W0.heap.size W0 w' → Below w.heap.size w w' from fun w' h => HB0.out.trans (h.mono HB0.out.size))
  have HT := Lib.hid (show ∀ w' : World, Below W0.heap.size W0 w' → Tabs w' from fun w' h => hT.below (HBT.out w' h))
  have HP := Lib.hid (show ∀ w' : World, Below W0.heap.size W0 w' → Pow10 w' from fun w' h => hP.below (HBT.out w' h))
  have HA := Lib.hid (show ∀ w' : World, Below W0.heap.size W0 w' → Calls Tryz.prog 14 #[] w' (fun e w'' => e = .returned (.bool true) ∧ Below w'.heap.size w' w'') from fun w' h => lawAwake17 w' (HT.out w' h) (HP.out w' h))
  have HLV := Lib.hid (lawLongVerdicts vl va vc W0 (hV.below HB0.out (Nat.le_refl _) (Nat.le_refl _) HB0.out.size) hvl)
  have HV := Lib.hid (show ∀ w' : World, Below W0.heap.size W0 w' → TrisAt w' 0 w'.heap.size va vl from fun w' h => hV.below (HBT.out w' h) (Nat.le_refl _) (Nat.le_refl _) (HBT.out w' h).size)
  have HI := Lib.hid (show ∀ w' : World, Below W0.heap.size W0 w' → JudgeIn w' u l an ai sa cn ci ids ia keys ka from fun w' h => hI.below (HBT.out w' h))
  have HLG := Lib.hid (show ∀ w' : World, Below W0.heap.size W0 w' → Calls Tryz.prog 20 #[.agg #[.int .u8 u.kind, .int .i64 u.n, .string u.t, .slice an u.names.length cn, .slice ai u.items.length ci, .slice sa l.length sc], .agg #[.int .i64 t, .slice ia ids.length ic], .slice ka keys.length kc] w' (LongPost17 u l ids keys w') from fun w' h => lawLong17 u l an ai sa cn ci sc t ids ia ic keys ka kc w' (HI.out w' h))
  have HW0 := Lib.hid hW0
  have HNUM := Lib.hid hn
  unfold envV
  clear hV hvl hT hP hb0 hb1 hW0 hI hn
  go_enter Tryz.func7, Tryz.ntmps7
  go_wp2_with fail
  rw [← HW0.out]
  refine HLV.out.mono ?_
  clear HLV HW0
  rintro e w1 ⟨b, rfl, hb, hb1⟩
  have HB1 := Lib.hid hb1
  clear hb1
  obtain ⟨q0, q1, q2, q3, q4, q5, q6, q7⟩ := HS.out w1 HB1.out
  cases b
  case true =>
    clear hb
    go_wp2_with fail
    refine (HA.out w1 HB1.out).mono ?_
    rintro e w99 ⟨rfl, hb9⟩
    have HB9 := Lib.hid (HB1.out.trans (hb9.mono HB1.out.size))
    clear hb9
    go_wp2
    go_ret
    exact ⟨rfl, HBT.out _ HB9.out⟩
  have HVZ := Lib.hid (hb rfl).1
  clear hb
  go_wp2_with fail
  refine (HLG.out w1 HB1.out).mono ?_
  clear HLG q0 q1 q2 q3 q4 q5 q6 q7
  rintro e w2 ⟨b, rfl, hb, hb2⟩
  have HB2 := Lib.hid (HB1.out.trans (hb2.mono HB1.out.size))
  clear hb2
  obtain ⟨q0, q1, q2, q3, q4, q5, q6, q7⟩ := HS.out w2 HB2.out
  cases b
  case true =>
    clear hb
    go_wp2_with fail
    refine (HA.out w2 HB2.out).mono ?_
    rintro e w99 ⟨rfl, hb9⟩
    have HB9 := Lib.hid (HB2.out.trans (hb9.mono HB2.out.size))
    clear hb9
    go_wp2
    go_ret
    exact ⟨rfl, HBT.out _ HB9.out⟩
  have HNL := Lib.hid (hb rfl)
  clear hb
  by_cases z0 : l.length = 0
  case pos =>
    have y0 : ((l.length : Int) == 0) = true := by rw [z0]; rfl
    go_wp2_with fail
    refine (HA.out w2 HB2.out).mono ?_
    rintro e w99 ⟨rfl, hb9⟩
    have HB9 := Lib.hid (HB2.out.trans (hb9.mono HB2.out.size))
    clear hb9
    go_wp2
    go_ret
    exact ⟨rfl, HBT.out _ HB9.out⟩
  have y0 : ((l.length : Int) == 0) = false := by simp only [beq_eq_false_iff_ne]; omega
  by_cases z1 : ids.length = 0
  case pos =>
    have y1 : ((ids.length : Int) == 0) = true := by rw [z1]; rfl
    go_wp2_with fail
    refine (HA.out w2 HB2.out).mono ?_
    rintro e w99 ⟨rfl, hb9⟩
    have HB9 := Lib.hid (HB2.out.trans (hb9.mono HB2.out.size))
    clear hb9
    go_wp2
    go_ret
    exact ⟨rfl, HBT.out _ HB9.out⟩
  have y1 : ((ids.length : Int) == 0) = false := by simp only [beq_eq_false_iff_ne]; omega
  go_wp2_with fail
  refine (HA.out w2 HB2.out).mono ?_
  rintro e w3 ⟨rfl, hb3⟩
  have HB3 := Lib.hid (HB2.out.trans (hb3.mono HB2.out.size))
  clear hb3 q0 q1 q2 q3 q4 q5 q6 q7 HA HB1 HB2
  have HLF := Lib.hid (lawVerifier hm vl va vc w3 (HV.out w3 HB3.out) HVZ.out)
  obtain ⟨v, hv⟩ : ∃ v, v = verOf hm vl := ⟨_, rfl⟩
  rw [← hv] at HLF
  clear hv
  go_wp2_with fail
  refine HLF.out.mono ?_
  clear HLF
  rintro e w5 ⟨x, rfl, hx, hb5⟩
  have HB5 := Lib.hid (HB3.out.trans (hb5.mono HB3.out.size))
  have HXV := Lib.hid (show ∀ w' : World, Below w5.heap.size w5 w' → VerIs w' x v from fun w' h => hx.below h)
  have HB50 := Lib.hid (show ∀ w' : World, Below w5.heap.size w5 w' → Below W0.heap.size W0 w' from fun w' h => HB5.out.trans (h.mono HB5.out.size))
  clear hb5 hx HV HVZ HB3
  obtain ⟨q0, q1, q2, q3, q4, q5, q6, q7⟩ := HS.out w5 HB5.out
  have hzX : w.heap.size + 2 ≤ w5.heap.size := by have := HB5.out.size; have := HZ0.out; omega
  go_upto_region 4 with fail
  go_cut [16, 17] (fun s16 s17 wx => ∃ Y A, s16 = .pointer (some ⟨Y, 0, none⟩) ∧ s17 = .pointer (some ⟨A, 0, none⟩) ∧ w5.heap.size ≤ Y ∧ w5.heap.size ≤ A ∧ Y ≠ A ∧ wx.heap[Y]? = some (.cells #[.int .u8 u.kind, .int .i64 u.n, .string u.t, .slice an u.names.length cn, .slice ai u.items.length ci, .slice sa l.length sc] 47 (0, 0)) ∧ wx.heap[A]? = some (.cells #[.int .i64 t, .slice ia ids.length ic] 49 (0, 0)) ∧ Below w5.heap.size w5 wx)
  case first =>
    obtain ⟨V, hV⟩ : ∃ V : List (Option Value), V = [some (.agg #[.int .u8 u.kind, .int .i64 u.n, .string u.t, .slice an u.names.length cn, .slice ai u.items.length ci, .slice sa l.length sc]), some (.agg #[.int .i64 t, .slice ia ids.length ic]), none, none, none] := ⟨_, rfl⟩
    have HV := Lib.hid hV
    clear hV
    refine wp_region_inv 5 (fun d a' w' => ∃ x48 x49 x16 x17, a' = ⟨#[Value.bool hm, Value.slice va vl.length vc, Value.agg #[Value.int IntKind.u8 u.kind, Value.int IntKind.i64 u.n, Value.string u.t, Value.slice an u.names.length cn, Value.slice ai u.items.length ci, Value.slice sa l.length sc], Value.agg #[Value.int IntKind.i64 t, Value.slice ia ids.length ic], Value.slice ka keys.length kc, Value.int IntKind.i64 by_, Value.int IntKind.i64 ag, undef, undef, Value.pointer (some { block := w.heap.size, off := 0 }), Value.pointer (some { block := w.heap.size + 1, off := 0 }), undef, undef, undef, Value.bool false, x, x16, x17, undef, undef, Value.slice va vl.length vc, Value.bool false, Value.bool false, Value.agg #[Value.int IntKind.u8 u.kind, Value.int IntKind.i64 u.n, Value.string u.t, Value.slice an u.names.length cn, Value.slice ai u.items.length ci, Value.slice sa l.length sc], Value.agg #[Value.int IntKind.i64 t, Value.slice ia ids.length ic], Value.slice ka keys.length kc, Value.bool false, Value.bool false, Value.bool false, Value.pointer (some { block := w.heap.size, off := 5 }), Value.slice sa l.length sc, Value.int IntKind.i64 (l.length : Int), Value.bool false, Value.bool false, Value.bool false, Value.pointer (some { block := w.heap.size + 1, off := 1 }), Value.slice ia ids.length ic, Value.int IntKind.i64 (ids.length : Int), Value.bool false, Value.bool false, Value.bool false, Value.bool true, Value.bool false, Value.bool false, undef, Value.bool hm, Value.slice va vl.length vc, x, x48, x49, undef, undef, undef, undef, undef, undef, undef, undef, undef, undef, undef, undef, undef, undef, undef, undef, undef, undef, undef, undef, undef, undef, undef, undef, undef, undef, undef, undef, undef, undef, undef, undef, undef, undef, undef, undef, undef, undef, undef, undef, undef, undef, undef, undef, undef, undef, undef, undef, undef, undef, undef, undef, undef, undef, undef, undef, undef, undef, undef, undef, undef, undef, undef, undef, undef, undef, undef, undef, undef, undef, undef, undef, undef, undef, undef, undef, undef, undef, undef, undef, undef, undef, undef, undef, undef, undef, undef, undef, undef, undef, undef, undef, undef, undef, undef, undef, undef, undef, undef, undef, undef, undef, undef, undef, undef, undef, undef, undef, undef, undef, undef, undef, undef, undef], []⟩ ∧ ConI w5 V d w' [x48, x49, x16, x17, undef] ∧ Pair2 w5.heap.size 47 49 #[.int .u8 0, .int .i64 0, .string { data := #[] }, .slice none 0 0, .slice none 0 0, .slice none 0 0] #[.int .u8 u.kind, .int .i64 u.n, .string u.t, .slice an u.names.length cn, .slice ai u.items.length ci, .slice sa l.length sc] #[.int .i64 0, .slice none 0 0] d w' x16 x17) (by kernel_rfl) (by kernel_rfl) ?first ?step ?last
    case first => exact ⟨_, _, _, _, rfl, ConI.first _ _ _ (by rw [HV.out]; rfl), Pair2.first _ _ _⟩
    case step =>
      rintro d a' w' ⟨x48, x49, x16, x17, rfl, h, hc⟩ q hq hn hw
      rcases q with _ | _ | _ | _ | _ | q
      · obtain ⟨q0, q1, q2, q3, q4, q5, q6, q7⟩ := HS.out w' (HB50.out w' h.1)
        refine wpOp_step rfl fun K hK => ?_
        go_simp
        exact hK _ _ ⟨_, x49, x16, x17, rfl, h.same 0 _ (.agg #[.int .u8 u.kind, .int .i64 u.n, .string u.t, .slice an u.names.length cn, .slice ai u.items.length ci, .slice sa l.length sc]) (by rw [HV.out]; rfl) rfl, hc.same 0 (by decide) (by decide) (by decide)⟩
      · obtain ⟨q0, q1, q2, q3, q4, q5, q6, q7⟩ := HS.out w' (HB50.out w' h.1)
        refine wpOp_step rfl fun K hK => ?_
        go_simp
        exact hK _ _ ⟨x48, _, x16, x17, rfl, h.same 1 _ (.agg #[.int .i64 t, .slice ia ids.length ic]) (by rw [HV.out]; rfl) rfl, hc.same 1 (by decide) (by decide) (by decide)⟩
      · refine wpOp_step rfl fun K hK => ?_
        go_simp
        exact hK _ _ ⟨x48, x49, _, x17, rfl, h.did (h.1.alloc h.1.size _) 2 _ none (by rw [HV.out]; rfl) (fun v e => by cases e), hc.s2 h.1.size hn⟩
      · refine wpOp_step rfl fun K hK => ?_
        go_simp
        exact hK _ _ ⟨x48, x49, x16, _, rfl, h.did (h.1.alloc h.1.size _) 3 _ none (by rw [HV.out]; rfl) (fun v e => by cases e), hc.s3 h.1.size (fun h4 => hn (hc.b0 h4))⟩
      · have d2 : d 2 := hw _ rfl ⟨2, .data⟩ (by simp) rfl
        have d3 : d 3 := hw _ rfl ⟨3, .phase⟩ (by simp) rfl
        obtain rfl : x48 = .agg #[.int .u8 u.kind, .int .i64 u.n, .string u.t, .slice an u.names.length cn, .slice ai u.items.length ci, .slice sa l.length sc] := h.get 0 (hw _ rfl ⟨0, .data⟩ (by simp) rfl) (.agg #[.int .u8 u.kind, .int .i64 u.n, .string u.t, .slice an u.names.length cn, .slice ai u.items.length ci, .slice sa l.length sc]) (by rw [HV.out]; rfl) _ rfl
        obtain ⟨b, hb1, rfl, hb2, _⟩ := hc.a1 d2
        refine wpOp_step rfl fun K hK => ?_
        refine step_store_row rfl 47 (.tmp 16) (.tmp 48) rfl b #[.int .u8 u.kind, .int .i64 u.n, .string u.t, .slice an u.names.length cn, .slice ai u.items.length ci, .slice sa l.length sc] rfl rfl 47 _ (hb2 hn) (by kernel_rfl) rfl (by simp [Value.oneCell']) ?_
        exact hK _ _ ⟨_, x49, _, x17, rfl, h.did (below_setRowN h.1 hb1 _) 4 _ none (by rw [HV.out]; rfl) (fun v e => by cases e), hc.s4 (by decide) d2 d3 hb1 rfl (hb2 hn)⟩
      · omega
    case last =>
      rintro d a' w' hall ⟨x48, x49, x16, x17, rfl, h, hc⟩
      obtain rfl : x49 = .agg #[.int .i64 t, .slice ia ids.length ic] := h.get 1 (hall _ (by omega)) (.agg #[.int .i64 t, .slice ia ids.length ic]) (by rw [HV.out]; rfl) _ rfl
      obtain ⟨b16, k16, rfl, _, m16⟩ := hc.a1 (hall _ (by omega))
      replace m16 := m16 (hall _ (by omega))
      obtain ⟨b17, k17, rfl, m17⟩ := hc.a2 (hall _ (by omega))
      have HLE := Lib.hid h.1
      clear h hc hall HV
      have hne : b16 ≠ b17 := fun e => by rw [e, m17] at m16; cases m16
      have hls : b16 < w'.heap.size := heap_lt m16
      have hla : b17 < w'.heap.size := heap_lt m17
      obtain ⟨wT, hwT⟩ : ∃ wT, wT = w'.setRow b17 #[.int .i64 t, .slice ia ids.length ic] := ⟨_, rfl⟩
      have t16 : wT.heap[b16]? = some (.cells #[.int .u8 u.kind, .int .i64 u.n, .string u.t, .slice an u.names.length cn, .slice ai u.items.length ci, .slice sa l.length sc] 47 (0, 0)) := by rw [hwT]; simp [World.setRow, Array.getElem?_modify, Ne.symm hne, m16]
      have t17 : wT.heap[b17]? = some (.cells #[.int .i64 t, .slice ia ids.length ic] 49 (0, 0)) := by rw [hwT]; simp [World.setRow, Array.getElem?_modify, m17]
      have HBT1 := Lib.hid (show Below w5.heap.size w5 wT by rw [hwT]; exact below_setRowN HLE.out k17 _)
      refine _root_.Go.wpList_store_row rfl 49 (.tmp 17) (.tmp 49) rfl b17 #[.int .i64 t, .slice ia ids.length ic] rfl rfl 49 _ m17 (by kernel_rfl) rfl (by simp [Value.oneCell']) ?_
      rw [← hwT]
      have HT16 := Lib.hid t16
      have HT17 := Lib.hid t17
      clear t16 t17 hwT m16 m17
      go_wp2_with fail
      go_meet
      exact ⟨b16, b17, rfl, rfl, k16, k17, hne, HT16.out, HT17.out, HBT1.out⟩
  case rest =>
    obtain ⟨Y, A, rfl, rfl, hY, hA, hne, yx, ax, hbc⟩ := hcut
    have c5 : wc.cell? ⟨Y, 5, none⟩ = some (.slice sa l.length sc) := box_cell yx rfl
    have f5 : wc.frozen? ⟨Y, 5, none⟩ = false := by simp only [World.frozen?, yx]; simp
    obtain ⟨wP, hwP⟩ : ∃ wP, wP = wc.setCell ⟨Y, 5, none⟩ (.slice none 0 0) := ⟨_, rfl⟩
    have px : wP.heap[A]? = some (.cells #[.int .i64 t, .slice ia ids.length ic] 49 (0, 0)) := by rw [hwP, Below.heap_setCell _ _ _ A (Ne.symm hne)]; exact ax
    have py : wP.heap[Y]? = some (.cells #[.int .u8 u.kind, .int .i64 u.n, .string u.t, .slice an u.names.length cn, .slice ai u.items.length ci, .slice none 0 0] 47 (0, 0)) := by rw [hwP]; simp [World.setCell, Array.getElem?_modify, yx]
    obtain ⟨wR, hwR⟩ : ∃ wR, wR = wP.setCell ⟨A, 1, none⟩ (.slice none 0 0) := ⟨_, rfl⟩
    have rx : wR.heap[A]? = some (.cells #[.int .i64 t, .slice none 0 0] 49 (0, 0)) := by rw [hwR]; simp [World.setCell, Array.getElem?_modify, px]
    have ry : wR.heap[Y]? = some (.cells #[.int .u8 u.kind, .int .i64 u.n, .string u.t, .slice an u.names.length cn, .slice ai u.items.length ci, .slice none 0 0] 47 (0, 0)) := by rw [hwR, Below.heap_setCell _ _ _ Y hne]; exact py
    have hbr : Below w5.heap.size w5 wR := by rw [hwR, hwP]; exact (hbc.setCell hY _).setCell hA _
    obtain ⟨H, hH⟩ : ∃ H, H = wR.heap.size := ⟨_, rfl⟩
    have HRW := Lib.hid (show RW w5 H Y A u an ai cn ci t wR [] [] (.slice none 0 0) (.slice none 0 0) from ⟨hbr, ⟨hY, hA, by rw [hH]; exact heap_lt ry, by rw [hH]; exact heap_lt rx, hne⟩, ry, rx, by rw [hH]; exact Nat.le_refl _, ⟨rfl, .inl ⟨rfl, rfl⟩⟩, ⟨rfl, .inl ⟨rfl, rfl⟩⟩, fun b hb => by cases hb⟩)
    have d1 : wP.cell? ⟨A, 1, none⟩ = some (.slice ia ids.length ic) := box_cell px rfl
    have g1 : wP.frozen? ⟨A, 1, none⟩ = false := by simp only [World.frozen?, px]; simp
    rw [hwP] at d1 g1
    have HWR := Lib.hid (hwR.trans (congrArg (fun z => z.setCell ⟨A, 1, none⟩ (.slice none 0 0)) hwP))
    clear hwR hwP px py rx ry hbr yx ax hH hbc q0 q1 q2 q3 q4 q5 q6 q7
    go_upto_region 6 with fail
    rw [← HWR.out]
    clear HWR c5 f5 d1 g1
    have hll : l.length ≤ 40 := HNL.out.len
    have hil : ids.length ≤ 500 := HNL.out.idlen
    have hnz : ¬ ((l.length : Int) = 0) := by omega
    have hul : IntKind.u64.wrap (l.length : Int) = (l.length : Int) := u64_len _ (by omega)
    obtain ⟨qq, hqq, htq, htw⟩ := at_index2 by_ l.length (by omega) (by omega)
    have HRQ := Lib.hid HRW.out
    clear HRW
    go_wp2_with fail
    go_loopw [18] (fun i wr => ∃ (k : Nat) (vy : Value), k ≤ l.length ∧ i = .int .i64 k ∧ RW w5 H Y A u an ai cn ci t wr ((turned qq l).take k) [] vy (.slice none 0 0)) (fun i _ => l.length - (intOf i).toNat)
    case atStart => exact ⟨0, _, Nat.zero_le _, rfl, HRQ.out⟩
    case round =>
      obtain ⟨k, vy, hk, rfl, hrw⟩ := hrel
      have HR := Lib.hid hrw
      have HBR := Lib.hid (HB50.out wr hrw.below)
      clear hrw
      obtain ⟨P, hP⟩ : ∃ P, P = (turned qq l).take k := ⟨_, rfl⟩
      have hPl : P.length = k := by rw [hP, List.length_take, turned_length]; omega
      rw [← hP] at HR
      have HPL := Lib.hid hPl
      have HPP := Lib.hid hP
      obtain ⟨sy, cy, _, _, evy, -, -, -⟩ := HR.out.slices
      rw [hPl] at evy
      subst evy
      clear hPl hP
      obtain ⟨q0, q1, q2, q3, q4, q5, q6, q7⟩ := HS.out wr HBR.out
      by_cases hlt : k < l.length
      · obtain ⟨j, hj⟩ : ∃ j, j = (qq + k) % l.length := ⟨_, rfl⟩
        have hjl : j < l.length := by rw [hj]; exact Nat.mod_lt _ (by omega)
        obtain ⟨s, hs⟩ : ∃ s, s = qq + k := ⟨_, rfl⟩
        have hqs : (qq : Int) + (k : Int) = (s : Int) := by omega
        have hsj : (s : Int).tmod (l.length : Int) = (j : Int) := by rw [hj, ← hs]; exact (Int.ofNat_tmod _ _).symm
        have hsl : s ≤ 80 := by omega
        have hsw : IntKind.i64.wrap (s : Int) = (s : Int) := IntWalk.i64_in _ (by omega)
        obtain ⟨b, off, ha, _, hb, e0, e1⟩ := (HI.out wr HBR.out).sigs.at j hjl
        subst ha
        obtain ⟨p, hp⟩ : ∃ p, p = l[j] := ⟨_, rfl⟩
        rw [← hp] at e0 e1
        have HTK := Lib.hid (show (turned qq l).take (k + 1) = P ++ [p] by rw [HPP.out]; exact take_turned hqq hlt (by rw [← hj, hp]; exact List.getElem?_eq_getElem hjl))
        clear hp hj hs
        obtain ⟨s0, s1⟩ := p
        have HC := Lib.hid (show ∀ w' : World, Below wr.heap.size wr w' → w'.cell? ⟨w.heap.size, 5, none⟩ = some (.slice (some ⟨b, off, none⟩) l.length sc) ∧ w'.cell? ⟨b, off + j * 2, none⟩ = some (.string s0) ∧ w'.cell? ⟨b, off + j * 2 + 1, none⟩ = some (.string s1) ∧ w'.cell? ⟨Y, 5, none⟩ = some (.slice sy k cy) from fun w' h =>
          ⟨(HS.out w' (HBR.out.trans (h.mono HBR.out.size))).2.2.2.2.2.1, (World.cell?_of_block (w := wr) (h.block b hb)).trans e0, (World.cell?_of_block (w := wr) (h.block b hb)).trans e1, (HR.out.carry h).cells.2.2.2.2.2.1⟩)
        have m1 : (0 : Int) ≤ (j : Int) := by omega
        have m2 : (j : Int) < (l.length : Int) := by omega
        clear e0 e1 hb q0 q1 q2 q3 q4 q5 q6 q7
        obtain ⟨q5, e0, e1, y5⟩ := HC.out wr (Below.refl _ _)
        go_wp2_with fail
        clear q5 e0 e1 y5
        obtain ⟨V, hV⟩ : ∃ V : List MP, V = [.con (.pointer (some ⟨Y, 5, none⟩)), .con (.slice sy k cy), .con (.pointer (some ⟨w.heap.size, 5, none⟩)), .con (.slice (some ⟨b, off, none⟩) l.length sc), .con (.int .i64 by_), .con (.int .u64 (IntKind.u64.wrap by_)), .con (.pointer (some ⟨w.heap.size, 5, none⟩)), .con (.slice (some ⟨b, off, none⟩) l.length sc), .con (.int .i64 (l.length : Int)), .con (.int .u64 (l.length : Int)), .con (.int .u64 ((IntKind.u64.wrap by_).tmod (l.length : Int))), .con (.int .i64 (qq : Int)), .con (.int .i64 (k : Int)), .con (.int .i64 (s : Int)), .con (.pointer (some ⟨w.heap.size, 5, none⟩)), .con (.slice (some ⟨b, off, none⟩) l.length sc), .con (.int .i64 (l.length : Int)), .con (.int .i64 (j : Int)), .con (.pointer (some ⟨b, off + j * 2, none⟩)), .con (.agg #[.string s0, .string s1]), .row wr.heap.size 1 26 #[.string s0, .string s1]] := ⟨_, rfl⟩
        have HV := Lib.hid hV
        clear hV
        refine wp_region_inv 21 (fun d a' w' => ∃ x59 x60 x61 x62 x63 x64 x65 x66 x67 x68 x69 x70 x71 x72 x73 x74 x75 x76 x77 x78 x79, a' = ⟨#[Value.bool hm, Value.slice va vl.length vc, Value.agg #[Value.int IntKind.u8 u.kind, Value.int IntKind.i64 u.n, Value.string u.t, Value.slice an u.names.length cn, Value.slice ai u.items.length ci, Value.slice (some { block := b, off := off }) l.length sc], Value.agg #[Value.int IntKind.i64 t, Value.slice ia ids.length ic], Value.slice ka keys.length kc, Value.int IntKind.i64 by_, Value.int IntKind.i64 ag, undef, undef, Value.pointer (some { block := w.heap.size, off := 0 }), Value.pointer (some { block := w.heap.size + 1, off := 0 }), undef, undef, undef, Value.bool false, x, Value.pointer (some { block := Y, off := 0 }), Value.pointer (some { block := A, off := 0 }), Value.int IntKind.i64 (k : Int), undef, u20, u21, u22, u23, u24, u25, u26, u27, u28, u29, u30, u31, u32, u33, u34, u35, u36, u37, u38, u39, u40, u41, u42, u43, u44, u45, u46, u47, u48, u49, Value.pointer (some { block := Y, off := 5 }), Value.pointer (some { block := A, off := 1 }), Value.int IntKind.i64 (k : Int), Value.pointer (some { block := w.heap.size, off := 5 }), Value.slice (some { block := b, off := off }) l.length sc, Value.int IntKind.i64 (l.length : Int), Value.bool true, u57, u58, x59, x60, x61, x62, x63, x64, x65, x66, x67, x68, x69, x70, x71, x72, x73, x74, x75, x76, x77, x78, x79, u80, u81, u82, u83, u84, u85, u86, u87, u88, u89, u90, u91, u92, u93, u94, u95, u96, u97, u98, u99, u100, u101, u102, u103, u104, u105, u106, u107, u108, u109, u110, u111, u112, u113, u114, u115, u116, u117, u118, u119, u120, u121, u122, u123, u124, u125, u126, u127, u128, u129, u130, u131, u132, u133, u134, u135, u136, u137, u138, u139, u140, u141, u142, u143, u144, u145, u146, u147, u148, u149, u150, u151, u152, u153, u154, u155, u156, u157, u158, u159, u160, u161, u162, u163], []⟩ ∧ RegI wr V d w' [x59, x60, x61, x62, x63, x64, x65, x66, x67, x68, x69, x70, x71, x72, x73, x74, x75, x76, x77, x78, x79]) (by kernel_rfl) (by kernel_rfl) ?first ?step ?last
        case first => exact ⟨_, _, _, _, _, _, _, _, _, _, _, _, _, _, _, _, _, _, _, _, _, rfl, RegI.first _ _ _ (by rw [HV.out]; rfl)⟩
        case step =>
          rintro d a' w' ⟨x59, x60, x61, x62, x63, x64, x65, x66, x67, x68, x69, x70, x71, x72, x73, x74, x75, x76, x77, x78, x79, rfl, h⟩ q hq hn hw
          rcases q with _ | _ | _ | _ | _ | _ | _ | _ | _ | _ | _ | _ | _ | _ | _ | _ | _ | _ | _ | _ | _ | q
          · refine wpOp_step rfl fun K hK => ?_
            go_simp
            exact hK _ _ ⟨_, x60, x61, x62, x63, x64, x65, x66, x67, x68, x69, x70, x71, x72, x73, x74, x75, x76, x77, x78, x79, rfl, h.same 0 _ (.con (.pointer (some ⟨Y, 5, none⟩))) (by rw [HV.out]; rfl) rfl⟩
          · obtain rfl : x59 = .pointer (some ⟨Y, 5, none⟩) := h.get 0 (hw _ rfl ⟨0, .data⟩ (by simp) rfl) (.con (.pointer (some ⟨Y, 5, none⟩))) (by rw [HV.out]; rfl) _ rfl
            obtain ⟨q5, e0, e1, y5⟩ := HC.out w' h.1
            refine wpOp_step rfl fun K hK => ?_
            go_simp
            exact hK _ _ ⟨_, _, x61, x62, x63, x64, x65, x66, x67, x68, x69, x70, x71, x72, x73, x74, x75, x76, x77, x78, x79, rfl, h.same 1 _ (.con (.slice sy k cy)) (by rw [HV.out]; rfl) rfl⟩
          · refine wpOp_step rfl fun K hK => ?_
            go_simp
            exact hK _ _ ⟨x59, x60, _, x62, x63, x64, x65, x66, x67, x68, x69, x70, x71, x72, x73, x74, x75, x76, x77, x78, x79, rfl, h.same 2 _ (.con (.pointer (some ⟨w.heap.size, 5, none⟩))) (by rw [HV.out]; rfl) rfl⟩
          · obtain rfl : x61 = .pointer (some ⟨w.heap.size, 5, none⟩) := h.get 2 (hw _ rfl ⟨2, .data⟩ (by simp) rfl) (.con (.pointer (some ⟨w.heap.size, 5, none⟩))) (by rw [HV.out]; rfl) _ rfl
            obtain ⟨q5, e0, e1, y5⟩ := HC.out w' h.1
            refine wpOp_step rfl fun K hK => ?_
            go_simp
            exact hK _ _ ⟨x59, x60, _, _, x63, x64, x65, x66, x67, x68, x69, x70, x71, x72, x73, x74, x75, x76, x77, x78, x79, rfl, h.same 3 _ (.con (.slice (some ⟨b, off, none⟩) l.length sc)) (by rw [HV.out]; rfl) rfl⟩
          · refine wpOp_step rfl fun K hK => ?_
            go_simp
            exact hK _ _ ⟨x59, x60, x61, x62, _, x64, x65, x66, x67, x68, x69, x70, x71, x72, x73, x74, x75, x76, x77, x78, x79, rfl, h.same 4 _ (.con (.int .i64 by_)) (by rw [HV.out]; rfl) rfl⟩
          · obtain rfl : x63 = .int .i64 by_ := h.get 4 (hw _ rfl ⟨4, .data⟩ (by simp) rfl) (.con (.int .i64 by_)) (by rw [HV.out]; rfl) _ rfl
            refine wpOp_step rfl fun K hK => ?_
            go_simp
            exact hK _ _ ⟨x59, x60, x61, x62, _, _, x65, x66, x67, x68, x69, x70, x71, x72, x73, x74, x75, x76, x77, x78, x79, rfl, h.same 5 _ (.con (.int .u64 (IntKind.u64.wrap by_))) (by rw [HV.out]; rfl) rfl⟩
          · refine wpOp_step rfl fun K hK => ?_
            go_simp
            exact hK _ _ ⟨x59, x60, x61, x62, x63, x64, _, x66, x67, x68, x69, x70, x71, x72, x73, x74, x75, x76, x77, x78, x79, rfl, h.same 6 _ (.con (.pointer (some ⟨w.heap.size, 5, none⟩))) (by rw [HV.out]; rfl) rfl⟩
          · obtain rfl : x65 = .pointer (some ⟨w.heap.size, 5, none⟩) := h.get 6 (hw _ rfl ⟨6, .data⟩ (by simp) rfl) (.con (.pointer (some ⟨w.heap.size, 5, none⟩))) (by rw [HV.out]; rfl) _ rfl
            obtain ⟨q5, e0, e1, y5⟩ := HC.out w' h.1
            refine wpOp_step rfl fun K hK => ?_
            go_simp
            exact hK _ _ ⟨x59, x60, x61, x62, x63, x64, _, _, x67, x68, x69, x70, x71, x72, x73, x74, x75, x76, x77, x78, x79, rfl, h.same 7 _ (.con (.slice (some ⟨b, off, none⟩) l.length sc)) (by rw [HV.out]; rfl) rfl⟩
          · obtain rfl : x66 = .slice (some ⟨b, off, none⟩) l.length sc := h.get 7 (hw _ rfl ⟨7, .data⟩ (by simp) rfl) (.con (.slice (some ⟨b, off, none⟩) l.length sc)) (by rw [HV.out]; rfl) _ rfl
            refine wpOp_step rfl fun K hK => ?_
            go_simp
            exact hK _ _ ⟨x59, x60, x61, x62, x63, x64, x65, _, _, x68, x69, x70, x71, x72, x73, x74, x75, x76, x77, x78, x79, rfl, h.same 8 _ (.con (.int .i64 (l.length : Int))) (by rw [HV.out]; rfl) rfl⟩
          · obtain rfl : x67 = .int .i64 (l.length : Int) := h.get 8 (hw _ rfl ⟨8, .data⟩ (by simp) rfl) (.con (.int .i64 (l.length : Int))) (by rw [HV.out]; rfl) _ rfl
            refine wpOp_step rfl fun K hK => ?_
            go_simp
            exact hK _ _ ⟨x59, x60, x61, x62, x63, x64, x65, x66, _, _, x69, x70, x71, x72, x73, x74, x75, x76, x77, x78, x79, rfl, h.same 9 _ (.con (.int .u64 (l.length : Int))) (by rw [HV.out]; rfl) rfl⟩
          · obtain rfl : x64 = .int .u64 (IntKind.u64.wrap by_) := h.get 5 (hw _ rfl ⟨5, .data⟩ (by simp) rfl) (.con (.int .u64 (IntKind.u64.wrap by_))) (by rw [HV.out]; rfl) _ rfl
            obtain rfl : x68 = .int .u64 (l.length : Int) := h.get 9 (hw _ rfl ⟨9, .data⟩ (by simp) rfl) (.con (.int .u64 (l.length : Int))) (by rw [HV.out]; rfl) _ rfl
            refine wpOp_step rfl fun K hK => ?_
            go_simp
            exact hK _ _ ⟨x59, x60, x61, x62, x63, _, x65, x66, x67, _, _, x70, x71, x72, x73, x74, x75, x76, x77, x78, x79, rfl, h.same 10 _ (.con (.int .u64 ((IntKind.u64.wrap by_).tmod (l.length : Int)))) (by rw [HV.out]; rfl) rfl⟩
          · obtain rfl : x69 = .int .u64 ((IntKind.u64.wrap by_).tmod (l.length : Int)) := h.get 10 (hw _ rfl ⟨10, .data⟩ (by simp) rfl) (.con (.int .u64 ((IntKind.u64.wrap by_).tmod (l.length : Int)))) (by rw [HV.out]; rfl) _ rfl
            refine wpOp_step rfl fun K hK => ?_
            go_simp
            exact hK _ _ ⟨x59, x60, x61, x62, x63, x64, x65, x66, x67, x68, _, _, x71, x72, x73, x74, x75, x76, x77, x78, x79, rfl, h.same 11 _ (.con (.int .i64 (qq : Int))) (by rw [HV.out]; rfl) rfl⟩
          · refine wpOp_step rfl fun K hK => ?_
            go_simp
            exact hK _ _ ⟨x59, x60, x61, x62, x63, x64, x65, x66, x67, x68, x69, x70, _, x72, x73, x74, x75, x76, x77, x78, x79, rfl, h.same 12 _ (.con (.int .i64 (k : Int))) (by rw [HV.out]; rfl) rfl⟩
          · obtain rfl : x70 = .int .i64 (qq : Int) := h.get 11 (hw _ rfl ⟨11, .data⟩ (by simp) rfl) (.con (.int .i64 (qq : Int))) (by rw [HV.out]; rfl) _ rfl
            obtain rfl : x71 = .int .i64 (k : Int) := h.get 12 (hw _ rfl ⟨12, .data⟩ (by simp) rfl) (.con (.int .i64 (k : Int))) (by rw [HV.out]; rfl) _ rfl
            refine wpOp_step rfl fun K hK => ?_
            go_simp
            exact hK _ _ ⟨x59, x60, x61, x62, x63, x64, x65, x66, x67, x68, x69, _, _, _, x73, x74, x75, x76, x77, x78, x79, rfl, h.same 13 _ (.con (.int .i64 (s : Int))) (by rw [HV.out]; rfl) rfl⟩
          · refine wpOp_step rfl fun K hK => ?_
            go_simp
            exact hK _ _ ⟨x59, x60, x61, x62, x63, x64, x65, x66, x67, x68, x69, x70, x71, x72, _, x74, x75, x76, x77, x78, x79, rfl, h.same 14 _ (.con (.pointer (some ⟨w.heap.size, 5, none⟩))) (by rw [HV.out]; rfl) rfl⟩
          · obtain rfl : x73 = .pointer (some ⟨w.heap.size, 5, none⟩) := h.get 14 (hw _ rfl ⟨14, .data⟩ (by simp) rfl) (.con (.pointer (some ⟨w.heap.size, 5, none⟩))) (by rw [HV.out]; rfl) _ rfl
            obtain ⟨q5, e0, e1, y5⟩ := HC.out w' h.1
            refine wpOp_step rfl fun K hK => ?_
            go_simp
            exact hK _ _ ⟨x59, x60, x61, x62, x63, x64, x65, x66, x67, x68, x69, x70, x71, x72, _, _, x75, x76, x77, x78, x79, rfl, h.same 15 _ (.con (.slice (some ⟨b, off, none⟩) l.length sc)) (by rw [HV.out]; rfl) rfl⟩
          · obtain rfl : x74 = .slice (some ⟨b, off, none⟩) l.length sc := h.get 15 (hw _ rfl ⟨15, .data⟩ (by simp) rfl) (.con (.slice (some ⟨b, off, none⟩) l.length sc)) (by rw [HV.out]; rfl) _ rfl
            refine wpOp_step rfl fun K hK => ?_
            go_simp
            exact hK _ _ ⟨x59, x60, x61, x62, x63, x64, x65, x66, x67, x68, x69, x70, x71, x72, x73, _, _, x76, x77, x78, x79, rfl, h.same 16 _ (.con (.int .i64 (l.length : Int))) (by rw [HV.out]; rfl) rfl⟩
          · obtain rfl : x72 = .int .i64 (s : Int) := h.get 13 (hw _ rfl ⟨13, .data⟩ (by simp) rfl) (.con (.int .i64 (s : Int))) (by rw [HV.out]; rfl) _ rfl
            obtain rfl : x75 = .int .i64 (l.length : Int) := h.get 16 (hw _ rfl ⟨16, .data⟩ (by simp) rfl) (.con (.int .i64 (l.length : Int))) (by rw [HV.out]; rfl) _ rfl
            refine wpOp_step rfl fun K hK => ?_
            go_simp
            exact hK _ _ ⟨x59, x60, x61, x62, x63, x64, x65, x66, x67, x68, x69, x70, x71, _, x73, x74, _, _, x77, x78, x79, rfl, h.same 17 _ (.con (.int .i64 (j : Int))) (by rw [HV.out]; rfl) rfl⟩
          · obtain rfl : x62 = .slice (some ⟨b, off, none⟩) l.length sc := h.get 3 (hw _ rfl ⟨3, .data⟩ (by simp) rfl) (.con (.slice (some ⟨b, off, none⟩) l.length sc)) (by rw [HV.out]; rfl) _ rfl
            obtain rfl : x76 = .int .i64 (j : Int) := h.get 17 (hw _ rfl ⟨17, .data⟩ (by simp) rfl) (.con (.int .i64 (j : Int))) (by rw [HV.out]; rfl) _ rfl
            obtain ⟨q5, e0, e1, y5⟩ := HC.out w' h.1
            refine wpOp_step rfl fun K hK => ?_
            go_simp
            exact hK _ _ ⟨x59, x60, x61, _, x63, x64, x65, x66, x67, x68, x69, x70, x71, x72, x73, x74, x75, _, _, x78, x79, rfl, h.same 18 _ (.con (.pointer (some ⟨b, off + j * 2, none⟩))) (by rw [HV.out]; rfl) rfl⟩
          · obtain rfl : x77 = .pointer (some ⟨b, off + j * 2, none⟩) := h.get 18 (hw _ rfl ⟨18, .data⟩ (by simp) rfl) (.con (.pointer (some ⟨b, off + j * 2, none⟩))) (by rw [HV.out]; rfl) _ rfl
            obtain ⟨q5, e0, e1, y5⟩ := HC.out w' h.1
            refine wpOp_step rfl fun K hK => ?_
            go_simp
            exact hK _ _ ⟨x59, x60, x61, x62, x63, x64, x65, x66, x67, x68, x69, x70, x71, x72, x73, x74, x75, x76, _, _, x79, rfl, h.same 19 _ (.con (.agg #[.string s0, .string s1])) (by rw [HV.out]; rfl) rfl⟩
          · obtain rfl : x78 = .agg #[.string s0, .string s1] := h.get 19 (hw _ rfl ⟨19, .data⟩ (by simp) rfl) (.con (.agg #[.string s0, .string s1])) (by rw [HV.out]; rfl) _ rfl
            refine wpOp_step rfl fun K hK => ?_
            go_simp
            exact hK _ _ ⟨x59, x60, x61, x62, x63, x64, x65, x66, x67, x68, x69, x70, x71, x72, x73, x74, x75, x76, x77, _, _, rfl, h.new _ 20 _ (.row wr.heap.size 1 26 #[.string s0, .string s1]) (by rw [HV.out]; rfl) (IsRow.made _ h.1.size)⟩
          · omega
        case last =>
          rintro d a' w' hall ⟨x59, x60, x61, x62, x63, x64, x65, x66, x67, x68, x69, x70, x71, x72, x73, x74, x75, x76, x77, x78, x79, rfl, h⟩
          have hle := h.1
          obtain rfl : x60 = .slice sy k cy := h.get 1 (hall _ (by omega)) (.con (.slice sy k cy)) (by rw [HV.out]; rfl) _ rfl
          obtain ⟨b79, k79, rfl, m79⟩ := h.get 20 (hall _ (by omega)) (.row wr.heap.size 1 26 #[.string s0, .string s1]) (by rw [HV.out]; rfl) _ rfl
          have HLE := Lib.hid hle
          clear h hall hle HV
          have HRC := Lib.hid (HR.out.carry HLE.out)
          have HW1 := Lib.hid (World.news_of_block m79)
          have HONE := Lib.hid (show ∀ u ∈ Array.toList #[Value.string s0, .string s1], u.oneCell' = true by simp [Value.oneCell'])
          have hown : w'.ownsRow H 26 2 (.slice sy k cy) k (P.flatMap encK) := by have h := HRC.out.ey; rwa [HPL.out] at h
          have hk1 : k + 1 ≤ maxLen := by unfold maxLen; omega
          have hk2 : (k + 1) * 32 ≤ 140737488355328 := by omega
          have hk3 : H ≤ w'.heap.size := HRC.out.size
          clear k79 m79
          refine wpList_append_lies _ rfl (.tmp 60) (.tmp 79) 45 rfl H 26 i1 _ 2 32 Tryz.underlying45 hi1 hy0 hy1 hy2 rfl (by decide) (.slice sy k cy) k (P.flatMap encK) rfl hown ⟨b79, 0, none⟩ 1 1 (Array.toList #[.string s0, .string s1]) rfl rfl HW1.out HONE.out (by decide) hk1 hk2 hk3 _ rfl ?_
          intro g gc w7 ho7 hg7 hat7 hlt7
          obtain ⟨y5, -, f5, -⟩ := HRC.out.grown (Below.refl _ _) hg7 (fun b hb => (hown.lt b hb).1)
          have hadd := HR.out.addY (p := (s0, s1)) (c := gc) HLE.out (by rw [HPL.out]; exact ho7) hg7 hat7
          rw [HPL.out] at hadd
          have HAD := Lib.hid hadd
          clear hadd ho7 hg7 hat7 hlt7 hk3 hown
          go_wp2
          go_roundw
          case rel => exact ⟨k + 1, _, by omega, by go_num, by rw [HTK.out]; exact HAD.out⟩
          case measure => simp [intOf]; omega
      · have hke : k = l.length := by omega
        subst hke
        have hPt : P = turned qq l := by rw [HPP.out, ← turned_length qq l, List.take_length]
        subst hPt
        clear hlt hk HPP HPL
        obtain ⟨wQ, rfl⟩ : ∃ wQ, wQ = wr := ⟨wr, rfl⟩
        have hnz2 : ¬ ((ids.length : Int) = 0) := by omega
        have hul2 : IntKind.u64.wrap (ids.length : Int) = (ids.length : Int) := u64_len _ (by omega)
        obtain ⟨qi, hqi, htq2, htw2⟩ := at_index2 by_ ids.length (by omega) (by omega)
        go_wp2_with fail
        clear q0 q1 q2 q3 q4 q5 q6 q7
        go_loopw [19] (fun i wr => ∃ (k : Nat) (vb : Value), k ≤ ids.length ∧ i = .int .i64 k ∧ RW w5 H Y A u an ai cn ci t wr (turned qq l) ((turned qi ids).take k) (.slice sy l.length cy) vb) (fun i _ => ids.length - (intOf i).toNat)
        case atStart => exact ⟨0, _, Nat.zero_le _, rfl, HR.out⟩
        case round =>
          clear HR HBR
          obtain ⟨k, vb, hk, rfl, hrw⟩ := hrel
          have HR := Lib.hid hrw
          have HBR := Lib.hid (HB50.out wr hrw.below)
          clear hrw
          obtain ⟨P, hP⟩ : ∃ P, P = (turned qi ids).take k := ⟨_, rfl⟩
          have hPl : P.length = k := by rw [hP, List.length_take, turned_length]; omega
          rw [← hP] at HR
          have HPL := Lib.hid hPl
          have HPP := Lib.hid hP
          obtain ⟨_, _, sb, cb, -, evb, -, -⟩ := HR.out.slices
          rw [hPl] at evb
          subst evb
          clear hPl hP
          obtain ⟨q0, q1, q2, q3, q4, q5, q6, q7⟩ := HS.out wr HBR.out
          by_cases hlt : k < ids.length
          · obtain ⟨j, hj⟩ : ∃ j, j = (qi + k) % ids.length := ⟨_, rfl⟩
            have hjl : j < ids.length := by rw [hj]; exact Nat.mod_lt _ (by omega)
            obtain ⟨s, hs⟩ : ∃ s, s = qi + k := ⟨_, rfl⟩
            have hqs : (qi : Int) + (k : Int) = (s : Int) := by omega
            have hsj : (s : Int).tmod (ids.length : Int) = (j : Int) := by rw [hj, ← hs]; exact (Int.ofNat_tmod _ _).symm
            have hsl : s ≤ 1000 := by omega
            have hsw : IntKind.i64.wrap (s : Int) = (s : Int) := IntWalk.i64_in _ (by omega)
            obtain ⟨b, off, ha, _, hb, e0⟩ := (HI.out wr HBR.out).strs.at j hjl
            subst ha
            obtain ⟨s0, hp⟩ : ∃ p, p = ids[j] := ⟨_, rfl⟩
            rw [← hp] at e0
            have HTK := Lib.hid (show (turned qi ids).take (k + 1) = P ++ [s0] by rw [HPP.out]; exact take_turned hqi hlt (by rw [← hj, hp]; exact List.getElem?_eq_getElem hjl))
            clear hp hj hs
            have HC := Lib.hid (show ∀ w' : World, Below wr.heap.size wr w' → w'.cell? ⟨w.heap.size + 1, 1, none⟩ = some (.slice (some ⟨b, off, none⟩) ids.length ic) ∧ w'.cell? ⟨b, off + j, none⟩ = some (.string s0) ∧ w'.cell? ⟨A, 1, none⟩ = some (.slice sb k cb) from fun w' h =>
              ⟨(HS.out w' (HBR.out.trans (h.mono HBR.out.size))).2.2.2.2.2.2.2, (World.cell?_of_block (w := wr) (h.block b hb)).trans e0, (HR.out.carry h).cells.2.2.2.2.2.2.2⟩)
            have m1 : (0 : Int) ≤ (j : Int) := by omega
            have m2 : (j : Int) < (ids.length : Int) := by omega
            clear e0 hb q0 q1 q2 q3 q4 q5 q6 q7
            obtain ⟨q7, e0, y1⟩ := HC.out wr (Below.refl _ _)
            go_wp2_with fail
            clear q7 e0 y1
            obtain ⟨V, hV⟩ : ∃ V : List MP, V = [.con (.pointer (some ⟨A, 1, none⟩)), .con (.slice sb k cb), .con (.pointer (some ⟨w.heap.size + 1, 1, none⟩)), .con (.slice (some ⟨b, off, none⟩) ids.length ic), .con (.int .i64 by_), .con (.int .u64 (IntKind.u64.wrap by_)), .con (.pointer (some ⟨w.heap.size + 1, 1, none⟩)), .con (.slice (some ⟨b, off, none⟩) ids.length ic), .con (.int .i64 (ids.length : Int)), .con (.int .u64 (ids.length : Int)), .con (.int .u64 ((IntKind.u64.wrap by_).tmod (ids.length : Int))), .con (.int .i64 (qi : Int)), .con (.int .i64 (k : Int)), .con (.int .i64 (s : Int)), .con (.pointer (some ⟨w.heap.size + 1, 1, none⟩)), .con (.slice (some ⟨b, off, none⟩) ids.length ic), .con (.int .i64 (ids.length : Int)), .con (.int .i64 (j : Int)), .con (.pointer (some ⟨b, off + j, none⟩)), .con (.string s0), .row wr.heap.size 1 9 #[.string s0]] := ⟨_, rfl⟩
            have HV := Lib.hid hV
            clear hV
            refine wp_region_inv 21 (fun d a' w' => ∃ x89 x90 x91 x92 x93 x94 x95 x96 x97 x98 x99 x100 x101 x102 x103 x104 x105 x106 x107 x108 x109, a' = ⟨#[Value.bool hm, Value.slice va vl.length vc, Value.agg #[Value.int IntKind.u8 u.kind, Value.int IntKind.i64 u.n, Value.string u.t, Value.slice an u.names.length cn, Value.slice ai u.items.length ci, Value.slice sa l.length sc], Value.agg #[Value.int IntKind.i64 t, Value.slice (some { block := b, off := off }) ids.length ic], Value.slice ka keys.length kc, Value.int IntKind.i64 by_, Value.int IntKind.i64 ag, undef, undef, Value.pointer (some { block := w.heap.size, off := 0 }), Value.pointer (some { block := w.heap.size + 1, off := 0 }), undef, undef, undef, Value.bool false, x, Value.pointer (some { block := Y, off := 0 }), Value.pointer (some { block := A, off := 0 }), Value.int IntKind.i64 (l.length : Int), Value.int IntKind.i64 (k : Int), u20, u21, u22, u23, u24, u25, u26, u27, u28, u29, u30, u31, u32, u33, u34, u35, u36, u37, u38, u39, u40, u41, u42, u43, u44, u45, u46, u47, u48, u49, Value.pointer (some { block := Y, off := 5 }), Value.pointer (some { block := A, off := 1 }), Value.int IntKind.i64 (l.length : Int), Value.pointer (some { block := w.heap.size, off := 5 }), Value.slice sa l.length sc, Value.int IntKind.i64 (l.length : Int), Value.bool false, u57, u58, u59, u60, u61, u62, u63, u64, u65, u66, u67, u68, u69, u70, u71, u72, u73, u74, u75, u76, u77, u78, u79, u80, u81, Value.int IntKind.i64 (k : Int), Value.pointer (some { block := w.heap.size + 1, off := 1 }), Value.slice (some { block := b, off := off }) ids.length ic, Value.int IntKind.i64 (ids.length : Int), Value.bool true, u87, u88, x89, x90, x91, x92, x93, x94, x95, x96, x97, x98, x99, x100, x101, x102, x103, x104, x105, x106, x107, x108, x109, u110, u111, u112, u113, u114, u115, u116, u117, u118, u119, u120, u121, u122, u123, u124, u125, u126, u127, u128, u129, u130, u131, u132, u133, u134, u135, u136, u137, u138, u139, u140, u141, u142, u143, u144, u145, u146, u147, u148, u149, u150, u151, u152, u153, u154, u155, u156, u157, u158, u159, u160, u161, u162, u163], []⟩ ∧ RegI wr V d w' [x89, x90, x91, x92, x93, x94, x95, x96, x97, x98, x99, x100, x101, x102, x103, x104, x105, x106, x107, x108, x109]) (by kernel_rfl) (by kernel_rfl) ?first ?step ?last
            case first => exact ⟨_, _, _, _, _, _, _, _, _, _, _, _, _, _, _, _, _, _, _, _, _, rfl, RegI.first _ _ _ (by rw [HV.out]; rfl)⟩
            case step =>
              rintro d a' w' ⟨x89, x90, x91, x92, x93, x94, x95, x96, x97, x98, x99, x100, x101, x102, x103, x104, x105, x106, x107, x108, x109, rfl, h⟩ q hq hn hw
              rcases q with _ | _ | _ | _ | _ | _ | _ | _ | _ | _ | _ | _ | _ | _ | _ | _ | _ | _ | _ | _ | _ | q
              · refine wpOp_step rfl fun K hK => ?_
                go_simp
                exact hK _ _ ⟨_, x90, x91, x92, x93, x94, x95, x96, x97, x98, x99, x100, x101, x102, x103, x104, x105, x106, x107, x108, x109, rfl, h.same 0 _ (.con (.pointer (some ⟨A, 1, none⟩))) (by rw [HV.out]; rfl) rfl⟩
              · obtain rfl : x89 = .pointer (some ⟨A, 1, none⟩) := h.get 0 (hw _ rfl ⟨0, .data⟩ (by simp) rfl) (.con (.pointer (some ⟨A, 1, none⟩))) (by rw [HV.out]; rfl) _ rfl
                obtain ⟨q7, e0, y1⟩ := HC.out w' h.1
                refine wpOp_step rfl fun K hK => ?_
                go_simp
                exact hK _ _ ⟨_, _, x91, x92, x93, x94, x95, x96, x97, x98, x99, x100, x101, x102, x103, x104, x105, x106, x107, x108, x109, rfl, h.same 1 _ (.con (.slice sb k cb)) (by rw [HV.out]; rfl) rfl⟩
              · refine wpOp_step rfl fun K hK => ?_
                go_simp
                exact hK _ _ ⟨x89, x90, _, x92, x93, x94, x95, x96, x97, x98, x99, x100, x101, x102, x103, x104, x105, x106, x107, x108, x109, rfl, h.same 2 _ (.con (.pointer (some ⟨w.heap.size + 1, 1, none⟩))) (by rw [HV.out]; rfl) rfl⟩
              · obtain rfl : x91 = .pointer (some ⟨w.heap.size + 1, 1, none⟩) := h.get 2 (hw _ rfl ⟨2, .data⟩ (by simp) rfl) (.con (.pointer (some ⟨w.heap.size + 1, 1, none⟩))) (by rw [HV.out]; rfl) _ rfl
                obtain ⟨q7, e0, y1⟩ := HC.out w' h.1
                refine wpOp_step rfl fun K hK => ?_
                go_simp
                exact hK _ _ ⟨x89, x90, _, _, x93, x94, x95, x96, x97, x98, x99, x100, x101, x102, x103, x104, x105, x106, x107, x108, x109, rfl, h.same 3 _ (.con (.slice (some ⟨b, off, none⟩) ids.length ic)) (by rw [HV.out]; rfl) rfl⟩
              · refine wpOp_step rfl fun K hK => ?_
                go_simp
                exact hK _ _ ⟨x89, x90, x91, x92, _, x94, x95, x96, x97, x98, x99, x100, x101, x102, x103, x104, x105, x106, x107, x108, x109, rfl, h.same 4 _ (.con (.int .i64 by_)) (by rw [HV.out]; rfl) rfl⟩
              · obtain rfl : x93 = .int .i64 by_ := h.get 4 (hw _ rfl ⟨4, .data⟩ (by simp) rfl) (.con (.int .i64 by_)) (by rw [HV.out]; rfl) _ rfl
                refine wpOp_step rfl fun K hK => ?_
                go_simp
                exact hK _ _ ⟨x89, x90, x91, x92, _, _, x95, x96, x97, x98, x99, x100, x101, x102, x103, x104, x105, x106, x107, x108, x109, rfl, h.same 5 _ (.con (.int .u64 (IntKind.u64.wrap by_))) (by rw [HV.out]; rfl) rfl⟩
              · refine wpOp_step rfl fun K hK => ?_
                go_simp
                exact hK _ _ ⟨x89, x90, x91, x92, x93, x94, _, x96, x97, x98, x99, x100, x101, x102, x103, x104, x105, x106, x107, x108, x109, rfl, h.same 6 _ (.con (.pointer (some ⟨w.heap.size + 1, 1, none⟩))) (by rw [HV.out]; rfl) rfl⟩
              · obtain rfl : x95 = .pointer (some ⟨w.heap.size + 1, 1, none⟩) := h.get 6 (hw _ rfl ⟨6, .data⟩ (by simp) rfl) (.con (.pointer (some ⟨w.heap.size + 1, 1, none⟩))) (by rw [HV.out]; rfl) _ rfl
                obtain ⟨q7, e0, y1⟩ := HC.out w' h.1
                refine wpOp_step rfl fun K hK => ?_
                go_simp
                exact hK _ _ ⟨x89, x90, x91, x92, x93, x94, _, _, x97, x98, x99, x100, x101, x102, x103, x104, x105, x106, x107, x108, x109, rfl, h.same 7 _ (.con (.slice (some ⟨b, off, none⟩) ids.length ic)) (by rw [HV.out]; rfl) rfl⟩
              · obtain rfl : x96 = .slice (some ⟨b, off, none⟩) ids.length ic := h.get 7 (hw _ rfl ⟨7, .data⟩ (by simp) rfl) (.con (.slice (some ⟨b, off, none⟩) ids.length ic)) (by rw [HV.out]; rfl) _ rfl
                refine wpOp_step rfl fun K hK => ?_
                go_simp
                exact hK _ _ ⟨x89, x90, x91, x92, x93, x94, x95, _, _, x98, x99, x100, x101, x102, x103, x104, x105, x106, x107, x108, x109, rfl, h.same 8 _ (.con (.int .i64 (ids.length : Int))) (by rw [HV.out]; rfl) rfl⟩
              · obtain rfl : x97 = .int .i64 (ids.length : Int) := h.get 8 (hw _ rfl ⟨8, .data⟩ (by simp) rfl) (.con (.int .i64 (ids.length : Int))) (by rw [HV.out]; rfl) _ rfl
                refine wpOp_step rfl fun K hK => ?_
                go_simp
                exact hK _ _ ⟨x89, x90, x91, x92, x93, x94, x95, x96, _, _, x99, x100, x101, x102, x103, x104, x105, x106, x107, x108, x109, rfl, h.same 9 _ (.con (.int .u64 (ids.length : Int))) (by rw [HV.out]; rfl) rfl⟩
              · obtain rfl : x94 = .int .u64 (IntKind.u64.wrap by_) := h.get 5 (hw _ rfl ⟨5, .data⟩ (by simp) rfl) (.con (.int .u64 (IntKind.u64.wrap by_))) (by rw [HV.out]; rfl) _ rfl
                obtain rfl : x98 = .int .u64 (ids.length : Int) := h.get 9 (hw _ rfl ⟨9, .data⟩ (by simp) rfl) (.con (.int .u64 (ids.length : Int))) (by rw [HV.out]; rfl) _ rfl
                refine wpOp_step rfl fun K hK => ?_
                go_simp
                exact hK _ _ ⟨x89, x90, x91, x92, x93, _, x95, x96, x97, _, _, x100, x101, x102, x103, x104, x105, x106, x107, x108, x109, rfl, h.same 10 _ (.con (.int .u64 ((IntKind.u64.wrap by_).tmod (ids.length : Int)))) (by rw [HV.out]; rfl) rfl⟩
              · obtain rfl : x99 = .int .u64 ((IntKind.u64.wrap by_).tmod (ids.length : Int)) := h.get 10 (hw _ rfl ⟨10, .data⟩ (by simp) rfl) (.con (.int .u64 ((IntKind.u64.wrap by_).tmod (ids.length : Int)))) (by rw [HV.out]; rfl) _ rfl
                refine wpOp_step rfl fun K hK => ?_
                go_simp
                exact hK _ _ ⟨x89, x90, x91, x92, x93, x94, x95, x96, x97, x98, _, _, x101, x102, x103, x104, x105, x106, x107, x108, x109, rfl, h.same 11 _ (.con (.int .i64 (qi : Int))) (by rw [HV.out]; rfl) rfl⟩
              · refine wpOp_step rfl fun K hK => ?_
                go_simp
                exact hK _ _ ⟨x89, x90, x91, x92, x93, x94, x95, x96, x97, x98, x99, x100, _, x102, x103, x104, x105, x106, x107, x108, x109, rfl, h.same 12 _ (.con (.int .i64 (k : Int))) (by rw [HV.out]; rfl) rfl⟩
              · obtain rfl : x100 = .int .i64 (qi : Int) := h.get 11 (hw _ rfl ⟨11, .data⟩ (by simp) rfl) (.con (.int .i64 (qi : Int))) (by rw [HV.out]; rfl) _ rfl
                obtain rfl : x101 = .int .i64 (k : Int) := h.get 12 (hw _ rfl ⟨12, .data⟩ (by simp) rfl) (.con (.int .i64 (k : Int))) (by rw [HV.out]; rfl) _ rfl
                refine wpOp_step rfl fun K hK => ?_
                go_simp
                exact hK _ _ ⟨x89, x90, x91, x92, x93, x94, x95, x96, x97, x98, x99, _, _, _, x103, x104, x105, x106, x107, x108, x109, rfl, h.same 13 _ (.con (.int .i64 (s : Int))) (by rw [HV.out]; rfl) rfl⟩
              · refine wpOp_step rfl fun K hK => ?_
                go_simp
                exact hK _ _ ⟨x89, x90, x91, x92, x93, x94, x95, x96, x97, x98, x99, x100, x101, x102, _, x104, x105, x106, x107, x108, x109, rfl, h.same 14 _ (.con (.pointer (some ⟨w.heap.size + 1, 1, none⟩))) (by rw [HV.out]; rfl) rfl⟩
              · obtain rfl : x103 = .pointer (some ⟨w.heap.size + 1, 1, none⟩) := h.get 14 (hw _ rfl ⟨14, .data⟩ (by simp) rfl) (.con (.pointer (some ⟨w.heap.size + 1, 1, none⟩))) (by rw [HV.out]; rfl) _ rfl
                obtain ⟨q7, e0, y1⟩ := HC.out w' h.1
                refine wpOp_step rfl fun K hK => ?_
                go_simp
                exact hK _ _ ⟨x89, x90, x91, x92, x93, x94, x95, x96, x97, x98, x99, x100, x101, x102, _, _, x105, x106, x107, x108, x109, rfl, h.same 15 _ (.con (.slice (some ⟨b, off, none⟩) ids.length ic)) (by rw [HV.out]; rfl) rfl⟩
              · obtain rfl : x104 = .slice (some ⟨b, off, none⟩) ids.length ic := h.get 15 (hw _ rfl ⟨15, .data⟩ (by simp) rfl) (.con (.slice (some ⟨b, off, none⟩) ids.length ic)) (by rw [HV.out]; rfl) _ rfl
                refine wpOp_step rfl fun K hK => ?_
                go_simp
                exact hK _ _ ⟨x89, x90, x91, x92, x93, x94, x95, x96, x97, x98, x99, x100, x101, x102, x103, _, _, x106, x107, x108, x109, rfl, h.same 16 _ (.con (.int .i64 (ids.length : Int))) (by rw [HV.out]; rfl) rfl⟩
              · obtain rfl : x102 = .int .i64 (s : Int) := h.get 13 (hw _ rfl ⟨13, .data⟩ (by simp) rfl) (.con (.int .i64 (s : Int))) (by rw [HV.out]; rfl) _ rfl
                obtain rfl : x105 = .int .i64 (ids.length : Int) := h.get 16 (hw _ rfl ⟨16, .data⟩ (by simp) rfl) (.con (.int .i64 (ids.length : Int))) (by rw [HV.out]; rfl) _ rfl
                refine wpOp_step rfl fun K hK => ?_
                go_simp
                exact hK _ _ ⟨x89, x90, x91, x92, x93, x94, x95, x96, x97, x98, x99, x100, x101, _, x103, x104, _, _, x107, x108, x109, rfl, h.same 17 _ (.con (.int .i64 (j : Int))) (by rw [HV.out]; rfl) rfl⟩
              · obtain rfl : x92 = .slice (some ⟨b, off, none⟩) ids.length ic := h.get 3 (hw _ rfl ⟨3, .data⟩ (by simp) rfl) (.con (.slice (some ⟨b, off, none⟩) ids.length ic)) (by rw [HV.out]; rfl) _ rfl
                obtain rfl : x106 = .int .i64 (j : Int) := h.get 17 (hw _ rfl ⟨17, .data⟩ (by simp) rfl) (.con (.int .i64 (j : Int))) (by rw [HV.out]; rfl) _ rfl
                obtain ⟨q7, e0, y1⟩ := HC.out w' h.1
                refine wpOp_step rfl fun K hK => ?_
                go_simp
                exact hK _ _ ⟨x89, x90, x91, _, x93, x94, x95, x96, x97, x98, x99, x100, x101, x102, x103, x104, x105, _, _, x108, x109, rfl, h.same 18 _ (.con (.pointer (some ⟨b, off + j, none⟩))) (by rw [HV.out]; rfl) rfl⟩
              · obtain rfl : x107 = .pointer (some ⟨b, off + j, none⟩) := h.get 18 (hw _ rfl ⟨18, .data⟩ (by simp) rfl) (.con (.pointer (some ⟨b, off + j, none⟩))) (by rw [HV.out]; rfl) _ rfl
                obtain ⟨q7, e0, y1⟩ := HC.out w' h.1
                refine wpOp_step rfl fun K hK => ?_
                go_simp
                exact hK _ _ ⟨x89, x90, x91, x92, x93, x94, x95, x96, x97, x98, x99, x100, x101, x102, x103, x104, x105, x106, _, _, x109, rfl, h.same 19 _ (.con (.string s0)) (by rw [HV.out]; rfl) rfl⟩
              · obtain rfl : x108 = .string s0 := h.get 19 (hw _ rfl ⟨19, .data⟩ (by simp) rfl) (.con (.string s0)) (by rw [HV.out]; rfl) _ rfl
                refine wpOp_step rfl fun K hK => ?_
                go_simp
                exact hK _ _ ⟨x89, x90, x91, x92, x93, x94, x95, x96, x97, x98, x99, x100, x101, x102, x103, x104, x105, x106, x107, _, _, rfl, h.new _ 20 _ (.row wr.heap.size 1 9 #[.string s0]) (by rw [HV.out]; rfl) (IsRow.made _ h.1.size)⟩
              · omega
            case last =>
              rintro d a' w' hall ⟨x89, x90, x91, x92, x93, x94, x95, x96, x97, x98, x99, x100, x101, x102, x103, x104, x105, x106, x107, x108, x109, rfl, h⟩
              have hle := h.1
              obtain rfl : x90 = .slice sb k cb := h.get 1 (hall _ (by omega)) (.con (.slice sb k cb)) (by rw [HV.out]; rfl) _ rfl
              obtain ⟨b109, k109, rfl, m109⟩ := h.get 20 (hall _ (by omega)) (.row wr.heap.size 1 9 #[.string s0]) (by rw [HV.out]; rfl) _ rfl
              have HLE := Lib.hid hle
              clear h hall hle HV
              have HRC := Lib.hid (HR.out.carry HLE.out)
              have HW1 := Lib.hid (World.news_of_block m109)
              have HONE := Lib.hid (show ∀ u ∈ Array.toList #[Value.string s0], u.oneCell' = true by simp [Value.oneCell'])
              have hown : w'.ownsRow H 9 1 (.slice sb k cb) k (P.map .string) := by have h := HRC.out.ea; rwa [HPL.out] at h
              have hk1 : k + 1 ≤ maxLen := by unfold maxLen; omega
              have hk2 : (k + 1) * 16 ≤ 140737488355328 := by omega
              have hk3 : H ≤ w'.heap.size := HRC.out.size
              clear k109 m109
              refine wpList_append_lies _ rfl (.tmp 90) (.tmp 109) 41 rfl H 9 i2 _ 1 16 Tryz.underlying41 hi2 hx0 hx1 hx2 rfl (by decide) (.slice sb k cb) k (P.map .string) rfl hown ⟨b109, 0, none⟩ 1 1 (Array.toList #[.string s0]) rfl rfl HW1.out HONE.out (by decide) hk1 hk2 hk3 _ rfl ?_
              intro g gc w7 ho7 hg7 hat7 hlt7
              obtain ⟨-, y1, -, f1⟩ := HRC.out.grown (Below.refl _ _) hg7 (fun b hb => (hown.lt b hb).1)
              have hadd := HR.out.addA (p := s0) (c := gc) HLE.out (by rw [HPL.out]; exact ho7) hg7 hat7
              rw [HPL.out] at hadd
              have HAD := Lib.hid hadd
              clear hadd ho7 hg7 hat7 hlt7 hk3 hown
              go_wp2
              go_roundw
              case rel => exact ⟨k + 1, _, by omega, by go_num, by rw [HTK.out]; exact HAD.out⟩
              case measure => simp [intOf]; omega
          · have hke : k = ids.length := by omega
            subst hke
            have hPt : P = turned qi ids := by rw [HPP.out, ← turned_length qi ids, List.take_length]
            subst hPt
            clear hlt hk HPP HPL
            obtain ⟨wV, rfl⟩ : ∃ wV, wV = wr := ⟨wr, rfl⟩
            have HEX := Lib.hid (show ∀ w' : World, Below w5.heap.size w5 w' → EnvAt w' u l an ai sa cn ci from fun w' h => HNL.out.env (HI.out w' (HB50.out w' h)))
            have HEY := Lib.hid (show ∀ (w' : World) (P2 : List Sig2) (s2 : Option Addr) (c2 : Nat), RW w5 H Y A u an ai cn ci t w' P2 (turned qi ids) (.slice s2 P2.length c2) (.slice sb ids.length cb) → (∀ s ∈ P2, s ∈ l) → P2.length ≤ 41 → EnvAt w' u P2 an ai s2 cn ci from fun w' P2 s2 c2 hr hm hl => by
              have h := hr.below
              obtain ⟨sy2, cy2, sb2, cb2, ey2, -, hk2, -⟩ := hr.slices
              simp only [Value.slice.injEq] at ey2
              rw [← ey2.1] at hk2
              exact ⟨(HEX.out w' h).rep, hk2, (HEX.out w' h).wt, fun s hs => (HEX.out w' h).sizes s (hm s hs), by omega⟩)
            obtain ⟨n, hnn⟩ : ∃ n : Nat, n = countV v u l t ids keys := ⟨_, rfl⟩
            obtain ⟨bn, hbn⟩ : ∃ bn : Bool, bn = enoughV v u l t ids keys := ⟨_, rfl⟩
            have HN1 := Lib.hid hnn
            have HN2 := Lib.hid hbn
            clear hnn hbn
            obtain ⟨qa, hqa, htq3, htw3⟩ := at_index2 ag l.length (by omega) (by omega)
            go_upto_region 14 with fail
            go_cut [119] (fun s wx => ∃ c : Bool, s = .bool c ∧ (c = true → l.length < 32 ∧ envOk u l = true) ∧ Below wV.heap.size wV wx)
            case first =>
              by_cases h32 : l.length < 32
              · have h33 : (l.length : Int) < 32 := by omega
                have HMX := Lib.hid (signMay u l an ai sa cn ci sc wV (HEX.out wV HR.out.below))
                obtain ⟨b1, hb1⟩ : ∃ b1, b1 = envOk u l := ⟨_, rfl⟩
                rw [← hb1] at HMX
                have HO1 := Lib.hid hb1
                clear hb1
                go_wp2_with fail
                refine HMX.out.mono ?_
                clear HMX q0 q1 q2 q3 q4 q5 q6 q7
                rintro e w6 ⟨rfl, hb6⟩
                have HB6 := Lib.hid hb6
                clear hb6
                go_wp2_with fail
                go_meet
                exact ⟨b1, rfl, fun e => ⟨h32, by rw [← HO1.out, e]⟩, HB6.out⟩
              · have h33 : ¬ ((l.length : Int) < 32) := by omega
                go_wp2_with fail
                go_meet
                exact ⟨false, by simp, (fun e => by cases e), Below.refl _ _⟩
            case rest =>
              obtain ⟨c, rfl, hcc, hbc⟩ := hcut
              have HCC := Lib.hid hcc
              have HBC := Lib.hid hbc
              have HRC := Lib.hid (HR.out.carry hbc)
              clear hcc hbc q0 q1 q2 q3 q4 q5 q6 q7
              obtain ⟨wv, rfl⟩ : ∃ wv, wv = wc := ⟨wc, rfl⟩
              have hzy := turned_length qq l
              go_upto_if 119 with fail
              go_cut [14] (fun _ wx => ∃ (P2 : List Sig2) (s2 : Option Addr) (c2 : Nat), RW w5 H Y A u an ai cn ci t wx P2 (turned qi ids) (.slice s2 P2.length c2) (.slice sb ids.length cb) ∧ (∀ s ∈ P2, s ∈ l) ∧ P2.length ≤ 41 ∧ countV v u P2 t (turned qi ids) keys = n ∧ enoughV v u P2 t (turned qi ids) keys = bn)
              case first =>
                cases c
                · clear HCC
                  go_wp2_with fail
                  go_meet
                  obtain ⟨g1, g2⟩ := rows_turned (v := v) (x := u) (l := l) (t := t) (ids := ids) (keys := keys) qq qi
                  exact ⟨turned qq l, sy, cy, by rw [hzy]; exact HRC.out, fun s hs => (turned_perm qq l).subset hs, by omega, by rw [g1, HN1.out], by rw [g2, HN2.out]⟩
                · obtain ⟨h32, ho1⟩ := HCC.out rfl
                  have HO1 := Lib.hid ho1
                  clear ho1 HCC
                  have HBV := Lib.hid (HBR.out.trans (HBC.out.mono HBR.out.size))
                  obtain ⟨b, off, ha, _, hb, e0, e1⟩ := (HI.out wv HBV.out).sigs.at qa hqa
                  subst ha
                  obtain ⟨p, hp⟩ : ∃ p, p = l[qa] := ⟨_, rfl⟩
                  rw [← hp] at e0 e1
                  have HPM := Lib.hid (show p ∈ l by rw [hp]; exact List.getElem_mem _)
                  clear hp
                  obtain ⟨s0, s1⟩ := p
                  have HC := Lib.hid (show ∀ w' : World, Below wv.heap.size wv w' → w'.cell? ⟨w.heap.size, 5, none⟩ = some (.slice (some ⟨b, off, none⟩) l.length sc) ∧ w'.cell? ⟨b, off + qa * 2, none⟩ = some (.string s0) ∧ w'.cell? ⟨b, off + qa * 2 + 1, none⟩ = some (.string s1) ∧ w'.cell? ⟨Y, 5, none⟩ = some (.slice sy l.length cy) from fun w' h =>
                    ⟨(HS.out w' (HBV.out.trans (h.mono HBV.out.size))).2.2.2.2.2.1, (World.cell?_of_block (w := wv) (h.block b hb)).trans e0, (World.cell?_of_block (w := wv) (h.block b hb)).trans e1, (HRC.out.carry h).cells.2.2.2.2.2.1⟩)
                  have m1 : (0 : Int) ≤ (qa : Int) := by omega
                  have m2 : (qa : Int) < (l.length : Int) := by omega
                  clear e0 e1 hb
                  go_upto_region 15 with fail
                  obtain ⟨V, hV⟩ : ∃ V : List MP, V = [.con (.pointer (some ⟨Y, 5, none⟩)), .con (.slice sy l.length cy), .con (.pointer (some ⟨w.heap.size, 5, none⟩)), .con (.slice (some ⟨b, off, none⟩) l.length sc), .con (.int .i64 ag), .con (.int .u64 (IntKind.u64.wrap ag)), .con (.pointer (some ⟨w.heap.size, 5, none⟩)), .con (.slice (some ⟨b, off, none⟩) l.length sc), .con (.int .i64 (l.length : Int)), .con (.int .u64 (l.length : Int)), .con (.int .u64 ((IntKind.u64.wrap ag).tmod (l.length : Int))), .con (.int .i64 (qa : Int)), .con (.pointer (some ⟨b, off + qa * 2, none⟩)), .con (.agg #[.string s0, .string s1]), .row wv.heap.size 1 26 #[.string s0, .string s1]] := ⟨_, rfl⟩
                  have HV := Lib.hid hV
                  clear hV
                  refine wp_region_inv 15 (fun d a' w' => ∃ x120 x121 x122 x123 x124 x125 x126 x127 x128 x129 x130 x131 x132 x133 x134, a' = ⟨#[Value.bool hm, Value.slice va vl.length vc, Value.agg #[Value.int IntKind.u8 u.kind, Value.int IntKind.i64 u.n, Value.string u.t, Value.slice an u.names.length cn, Value.slice ai u.items.length ci, Value.slice (some { block := b, off := off }) l.length sc], Value.agg #[Value.int IntKind.i64 t, Value.slice ia ids.length ic], Value.slice ka keys.length kc, Value.int IntKind.i64 by_, Value.int IntKind.i64 ag, undef, undef, Value.pointer (some { block := w.heap.size, off := 0 }), Value.pointer (some { block := w.heap.size + 1, off := 0 }), undef, undef, undef, Value.bool false, x, Value.pointer (some { block := Y, off := 0 }), Value.pointer (some { block := A, off := 0 }), Value.int IntKind.i64 (l.length : Int), Value.int IntKind.i64 (ids.length : Int), u20, u21, u22, u23, u24, u25, u26, u27, u28, u29, u30, u31, u32, u33, u34, u35, u36, u37, u38, u39, u40, u41, u42, u43, u44, u45, u46, u47, u48, u49, u50, u51, u52, u53, u54, u55, u56, u57, u58, u59, u60, u61, u62, u63, u64, u65, u66, u67, u68, u69, u70, u71, u72, u73, u74, u75, u76, u77, u78, u79, u80, u81, u82, u83, u84, u85, u86, u87, u88, u89, u90, u91, u92, u93, u94, u95, u96, u97, u98, u99, u100, u101, u102, u103, u104, u105, u106, u107, u108, u109, u110, u111, u112, u113, u114, u115, u116, u117, u118, Value.bool true, x120, x121, x122, x123, x124, x125, x126, x127, x128, x129, x130, x131, x132, x133, x134, u135, u136, u137, u138, u139, u140, u141, u142, u143, u144, u145, u146, u147, u148, u149, u150, u151, u152, u153, u154, u155, u156, u157, u158, u159, u160, u161, u162, u163], []⟩ ∧ RegI wv V d w' [x120, x121, x122, x123, x124, x125, x126, x127, x128, x129, x130, x131, x132, x133, x134]) (by kernel_rfl) (by kernel_rfl) ?first ?step ?last
                  case first => exact ⟨_, _, _, _, _, _, _, _, _, _, _, _, _, _, _, rfl, RegI.first _ _ _ (by rw [HV.out]; rfl)⟩
                  case step =>
                    rintro d a' w' ⟨x120, x121, x122, x123, x124, x125, x126, x127, x128, x129, x130, x131, x132, x133, x134, rfl, h⟩ q hq hn hw
                    rcases q with _ | _ | _ | _ | _ | _ | _ | _ | _ | _ | _ | _ | _ | _ | _ | q
                    · refine wpOp_step rfl fun K hK => ?_
                      go_simp
                      exact hK _ _ ⟨_, x121, x122, x123, x124, x125, x126, x127, x128, x129, x130, x131, x132, x133, x134, rfl, h.same 0 _ (.con (.pointer (some ⟨Y, 5, none⟩))) (by rw [HV.out]; rfl) rfl⟩
                    · obtain rfl : x120 = .pointer (some ⟨Y, 5, none⟩) := h.get 0 (hw _ rfl ⟨0, .data⟩ (by simp) rfl) (.con (.pointer (some ⟨Y, 5, none⟩))) (by rw [HV.out]; rfl) _ rfl
                      obtain ⟨q5, e0, e1, y5⟩ := HC.out w' h.1
                      refine wpOp_step rfl fun K hK => ?_
                      go_simp
                      exact hK _ _ ⟨_, _, x122, x123, x124, x125, x126, x127, x128, x129, x130, x131, x132, x133, x134, rfl, h.same 1 _ (.con (.slice sy l.length cy)) (by rw [HV.out]; rfl) rfl⟩
                    · refine wpOp_step rfl fun K hK => ?_
                      go_simp
                      exact hK _ _ ⟨x120, x121, _, x123, x124, x125, x126, x127, x128, x129, x130, x131, x132, x133, x134, rfl, h.same 2 _ (.con (.pointer (some ⟨w.heap.size, 5, none⟩))) (by rw [HV.out]; rfl) rfl⟩
                    · obtain rfl : x122 = .pointer (some ⟨w.heap.size, 5, none⟩) := h.get 2 (hw _ rfl ⟨2, .data⟩ (by simp) rfl) (.con (.pointer (some ⟨w.heap.size, 5, none⟩))) (by rw [HV.out]; rfl) _ rfl
                      obtain ⟨q5, e0, e1, y5⟩ := HC.out w' h.1
                      refine wpOp_step rfl fun K hK => ?_
                      go_simp
                      exact hK _ _ ⟨x120, x121, _, _, x124, x125, x126, x127, x128, x129, x130, x131, x132, x133, x134, rfl, h.same 3 _ (.con (.slice (some ⟨b, off, none⟩) l.length sc)) (by rw [HV.out]; rfl) rfl⟩
                    · refine wpOp_step rfl fun K hK => ?_
                      go_simp
                      exact hK _ _ ⟨x120, x121, x122, x123, _, x125, x126, x127, x128, x129, x130, x131, x132, x133, x134, rfl, h.same 4 _ (.con (.int .i64 ag)) (by rw [HV.out]; rfl) rfl⟩
                    · obtain rfl : x124 = .int .i64 ag := h.get 4 (hw _ rfl ⟨4, .data⟩ (by simp) rfl) (.con (.int .i64 ag)) (by rw [HV.out]; rfl) _ rfl
                      refine wpOp_step rfl fun K hK => ?_
                      go_simp
                      exact hK _ _ ⟨x120, x121, x122, x123, _, _, x126, x127, x128, x129, x130, x131, x132, x133, x134, rfl, h.same 5 _ (.con (.int .u64 (IntKind.u64.wrap ag))) (by rw [HV.out]; rfl) rfl⟩
                    · refine wpOp_step rfl fun K hK => ?_
                      go_simp
                      exact hK _ _ ⟨x120, x121, x122, x123, x124, x125, _, x127, x128, x129, x130, x131, x132, x133, x134, rfl, h.same 6 _ (.con (.pointer (some ⟨w.heap.size, 5, none⟩))) (by rw [HV.out]; rfl) rfl⟩
                    · obtain rfl : x126 = .pointer (some ⟨w.heap.size, 5, none⟩) := h.get 6 (hw _ rfl ⟨6, .data⟩ (by simp) rfl) (.con (.pointer (some ⟨w.heap.size, 5, none⟩))) (by rw [HV.out]; rfl) _ rfl
                      obtain ⟨q5, e0, e1, y5⟩ := HC.out w' h.1
                      refine wpOp_step rfl fun K hK => ?_
                      go_simp
                      exact hK _ _ ⟨x120, x121, x122, x123, x124, x125, _, _, x128, x129, x130, x131, x132, x133, x134, rfl, h.same 7 _ (.con (.slice (some ⟨b, off, none⟩) l.length sc)) (by rw [HV.out]; rfl) rfl⟩
                    · obtain rfl : x127 = .slice (some ⟨b, off, none⟩) l.length sc := h.get 7 (hw _ rfl ⟨7, .data⟩ (by simp) rfl) (.con (.slice (some ⟨b, off, none⟩) l.length sc)) (by rw [HV.out]; rfl) _ rfl
                      refine wpOp_step rfl fun K hK => ?_
                      go_simp
                      exact hK _ _ ⟨x120, x121, x122, x123, x124, x125, x126, _, _, x129, x130, x131, x132, x133, x134, rfl, h.same 8 _ (.con (.int .i64 (l.length : Int))) (by rw [HV.out]; rfl) rfl⟩
                    · obtain rfl : x128 = .int .i64 (l.length : Int) := h.get 8 (hw _ rfl ⟨8, .data⟩ (by simp) rfl) (.con (.int .i64 (l.length : Int))) (by rw [HV.out]; rfl) _ rfl
                      refine wpOp_step rfl fun K hK => ?_
                      go_simp
                      exact hK _ _ ⟨x120, x121, x122, x123, x124, x125, x126, x127, _, _, x130, x131, x132, x133, x134, rfl, h.same 9 _ (.con (.int .u64 (l.length : Int))) (by rw [HV.out]; rfl) rfl⟩
                    · obtain rfl : x125 = .int .u64 (IntKind.u64.wrap ag) := h.get 5 (hw _ rfl ⟨5, .data⟩ (by simp) rfl) (.con (.int .u64 (IntKind.u64.wrap ag))) (by rw [HV.out]; rfl) _ rfl
                      obtain rfl : x129 = .int .u64 (l.length : Int) := h.get 9 (hw _ rfl ⟨9, .data⟩ (by simp) rfl) (.con (.int .u64 (l.length : Int))) (by rw [HV.out]; rfl) _ rfl
                      refine wpOp_step rfl fun K hK => ?_
                      go_simp
                      exact hK _ _ ⟨x120, x121, x122, x123, x124, _, x126, x127, x128, _, _, x131, x132, x133, x134, rfl, h.same 10 _ (.con (.int .u64 ((IntKind.u64.wrap ag).tmod (l.length : Int)))) (by rw [HV.out]; rfl) rfl⟩
                    · obtain rfl : x130 = .int .u64 ((IntKind.u64.wrap ag).tmod (l.length : Int)) := h.get 10 (hw _ rfl ⟨10, .data⟩ (by simp) rfl) (.con (.int .u64 ((IntKind.u64.wrap ag).tmod (l.length : Int)))) (by rw [HV.out]; rfl) _ rfl
                      refine wpOp_step rfl fun K hK => ?_
                      go_simp
                      exact hK _ _ ⟨x120, x121, x122, x123, x124, x125, x126, x127, x128, x129, _, _, x132, x133, x134, rfl, h.same 11 _ (.con (.int .i64 (qa : Int))) (by rw [HV.out]; rfl) rfl⟩
                    · obtain rfl : x123 = .slice (some ⟨b, off, none⟩) l.length sc := h.get 3 (hw _ rfl ⟨3, .data⟩ (by simp) rfl) (.con (.slice (some ⟨b, off, none⟩) l.length sc)) (by rw [HV.out]; rfl) _ rfl
                      obtain rfl : x131 = .int .i64 (qa : Int) := h.get 11 (hw _ rfl ⟨11, .data⟩ (by simp) rfl) (.con (.int .i64 (qa : Int))) (by rw [HV.out]; rfl) _ rfl
                      obtain ⟨q5, e0, e1, y5⟩ := HC.out w' h.1
                      refine wpOp_step rfl fun K hK => ?_
                      go_simp
                      exact hK _ _ ⟨x120, x121, x122, _, x124, x125, x126, x127, x128, x129, x130, _, _, x133, x134, rfl, h.same 12 _ (.con (.pointer (some ⟨b, off + qa * 2, none⟩))) (by rw [HV.out]; rfl) rfl⟩
                    · obtain rfl : x132 = .pointer (some ⟨b, off + qa * 2, none⟩) := h.get 12 (hw _ rfl ⟨12, .data⟩ (by simp) rfl) (.con (.pointer (some ⟨b, off + qa * 2, none⟩))) (by rw [HV.out]; rfl) _ rfl
                      obtain ⟨q5, e0, e1, y5⟩ := HC.out w' h.1
                      refine wpOp_step rfl fun K hK => ?_
                      go_simp
                      exact hK _ _ ⟨x120, x121, x122, x123, x124, x125, x126, x127, x128, x129, x130, x131, _, _, x134, rfl, h.same 13 _ (.con (.agg #[.string s0, .string s1])) (by rw [HV.out]; rfl) rfl⟩
                    · obtain rfl : x133 = .agg #[.string s0, .string s1] := h.get 13 (hw _ rfl ⟨13, .data⟩ (by simp) rfl) (.con (.agg #[.string s0, .string s1])) (by rw [HV.out]; rfl) _ rfl
                      refine wpOp_step rfl fun K hK => ?_
                      go_simp
                      exact hK _ _ ⟨x120, x121, x122, x123, x124, x125, x126, x127, x128, x129, x130, x131, x132, _, _, rfl, h.new _ 14 _ (.row wv.heap.size 1 26 #[.string s0, .string s1]) (by rw [HV.out]; rfl) (IsRow.made _ h.1.size)⟩
                    · omega
                  case last =>
                    rintro d a' w' hall ⟨x120, x121, x122, x123, x124, x125, x126, x127, x128, x129, x130, x131, x132, x133, x134, rfl, h⟩
                    have hle := h.1
                    obtain rfl : x121 = .slice sy l.length cy := h.get 1 (hall _ (by omega)) (.con (.slice sy l.length cy)) (by rw [HV.out]; rfl) _ rfl
                    obtain ⟨b134, k134, rfl, m134⟩ := h.get 14 (hall _ (by omega)) (.row wv.heap.size 1 26 #[.string s0, .string s1]) (by rw [HV.out]; rfl) _ rfl
                    have HLE := Lib.hid hle
                    clear h hall hle HV
                    have HRD := Lib.hid (HRC.out.carry HLE.out)
                    have HW1 := Lib.hid (World.news_of_block m134)
                    have HONE := Lib.hid (show ∀ u ∈ Array.toList #[Value.string s0, .string s1], u.oneCell' = true by simp [Value.oneCell'])
                    have hown : w'.ownsRow H 26 2 (.slice sy l.length cy) l.length ((turned qq l).flatMap encK) := by have h := HRD.out.ey; rwa [hzy] at h
                    have hk1 : l.length + 1 ≤ maxLen := by unfold maxLen; omega
                    have hk2 : (l.length + 1) * 32 ≤ 140737488355328 := by omega
                    have hk3 : H ≤ w'.heap.size := HRD.out.size
                    clear k134 m134
                    refine wpList_append_lies _ rfl (.tmp 121) (.tmp 134) 45 rfl H 26 i1 _ 2 32 Tryz.underlying45 hi1 hy0 hy1 hy2 rfl (by decide) (.slice sy l.length cy) l.length ((turned qq l).flatMap encK) rfl hown ⟨b134, 0, none⟩ 1 1 (Array.toList #[.string s0, .string s1]) rfl rfl HW1.out HONE.out (by decide) hk1 hk2 hk3 _ rfl ?_
                    intro g gc w7 ho7 hg7 hat7 hlt7
                    obtain ⟨y5, -, f5, -⟩ := HRD.out.grown (Below.refl _ _) hg7 (fun b hb => (hown.lt b hb).1)
                    have hadd := HRC.out.addY (p := (s0, s1)) (c := gc) HLE.out (by rw [hzy]; exact ho7) hg7 hat7
                    rw [hzy] at hadd
                    obtain ⟨z0', z1', z2', z3', z4', z5', -, -⟩ := hadd.cells
                    obtain ⟨P2, hP2⟩ : ∃ P2, P2 = turned qq l ++ [(s0, s1)] := ⟨_, rfl⟩
                    have HPL2 := Lib.hid (show P2.length = l.length + 1 by rw [hP2, List.length_append, hzy]; rfl)
                    obtain ⟨wX, hwX⟩ : ∃ wX, wX = w7.setCell ⟨Y, 5, none⟩ (.slice (some ⟨g, 0, none⟩) (l.length + 1) gc) := ⟨_, rfl⟩
                    rw [← hP2, ← hwX] at hadd
                    have HAD := Lib.hid hadd
                    have HPM2 := Lib.hid (show ∀ s ∈ P2, s ∈ l by
                      intro s hs
                      rw [hP2] at hs
                      rcases List.mem_append.1 hs with hs | hs
                      · exact (turned_perm qq l).subset hs
                      · rw [List.mem_singleton] at hs; subst hs; exact HPM.out)
                    rw [← HPL2.out] at hadd
                    have HEY2 := Lib.hid (HEY.out wX P2 (some ⟨g, 0, none⟩) gc hadd HPM2.out (by rw [HPL2.out]; omega))
                    have HMY := Lib.hid (signMay u P2 an ai (some ⟨g, 0, none⟩) cn ci gc wX HEY2.out)
                    obtain ⟨b2, hb2⟩ : ∃ b2, b2 = envOk u P2 := ⟨_, rfl⟩
                    rw [← hb2, HPL2.out] at HMY
                    have HO2 := Lib.hid hb2
                    have HAD2 := Lib.hid hadd
                    have HP2 := Lib.hid hP2
                    have HWX := Lib.hid hwX
                    clear hadd ho7 hg7 hat7 hlt7 hk3 hown hb2 hP2 hwX
                    go_wp2_with fail
                    rw [← HWX.out]
                    refine HMY.out.mono ?_
                    clear HMY HWX z0' z1' z2' z3' z4' z5' y5 f5
                    rintro e w8 ⟨rfl, hb8⟩
                    have HR8 := Lib.hid (HAD2.out.carry hb8)
                    clear hb8
                    cases b2
                    · go_wp2_with fail
                      go_ret
                      exact ⟨rfl, HBT.out _ (HB50.out _ HR8.out.below)⟩
                    · go_wp2_with fail
                      go_meet
                      obtain ⟨g1, g2⟩ := rows_again (v := v) (x := u) (l := l) (t := t) (ids := ids) (keys := keys) qq qi HPM.out HO1.out (by rw [← HP2.out]; exact HO2.out.symm)
                      exact ⟨P2, some ⟨g, 0, none⟩, gc, HR8.out, HPM2.out, by rw [HPL2.out]; omega, by rw [HP2.out, g1, HN1.out], by rw [HP2.out, g2, HN2.out]⟩
              case rest =>
                obtain ⟨PZ, sz, cz, hrz, hmz, hlz, hcz, hez⟩ := hcut
                obtain ⟨wz, rfl⟩ : ∃ wz, wz = wc := ⟨wc, rfl⟩
                have HRZ := Lib.hid hrz
                have HMZ := Lib.hid hmz
                have HLZ := Lib.hid hlz
                have HZ5 := Lib.hid (show ∀ w' : World, Below wz.heap.size wz w' → Below w5.heap.size w5 w' from fun w' h => (HRZ.out.carry h).below)
                have HZ0R := Lib.hid (show ∀ w' : World, Below wz.heap.size wz w' → Below W0.heap.size W0 w' from fun w' h => HB50.out w' (HZ5.out w' h))
                have HCX := Lib.hid (show ∀ w' : World, Below wz.heap.size wz w' → Calls Tryz.prog 21 #[x, .agg #[.int .u8 u.kind, .int .i64 u.n, .string u.t, .slice an u.names.length cn, .slice ai u.items.length ci, .slice sa l.length sc], .agg #[.int .i64 t, .slice ia ids.length ic], .slice ka keys.length kc] w' (fun e w'' => e = .returned (.int .i64 (n : Int)) ∧ Below w'.heap.size w' w'') from fun w' h => by
                  have hI := HI.out w' (HZ0R.out w' h)
                  rw [HN1.out]
                  exact judgeCount v x u l an ai sa cn ci sc t ids ia ic keys ka kc w' (HXV.out w' (HZ5.out w' h)) (HNL.out.env hI) (HNL.out.auth hI) (HNL.out.row hI) HNUM.out (HP.out w' (HZ0R.out w' h)) (HT.out w' (HZ0R.out w' h)))
                have HNX := Lib.hid (show ∀ w' : World, Below wz.heap.size wz w' → Calls Tryz.prog 23 #[x, .agg #[.int .u8 u.kind, .int .i64 u.n, .string u.t, .slice an u.names.length cn, .slice ai u.items.length ci, .slice sa l.length sc], .agg #[.int .i64 t, .slice ia ids.length ic], .slice ka keys.length kc] w' (fun e w'' => e = .returned (.bool bn) ∧ Below w'.heap.size w' w'') from fun w' h => by
                  have hI := HI.out w' (HZ0R.out w' h)
                  rw [HN2.out]
                  exact judgeEnough v x u l an ai sa cn ci sc t ids ia ic keys ka kc w' (HXV.out w' (HZ5.out w' h)) (HNL.out.env hI) (HNL.out.auth hI) (HNL.out.row hI) HNUM.out (HP.out w' (HZ0R.out w' h)) (HT.out w' (HZ0R.out w' h)))
                have hiz := turned_length qi ids
                have HAZ := Lib.hid (show ∀ w' : World, Below wz.heap.size wz w' → AuthAt w' (turned qi ids) sb from fun w' h => by
                  obtain ⟨_, _, sb2, cb2, -, eb2, -, hs2⟩ := (HRZ.out.carry h).slices
                  simp only [Value.slice.injEq] at eb2
                  rw [← eb2.1] at hs2
                  exact ⟨hs2, fun s hs => by have := HNL.out.idsizes s ((turned_perm qi ids).subset hs); omega, by rw [hiz]; omega⟩)
                have HCY := Lib.hid (show ∀ w' : World, Below wz.heap.size wz w' → Calls Tryz.prog 21 #[x, .agg #[.int .u8 u.kind, .int .i64 u.n, .string u.t, .slice an u.names.length cn, .slice ai u.items.length ci, .slice sz PZ.length cz], .agg #[.int .i64 t, .slice sb ids.length cb], .slice ka keys.length kc] w' (fun e w'' => e = .returned (.int .i64 (n : Int)) ∧ Below w'.heap.size w' w'') from fun w' h => by
                  have hI := HI.out w' (HZ0R.out w' h)
                  have hc := judgeCount v x u PZ an ai sz cn ci cz t (turned qi ids) sb cb keys ka kc w' (HXV.out w' (HZ5.out w' h)) (HEY.out w' PZ sz cz (HRZ.out.carry h) HMZ.out HLZ.out) (HAZ.out w' h) (HNL.out.row hI) HNUM.out (HP.out w' (HZ0R.out w' h)) (HT.out w' (HZ0R.out w' h))
                  rw [hcz, hiz] at hc
                  exact hc)
                have HNY := Lib.hid (show ∀ w' : World, Below wz.heap.size wz w' → Calls Tryz.prog 23 #[x, .agg #[.int .u8 u.kind, .int .i64 u.n, .string u.t, .slice an u.names.length cn, .slice ai u.items.length ci, .slice sz PZ.length cz], .agg #[.int .i64 t, .slice sb ids.length cb], .slice ka keys.length kc] w' (fun e w'' => e = .returned (.bool bn) ∧ Below w'.heap.size w' w'') from fun w' h => by
                  have hI := HI.out w' (HZ0R.out w' h)
                  have hc := judgeEnough v x u PZ an ai sz cn ci cz t (turned qi ids) sb cb keys ka kc w' (HXV.out w' (HZ5.out w' h)) (HEY.out w' PZ sz cz (HRZ.out.carry h) HMZ.out HLZ.out) (HAZ.out w' h) (HNL.out.row hI) HNUM.out (HP.out w' (HZ0R.out w' h)) (HT.out w' (HZ0R.out w' h))
                  rw [hez, hiz] at hc
                  exact hc)
                clear hrz hmz hlz hcz hez HR HRC HBC
                go_upto_region 18 with fail
                obtain ⟨V, hV⟩ : ∃ V : List MP, V = [.con (x), .con (.agg #[.int .u8 u.kind, .int .i64 u.n, .string u.t, .slice an u.names.length cn, .slice ai u.items.length ci, .slice sa l.length sc]), .con (.agg #[.int .i64 t, .slice ia ids.length ic]), .con (.slice ka keys.length kc), .con (.int .i64 (n : Int)), .con (x), .con (.agg #[.int .u8 u.kind, .int .i64 u.n, .string u.t, .slice an u.names.length cn, .slice ai u.items.length ci, .slice sz PZ.length cz]), .con (.agg #[.int .i64 t, .slice sb ids.length cb]), .con (.slice ka keys.length kc), .con (.int .i64 (n : Int)), .con (.bool true), .con (.bool true), .con (x), .con (.agg #[.int .u8 u.kind, .int .i64 u.n, .string u.t, .slice an u.names.length cn, .slice ai u.items.length ci, .slice sa l.length sc]), .con (.agg #[.int .i64 t, .slice ia ids.length ic]), .con (.slice ka keys.length kc), .con (.bool bn), .con (x), .con (.agg #[.int .u8 u.kind, .int .i64 u.n, .string u.t, .slice an u.names.length cn, .slice ai u.items.length ci, .slice sz PZ.length cz]), .con (.agg #[.int .i64 t, .slice sb ids.length cb]), .con (.slice ka keys.length kc), .con (.bool bn), .con (.bool true), .con (.bool true)] := ⟨_, rfl⟩
                have HV := Lib.hid hV
                clear hV
                refine wp_region_inv 24 (fun d a' w' => ∃ x140 x141 x142 x143 x144 x145 x146 x147 x148 x149 x150 x151 x152 x153 x154 x155 x156 x157 x158 x159 x160 x161 x162 x163, a' = ⟨#[Value.bool hm, Value.slice va vl.length vc, Value.agg #[Value.int IntKind.u8 u.kind, Value.int IntKind.i64 u.n, Value.string u.t, Value.slice an u.names.length cn, Value.slice ai u.items.length ci, Value.slice sa l.length sc], Value.agg #[Value.int IntKind.i64 t, Value.slice ia ids.length ic], Value.slice ka keys.length kc, Value.int IntKind.i64 by_, Value.int IntKind.i64 ag, undef, undef, Value.pointer (some { block := w.heap.size, off := 0 }), Value.pointer (some { block := w.heap.size + 1, off := 0 }), undef, undef, undef, u14, x, Value.pointer (some { block := Y, off := 0 }), Value.pointer (some { block := A, off := 0 }), Value.int IntKind.i64 (l.length : Int), Value.int IntKind.i64 (ids.length : Int), u20, u21, u22, u23, u24, u25, u26, u27, u28, u29, u30, u31, u32, u33, u34, u35, u36, u37, u38, u39, u40, u41, u42, u43, u44, u45, u46, u47, u48, u49, u50, u51, u52, u53, u54, u55, u56, u57, u58, u59, u60, u61, u62, u63, u64, u65, u66, u67, u68, u69, u70, u71, u72, u73, u74, u75, u76, u77, u78, u79, u80, u81, u82, u83, u84, u85, u86, u87, u88, u89, u90, u91, u92, u93, u94, u95, u96, u97, u98, u99, u100, u101, u102, u103, u104, u105, u106, u107, u108, u109, u110, u111, u112, u113, u114, u115, u116, u117, u118, u119, u120, u121, u122, u123, u124, u125, u126, u127, u128, u129, u130, u131, u132, u133, u134, u135, u136, u137, u138, u139, x140, x141, x142, x143, x144, x145, x146, x147, x148, x149, x150, x151, x152, x153, x154, x155, x156, x157, x158, x159, x160, x161, x162, x163], []⟩ ∧ RegI wz V d w' [x140, x141, x142, x143, x144, x145, x146, x147, x148, x149, x150, x151, x152, x153, x154, x155, x156, x157, x158, x159, x160, x161, x162, x163]) (by kernel_rfl) (by kernel_rfl) ?first ?step ?last
                case first => exact ⟨_, _, _, _, _, _, _, _, _, _, _, _, _, _, _, _, _, _, _, _, _, _, _, _, rfl, RegI.first _ _ _ (by rw [HV.out]; rfl)⟩
                case step =>
                  rintro d a' w' ⟨x140, x141, x142, x143, x144, x145, x146, x147, x148, x149, x150, x151, x152, x153, x154, x155, x156, x157, x158, x159, x160, x161, x162, x163, rfl, h⟩ q hq hn hw
                  rcases q with _ | _ | _ | _ | _ | _ | _ | _ | _ | _ | _ | _ | _ | _ | _ | _ | _ | _ | _ | _ | _ | _ | _ | _ | q
                  · refine wpOp_step rfl fun K hK => ?_
                    go_simp
                    exact hK _ _ ⟨_, x141, x142, x143, x144, x145, x146, x147, x148, x149, x150, x151, x152, x153, x154, x155, x156, x157, x158, x159, x160, x161, x162, x163, rfl, h.same 0 _ (.con (x)) (by rw [HV.out]; rfl) rfl⟩
                  · obtain ⟨q0, q1, q2, q3, q4, q5, q6, q7⟩ := HS.out w' (HZ0R.out w' h.1); obtain ⟨y0, y1, y2, y3, y4, y5, y6, y7⟩ := (HRZ.out.carry h.1).cells
                    refine wpOp_step rfl fun K hK => ?_
                    go_simp
                    exact hK _ _ ⟨x140, _, x142, x143, x144, x145, x146, x147, x148, x149, x150, x151, x152, x153, x154, x155, x156, x157, x158, x159, x160, x161, x162, x163, rfl, h.same 1 _ (.con (.agg #[.int .u8 u.kind, .int .i64 u.n, .string u.t, .slice an u.names.length cn, .slice ai u.items.length ci, .slice sa l.length sc])) (by rw [HV.out]; rfl) rfl⟩
                  · obtain ⟨q0, q1, q2, q3, q4, q5, q6, q7⟩ := HS.out w' (HZ0R.out w' h.1); obtain ⟨y0, y1, y2, y3, y4, y5, y6, y7⟩ := (HRZ.out.carry h.1).cells
                    refine wpOp_step rfl fun K hK => ?_
                    go_simp
                    exact hK _ _ ⟨x140, x141, _, x143, x144, x145, x146, x147, x148, x149, x150, x151, x152, x153, x154, x155, x156, x157, x158, x159, x160, x161, x162, x163, rfl, h.same 2 _ (.con (.agg #[.int .i64 t, .slice ia ids.length ic])) (by rw [HV.out]; rfl) rfl⟩
                  · refine wpOp_step rfl fun K hK => ?_
                    go_simp
                    exact hK _ _ ⟨x140, x141, x142, _, x144, x145, x146, x147, x148, x149, x150, x151, x152, x153, x154, x155, x156, x157, x158, x159, x160, x161, x162, x163, rfl, h.same 3 _ (.con (.slice ka keys.length kc)) (by rw [HV.out]; rfl) rfl⟩
                  · obtain rfl : x140 = x := h.get 0 (hw _ rfl ⟨0, .data⟩ (by simp) rfl) (.con (x)) (by rw [HV.out]; rfl) _ rfl
                    obtain rfl : x141 = .agg #[.int .u8 u.kind, .int .i64 u.n, .string u.t, .slice an u.names.length cn, .slice ai u.items.length ci, .slice sa l.length sc] := h.get 1 (hw _ rfl ⟨1, .data⟩ (by simp) rfl) (.con (.agg #[.int .u8 u.kind, .int .i64 u.n, .string u.t, .slice an u.names.length cn, .slice ai u.items.length ci, .slice sa l.length sc])) (by rw [HV.out]; rfl) _ rfl
                    obtain rfl : x142 = .agg #[.int .i64 t, .slice ia ids.length ic] := h.get 2 (hw _ rfl ⟨2, .data⟩ (by simp) rfl) (.con (.agg #[.int .i64 t, .slice ia ids.length ic])) (by rw [HV.out]; rfl) _ rfl
                    obtain rfl : x143 = .slice ka keys.length kc := h.get 3 (hw _ rfl ⟨3, .data⟩ (by simp) rfl) (.con (.slice ka keys.length kc)) (by rw [HV.out]; rfl) _ rfl
                    obtain ⟨q0, q1, q2, q3, q4, q5, q6, q7⟩ := HS.out w' (HZ0R.out w' h.1); obtain ⟨y0, y1, y2, y3, y4, y5, y6, y7⟩ := (HRZ.out.carry h.1).cells
                    refine wpOp_step rfl fun K hK => ?_
                    go_simp
                    refine (HCX.out w' h.1).mono ?_
                    rintro e w2 ⟨rfl, hb2⟩
                    exact hK _ _ ⟨_, _, _, _, _, x145, x146, x147, x148, x149, x150, x151, x152, x153, x154, x155, x156, x157, x158, x159, x160, x161, x162, x163, rfl, h.did hb2 4 _ (.con (.int .i64 (n : Int))) (by rw [HV.out]; rfl) rfl⟩
                  · refine wpOp_step rfl fun K hK => ?_
                    go_simp
                    exact hK _ _ ⟨x140, x141, x142, x143, x144, _, x146, x147, x148, x149, x150, x151, x152, x153, x154, x155, x156, x157, x158, x159, x160, x161, x162, x163, rfl, h.same 5 _ (.con (x)) (by rw [HV.out]; rfl) rfl⟩
                  · obtain ⟨q0, q1, q2, q3, q4, q5, q6, q7⟩ := HS.out w' (HZ0R.out w' h.1); obtain ⟨y0, y1, y2, y3, y4, y5, y6, y7⟩ := (HRZ.out.carry h.1).cells
                    refine wpOp_step rfl fun K hK => ?_
                    go_simp
                    exact hK _ _ ⟨x140, x141, x142, x143, x144, x145, _, x147, x148, x149, x150, x151, x152, x153, x154, x155, x156, x157, x158, x159, x160, x161, x162, x163, rfl, h.same 6 _ (.con (.agg #[.int .u8 u.kind, .int .i64 u.n, .string u.t, .slice an u.names.length cn, .slice ai u.items.length ci, .slice sz PZ.length cz])) (by rw [HV.out]; rfl) rfl⟩
                  · obtain ⟨q0, q1, q2, q3, q4, q5, q6, q7⟩ := HS.out w' (HZ0R.out w' h.1); obtain ⟨y0, y1, y2, y3, y4, y5, y6, y7⟩ := (HRZ.out.carry h.1).cells
                    refine wpOp_step rfl fun K hK => ?_
                    go_simp
                    exact hK _ _ ⟨x140, x141, x142, x143, x144, x145, x146, _, x148, x149, x150, x151, x152, x153, x154, x155, x156, x157, x158, x159, x160, x161, x162, x163, rfl, h.same 7 _ (.con (.agg #[.int .i64 t, .slice sb ids.length cb])) (by rw [HV.out]; rfl) rfl⟩
                  · refine wpOp_step rfl fun K hK => ?_
                    go_simp
                    exact hK _ _ ⟨x140, x141, x142, x143, x144, x145, x146, x147, _, x149, x150, x151, x152, x153, x154, x155, x156, x157, x158, x159, x160, x161, x162, x163, rfl, h.same 8 _ (.con (.slice ka keys.length kc)) (by rw [HV.out]; rfl) rfl⟩
                  · obtain rfl : x145 = x := h.get 5 (hw _ rfl ⟨5, .data⟩ (by simp) rfl) (.con (x)) (by rw [HV.out]; rfl) _ rfl
                    obtain rfl : x146 = .agg #[.int .u8 u.kind, .int .i64 u.n, .string u.t, .slice an u.names.length cn, .slice ai u.items.length ci, .slice sz PZ.length cz] := h.get 6 (hw _ rfl ⟨6, .data⟩ (by simp) rfl) (.con (.agg #[.int .u8 u.kind, .int .i64 u.n, .string u.t, .slice an u.names.length cn, .slice ai u.items.length ci, .slice sz PZ.length cz])) (by rw [HV.out]; rfl) _ rfl
                    obtain rfl : x147 = .agg #[.int .i64 t, .slice sb ids.length cb] := h.get 7 (hw _ rfl ⟨7, .data⟩ (by simp) rfl) (.con (.agg #[.int .i64 t, .slice sb ids.length cb])) (by rw [HV.out]; rfl) _ rfl
                    obtain rfl : x148 = .slice ka keys.length kc := h.get 8 (hw _ rfl ⟨8, .data⟩ (by simp) rfl) (.con (.slice ka keys.length kc)) (by rw [HV.out]; rfl) _ rfl
                    obtain ⟨q0, q1, q2, q3, q4, q5, q6, q7⟩ := HS.out w' (HZ0R.out w' h.1); obtain ⟨y0, y1, y2, y3, y4, y5, y6, y7⟩ := (HRZ.out.carry h.1).cells
                    refine wpOp_step rfl fun K hK => ?_
                    go_simp
                    refine (HCY.out w' h.1).mono ?_
                    rintro e w2 ⟨rfl, hb2⟩
                    exact hK _ _ ⟨x140, x141, x142, x143, x144, _, _, _, _, _, x150, x151, x152, x153, x154, x155, x156, x157, x158, x159, x160, x161, x162, x163, rfl, h.did hb2 9 _ (.con (.int .i64 (n : Int))) (by rw [HV.out]; rfl) rfl⟩
                  · obtain rfl : x144 = .int .i64 (n : Int) := h.get 4 (hw _ rfl ⟨4, .data⟩ (by simp) rfl) (.con (.int .i64 (n : Int))) (by rw [HV.out]; rfl) _ rfl
                    obtain rfl : x149 = .int .i64 (n : Int) := h.get 9 (hw _ rfl ⟨9, .data⟩ (by simp) rfl) (.con (.int .i64 (n : Int))) (by rw [HV.out]; rfl) _ rfl
                    refine wpOp_step rfl fun K hK => ?_
                    go_simp
                    exact hK _ _ ⟨x140, x141, x142, x143, _, x145, x146, x147, x148, _, _, x151, x152, x153, x154, x155, x156, x157, x158, x159, x160, x161, x162, x163, rfl, h.same 10 _ (.con (.bool true)) (by rw [HV.out]; rfl) rfl⟩
                  · obtain rfl : x150 = .bool true := h.get 10 (hw _ rfl ⟨10, .data⟩ (by simp) rfl) (.con (.bool true)) (by rw [HV.out]; rfl) _ rfl
                    refine wpOp_step rfl fun K hK => ?_
                    go_simp
                    exact hK _ _ ⟨x140, x141, x142, x143, x144, x145, x146, x147, x148, x149, _, _, x152, x153, x154, x155, x156, x157, x158, x159, x160, x161, x162, x163, rfl, h.same 11 _ (.con (.bool true)) (by rw [HV.out]; rfl) rfl⟩
                  · obtain rfl : x151 = .bool true := h.get 11 (hw _ rfl ⟨11, .guard⟩ (by simp) rfl) (.con (.bool true)) (by rw [HV.out]; rfl) _ rfl
                    refine wpOp_step rfl fun K hK => ?_
                    go_simp
                    exact hK _ _ ⟨x140, x141, x142, x143, x144, x145, x146, x147, x148, x149, x150, _, _, x153, x154, x155, x156, x157, x158, x159, x160, x161, x162, x163, rfl, h.same 12 _ (.con (x)) (by rw [HV.out]; rfl) rfl⟩
                  · obtain rfl : x151 = .bool true := h.get 11 (hw _ rfl ⟨11, .guard⟩ (by simp) rfl) (.con (.bool true)) (by rw [HV.out]; rfl) _ rfl
                    obtain ⟨q0, q1, q2, q3, q4, q5, q6, q7⟩ := HS.out w' (HZ0R.out w' h.1); obtain ⟨y0, y1, y2, y3, y4, y5, y6, y7⟩ := (HRZ.out.carry h.1).cells
                    refine wpOp_step rfl fun K hK => ?_
                    go_simp
                    exact hK _ _ ⟨x140, x141, x142, x143, x144, x145, x146, x147, x148, x149, x150, _, x152, _, x154, x155, x156, x157, x158, x159, x160, x161, x162, x163, rfl, h.same 13 _ (.con (.agg #[.int .u8 u.kind, .int .i64 u.n, .string u.t, .slice an u.names.length cn, .slice ai u.items.length ci, .slice sa l.length sc])) (by rw [HV.out]; rfl) rfl⟩
                  · obtain rfl : x151 = .bool true := h.get 11 (hw _ rfl ⟨11, .guard⟩ (by simp) rfl) (.con (.bool true)) (by rw [HV.out]; rfl) _ rfl
                    obtain ⟨q0, q1, q2, q3, q4, q5, q6, q7⟩ := HS.out w' (HZ0R.out w' h.1); obtain ⟨y0, y1, y2, y3, y4, y5, y6, y7⟩ := (HRZ.out.carry h.1).cells
                    refine wpOp_step rfl fun K hK => ?_
                    go_simp
                    exact hK _ _ ⟨x140, x141, x142, x143, x144, x145, x146, x147, x148, x149, x150, _, x152, x153, _, x155, x156, x157, x158, x159, x160, x161, x162, x163, rfl, h.same 14 _ (.con (.agg #[.int .i64 t, .slice ia ids.length ic])) (by rw [HV.out]; rfl) rfl⟩
                  · obtain rfl : x151 = .bool true := h.get 11 (hw _ rfl ⟨11, .guard⟩ (by simp) rfl) (.con (.bool true)) (by rw [HV.out]; rfl) _ rfl
                    refine wpOp_step rfl fun K hK => ?_
                    go_simp
                    exact hK _ _ ⟨x140, x141, x142, x143, x144, x145, x146, x147, x148, x149, x150, _, x152, x153, x154, _, x156, x157, x158, x159, x160, x161, x162, x163, rfl, h.same 15 _ (.con (.slice ka keys.length kc)) (by rw [HV.out]; rfl) rfl⟩
                  · obtain rfl : x151 = .bool true := h.get 11 (hw _ rfl ⟨11, .chain⟩ (by simp) rfl) (.con (.bool true)) (by rw [HV.out]; rfl) _ rfl
                    obtain rfl : x152 = x := h.get 12 (hw _ rfl ⟨12, .data⟩ (by simp) rfl) (.con (x)) (by rw [HV.out]; rfl) _ rfl
                    obtain rfl : x153 = .agg #[.int .u8 u.kind, .int .i64 u.n, .string u.t, .slice an u.names.length cn, .slice ai u.items.length ci, .slice sa l.length sc] := h.get 13 (hw _ rfl ⟨13, .data⟩ (by simp) rfl) (.con (.agg #[.int .u8 u.kind, .int .i64 u.n, .string u.t, .slice an u.names.length cn, .slice ai u.items.length ci, .slice sa l.length sc])) (by rw [HV.out]; rfl) _ rfl
                    obtain rfl : x154 = .agg #[.int .i64 t, .slice ia ids.length ic] := h.get 14 (hw _ rfl ⟨14, .data⟩ (by simp) rfl) (.con (.agg #[.int .i64 t, .slice ia ids.length ic])) (by rw [HV.out]; rfl) _ rfl
                    obtain rfl : x155 = .slice ka keys.length kc := h.get 15 (hw _ rfl ⟨15, .data⟩ (by simp) rfl) (.con (.slice ka keys.length kc)) (by rw [HV.out]; rfl) _ rfl
                    obtain ⟨q0, q1, q2, q3, q4, q5, q6, q7⟩ := HS.out w' (HZ0R.out w' h.1); obtain ⟨y0, y1, y2, y3, y4, y5, y6, y7⟩ := (HRZ.out.carry h.1).cells
                    refine wpOp_step rfl fun K hK => ?_
                    go_simp
                    refine (HNX.out w' h.1).mono ?_
                    rintro e w2 ⟨rfl, hb2⟩
                    exact hK _ _ ⟨x140, x141, x142, x143, x144, x145, x146, x147, x148, x149, x150, _, _, _, _, _, _, x157, x158, x159, x160, x161, x162, x163, rfl, h.did hb2 16 _ (.con (.bool bn)) (by rw [HV.out]; rfl) rfl⟩
                  · obtain rfl : x151 = .bool true := h.get 11 (hw _ rfl ⟨11, .guard⟩ (by simp) rfl) (.con (.bool true)) (by rw [HV.out]; rfl) _ rfl
                    refine wpOp_step rfl fun K hK => ?_
                    go_simp
                    exact hK _ _ ⟨x140, x141, x142, x143, x144, x145, x146, x147, x148, x149, x150, _, x152, x153, x154, x155, x156, _, x158, x159, x160, x161, x162, x163, rfl, h.same 17 _ (.con (x)) (by rw [HV.out]; rfl) rfl⟩
                  · obtain rfl : x151 = .bool true := h.get 11 (hw _ rfl ⟨11, .guard⟩ (by simp) rfl) (.con (.bool true)) (by rw [HV.out]; rfl) _ rfl
                    obtain ⟨q0, q1, q2, q3, q4, q5, q6, q7⟩ := HS.out w' (HZ0R.out w' h.1); obtain ⟨y0, y1, y2, y3, y4, y5, y6, y7⟩ := (HRZ.out.carry h.1).cells
                    refine wpOp_step rfl fun K hK => ?_
                    go_simp
                    exact hK _ _ ⟨x140, x141, x142, x143, x144, x145, x146, x147, x148, x149, x150, _, x152, x153, x154, x155, x156, x157, _, x159, x160, x161, x162, x163, rfl, h.same 18 _ (.con (.agg #[.int .u8 u.kind, .int .i64 u.n, .string u.t, .slice an u.names.length cn, .slice ai u.items.length ci, .slice sz PZ.length cz])) (by rw [HV.out]; rfl) rfl⟩
                  · obtain rfl : x151 = .bool true := h.get 11 (hw _ rfl ⟨11, .guard⟩ (by simp) rfl) (.con (.bool true)) (by rw [HV.out]; rfl) _ rfl
                    obtain ⟨q0, q1, q2, q3, q4, q5, q6, q7⟩ := HS.out w' (HZ0R.out w' h.1); obtain ⟨y0, y1, y2, y3, y4, y5, y6, y7⟩ := (HRZ.out.carry h.1).cells
                    refine wpOp_step rfl fun K hK => ?_
                    go_simp
                    exact hK _ _ ⟨x140, x141, x142, x143, x144, x145, x146, x147, x148, x149, x150, _, x152, x153, x154, x155, x156, x157, x158, _, x160, x161, x162, x163, rfl, h.same 19 _ (.con (.agg #[.int .i64 t, .slice sb ids.length cb])) (by rw [HV.out]; rfl) rfl⟩
                  · obtain rfl : x151 = .bool true := h.get 11 (hw _ rfl ⟨11, .guard⟩ (by simp) rfl) (.con (.bool true)) (by rw [HV.out]; rfl) _ rfl
                    refine wpOp_step rfl fun K hK => ?_
                    go_simp
                    exact hK _ _ ⟨x140, x141, x142, x143, x144, x145, x146, x147, x148, x149, x150, _, x152, x153, x154, x155, x156, x157, x158, x159, _, x161, x162, x163, rfl, h.same 20 _ (.con (.slice ka keys.length kc)) (by rw [HV.out]; rfl) rfl⟩
                  · obtain rfl : x151 = .bool true := h.get 11 (hw _ rfl ⟨11, .guard⟩ (by simp) rfl) (.con (.bool true)) (by rw [HV.out]; rfl) _ rfl
                    obtain rfl : x157 = x := h.get 17 (hw _ rfl ⟨17, .data⟩ (by simp) rfl) (.con (x)) (by rw [HV.out]; rfl) _ rfl
                    obtain rfl : x158 = .agg #[.int .u8 u.kind, .int .i64 u.n, .string u.t, .slice an u.names.length cn, .slice ai u.items.length ci, .slice sz PZ.length cz] := h.get 18 (hw _ rfl ⟨18, .data⟩ (by simp) rfl) (.con (.agg #[.int .u8 u.kind, .int .i64 u.n, .string u.t, .slice an u.names.length cn, .slice ai u.items.length ci, .slice sz PZ.length cz])) (by rw [HV.out]; rfl) _ rfl
                    obtain rfl : x159 = .agg #[.int .i64 t, .slice sb ids.length cb] := h.get 19 (hw _ rfl ⟨19, .data⟩ (by simp) rfl) (.con (.agg #[.int .i64 t, .slice sb ids.length cb])) (by rw [HV.out]; rfl) _ rfl
                    obtain rfl : x160 = .slice ka keys.length kc := h.get 20 (hw _ rfl ⟨20, .data⟩ (by simp) rfl) (.con (.slice ka keys.length kc)) (by rw [HV.out]; rfl) _ rfl
                    obtain ⟨q0, q1, q2, q3, q4, q5, q6, q7⟩ := HS.out w' (HZ0R.out w' h.1); obtain ⟨y0, y1, y2, y3, y4, y5, y6, y7⟩ := (HRZ.out.carry h.1).cells
                    refine wpOp_step rfl fun K hK => ?_
                    go_simp
                    refine (HNY.out w' h.1).mono ?_
                    rintro e w2 ⟨rfl, hb2⟩
                    exact hK _ _ ⟨x140, x141, x142, x143, x144, x145, x146, x147, x148, x149, x150, _, x152, x153, x154, x155, x156, _, _, _, _, _, x162, x163, rfl, h.did hb2 21 _ (.con (.bool bn)) (by rw [HV.out]; rfl) rfl⟩
                  · obtain rfl : x151 = .bool true := h.get 11 (hw _ rfl ⟨11, .guard⟩ (by simp) rfl) (.con (.bool true)) (by rw [HV.out]; rfl) _ rfl
                    obtain rfl : x156 = .bool bn := h.get 16 (hw _ rfl ⟨16, .data⟩ (by simp) rfl) (.con (.bool bn)) (by rw [HV.out]; rfl) _ rfl
                    obtain rfl : x161 = .bool bn := h.get 21 (hw _ rfl ⟨21, .data⟩ (by simp) rfl) (.con (.bool bn)) (by rw [HV.out]; rfl) _ rfl
                    refine wpOp_step rfl fun K hK => ?_
                    go_simp
                    exact hK _ _ ⟨x140, x141, x142, x143, x144, x145, x146, x147, x148, x149, x150, _, x152, x153, x154, x155, _, x157, x158, x159, x160, _, _, x163, rfl, h.same 22 _ (.con (.bool true)) (by rw [HV.out]; rfl) rfl⟩
                  · obtain rfl : x151 = .bool true := h.get 11 (hw _ rfl ⟨11, .data⟩ (by simp) rfl) (.con (.bool true)) (by rw [HV.out]; rfl) _ rfl
                    obtain rfl : x162 = .bool true := h.get 22 (hw _ rfl ⟨22, .data⟩ (by simp) rfl) (.con (.bool true)) (by rw [HV.out]; rfl) _ rfl
                    refine wpOp_step rfl fun K hK => ?_
                    go_simp
                    exact hK _ _ ⟨x140, x141, x142, x143, x144, x145, x146, x147, x148, x149, x150, _, x152, x153, x154, x155, x156, x157, x158, x159, x160, x161, _, _, rfl, h.same 23 _ (.con (.bool true)) (by rw [HV.out]; rfl) rfl⟩
                  · omega
                case last =>
                  rintro d a' w' hall ⟨x140, x141, x142, x143, x144, x145, x146, x147, x148, x149, x150, x151, x152, x153, x154, x155, x156, x157, x158, x159, x160, x161, x162, x163, rfl, h⟩
                  have hle := h.1
                  obtain rfl : x163 = .bool true := h.get 23 (hall _ (by omega)) (.con (.bool true)) (by rw [HV.out]; rfl) _ rfl
                  have HLE := Lib.hid hle
                  clear h hall hle HV
                  have HBL := Lib.hid (HZ0R.out _ HLE.out)
                  go_wp2
                  go_ret
                  exact ⟨by simp, HBT.out _ HBL.out⟩

end Go.Proofs.YtaekmmnpdbmoeaaGreatDoor
