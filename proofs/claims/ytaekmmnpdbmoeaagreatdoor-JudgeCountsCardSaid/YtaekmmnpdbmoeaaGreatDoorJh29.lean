/- The contract of legatelaw17.awake. Printed by genawake.py. -/
import Derived.Test.YtaekmmnpdbmoeaaGreatDoorJh26
import Derived.Test.YtaekmmnpdbmoeaaGreatDoorJh28
import Derived.Test.YtaekmmnpdbmoeaaGreatDoorJh13

namespace Go.Proofs.YtaekmmnpdbmoeaaGreatDoor
open Go.RowKit

def MP.ver : MP := ⟨fun w x => VerIs w x .mac, fun _ _ _ hb h => h.below hb⟩
theorem awake_keys : twoKeys = [jefeK, zeroK] ∧ twoIds = [id2 jefeK, id2 zeroK] ∧ twoSigs = [makeS jefeK [123, 125], makeS zeroK [123, 125]] := ⟨rfl, rfl, rfl⟩
theorem jefe_E : makeE jefeK = 0 := by unfold makeE; rw [if_pos jefe_ok, if_pos (show jefeK.1 = schemeH from rfl)]
theorem rep_leaf5 (w : World) (lo hi : Nat) : Rep w lo hi objJ (.agg #[.int .u8 5, .int .i64 0, .string { data := #[] }, .slice none 0 0, .slice none 0 0]) := by
  unfold Rep; exact ⟨none, 0, none, 0, rfl, Nat.le_refl _, Nat.le_refl _, .inl rfl, .inl rfl⟩
theorem envAt_obj {w : World} {l : List Sig2} {sa : Option Addr} (h : KeysAt w 0 w.heap.size sa l) (hs : ∀ s ∈ l, s.1.size ≤ 1000000 ∧ s.2.size ≤ 1000000) (hl : l.length ≤ 9223372036854775807) : EnvAt w objJ l none none sa 0 0 :=
  ⟨rep_leaf5 w 0 w.heap.size, h, objJ_wt, fun s h2 => by have := hs s h2; omega, hl⟩

set_option maxHeartbeats 2000000 in
set_option maxRecDepth 100000 in
theorem lawAwake17 (w : World) (hT : Tabs w) (hP : Pow10 w) : Calls Tryz.prog 14 #[] w fun e w' => e = .returned (.bool true) ∧ Below w.heap.size w w' := by
  have HT := Lib.hid hT
  have HP := Lib.hid hP
  clear hT hP
  have HJ0 := Lib.hid lawJefe
  have HMK0 := Lib.hid (show ∀ w : World, Tabs w → Calls Tryz.prog 18 #[.agg #[.string jefeK.1, .string jefeK.2], .string { data := #[119, 104, 97, 116, 32, 100, 111, 32, 121, 97, 32, 119, 97, 110, 116, 32, 102, 111, 114, 32, 110, 111, 116, 104, 105, 110, 103, 63] }] w (fun e w' => e = .returned (.tuple #[.agg #[.string (id2 jefeK), .string { data := #[53, 98, 100, 99, 99, 49, 52, 54, 98, 102, 54, 48, 55, 53, 52, 101, 54, 97, 48, 52, 50, 52, 50, 54, 48, 56, 57, 53, 55, 53, 99, 55, 53, 97, 48, 48, 51, 102, 48, 56, 57, 100, 50, 55, 51, 57, 56, 51, 57, 100, 101, 99, 53, 56, 98, 57, 54, 52, 101, 99, 51, 56, 52, 51] }], .int .i64 0]) ∧ Below w.heap.size w w') from fun w hT => by
    refine (judgeMake jefeK wantB w (by decide) (by decide) (by decide) hT).mono ?_
    rintro e w' ⟨rfl, hb⟩
    exact ⟨by rw [jefe_S, jefe_E]; rfl, hb⟩)
  have HME0 := Lib.hid (show ∃ T1 T2 : ByteArray, ∀ w : World, Tabs w → Calls Tryz.prog 18 #[.agg #[.string { data := #[101, 100, 50, 53, 53, 49, 57] }, .string { data := #[48, 48] }], .string { data := #[119, 104, 97, 116, 32, 100, 111, 32, 121, 97, 32, 119, 97, 110, 116, 32, 102, 111, 114, 32, 110, 111, 116, 104, 105, 110, 103, 63] }] w (fun e w' => e = .returned (.tuple #[.agg #[.string T1, .string T2], .int .i64 10]) ∧ Below w.heap.size w w') from ⟨_, _, fun w hT => by
    refine (judgeMake edK wantB w (by decide) (by decide) (by decide) hT).mono ?_
    rintro e w' ⟨rfl, hb⟩
    exact ⟨by rw [ed_E], hb⟩⟩)
  have HID0 := Lib.hid (show ∀ w : World, Tabs w → Calls Tryz.prog 37 #[.agg #[.string jefeK.1, .string jefeK.2]] w (fun e w' => e = .returned (.tuple #[.string (id2 jefeK), .int .i64 0]) ∧ Below w.heap.size w w') from fun w hT => by
    refine (keyId2 jefeK w (by decide) (by decide) hT).mono ?_
    rintro e w' ⟨rfl, hb⟩
    exact ⟨by rw [if_pos jefe_ok], hb⟩)
  have HG0 := Lib.hid (show ∀ w : World, Tabs w → ∀ x, VerIs w x .mac → Calls Tryz.prog 16 #[x, .agg #[.string jefeK.1, .string jefeK.2], .agg #[.string (id2 jefeK), .string { data := #[53, 98, 100, 99, 99, 49, 52, 54, 98, 102, 54, 48, 55, 53, 52, 101, 54, 97, 48, 52, 50, 52, 50, 54, 48, 56, 57, 53, 55, 53, 99, 55, 53, 97, 48, 48, 51, 102, 48, 56, 57, 100, 50, 55, 51, 57, 56, 51, 57, 100, 101, 99, 53, 56, 98, 57, 54, 52, 101, 99, 51, 56, 52, 51] }], .string { data := #[119, 104, 97, 116, 32, 100, 111, 32, 121, 97, 32, 119, 97, 110, 116, 32, 102, 111, 114, 32, 110, 111, 116, 104, 105, 110, 103, 63] }] w (fun e w' => e = .returned (.bool true) ∧ Below w.heap.size w w') from fun w hT x hx => by
    refine (judgeGood .mac x jefeK (id2 jefeK, macB) wantB w hx (by decide) (by decide) (by decide) (by decide) hT).mono ?_
    rintro e w' ⟨rfl, hb⟩
    exact ⟨by rw [jefe_good], hb⟩)
  have HH := Lib.hid (show ∀ w : World, Calls Tryz.prog 26 #[] w (fun e w' => ∃ x, e = .returned x ∧ VerIs w' x .mac ∧ Below w.heap.size w w') from fun w => by
    refine (judgeHMAC w).mono ?_
    rintro e w' ⟨rfl, rfl⟩
    exact ⟨_, rfl, ⟨_, rfl, heap_alloc_new w _⟩, (Below.refl _ _).alloc (Nat.le_refl _) _⟩)
  have HTW := Lib.hid (fun w hT => lawTwo w hT)
  have HKF := Lib.hid awake_keys
  have HSZ := Lib.hid two_sizes
  have HKS := Lib.hid (show ∀ k ∈ [jefeK, zeroK], k.1.size ≤ 300 ∧ k.2.size ≤ 300 from twoKeys_size)
  have HCN := Lib.hid (And.intro two_count (And.intro two_again (And.intro two_enough two_scant)))
  obtain ⟨J, hJ⟩ : ∃ J, J = jefeK := ⟨_, rfl⟩
  obtain ⟨ID, hID⟩ : ∃ ID, ID = id2 jefeK := ⟨_, rfl⟩
  obtain ⟨Z2, hZ2⟩ : ∃ Z2, Z2 = id2 zeroK := ⟨_, rfl⟩
  obtain ⟨⟨s0, s1⟩, hS⟩ : ∃ s : Sig2, s = makeS jefeK [123, 125] := ⟨_, rfl⟩
  obtain ⟨⟨t0, t1⟩, hZS⟩ : ∃ s : Sig2, s = makeS zeroK [123, 125] := ⟨_, rfl⟩
  rw [← hID, ← hZ2] at HCN HSZ
  rw [← hS, ← hZS] at HCN HSZ
  rw [← hID, ← hZ2, ← hS, ← hZS] at HKF
  rw [← hID] at HMK0 HID0 HG0
  obtain ⟨Z, hZ⟩ : ∃ Z, Z = zeroK := ⟨_, rfl⟩
  rw [← hJ] at HJ0 HMK0 HID0 HG0
  rw [← hJ, ← hZ] at HCN HKF HKS
  clear hJ hID hZ2 hS hZS hZ
  obtain ⟨T1, T2, hME⟩ := HME0.out
  have HME := Lib.hid hME
  clear hME HME0
  go_enter Tryz.func14, Tryz.ntmps14
  go_wp2_with fail
  refine (HJ0.out _).mono ?_
  rintro e w1 ⟨rfl, hb1⟩
  have HB1 := Lib.hid hb1
  clear hb1
  go_wp2_with fail
  refine (HMK0.out _ (HT.out.below HB1.out)).mono ?_
  rintro e w2 ⟨rfl, hb2⟩
  have HB2 := Lib.hid (HB1.out.trans (hb2.mono HB1.out.size))
  clear hb2
  have HX2 := Lib.hid (heap_alloc_new w2 (.cells #[.string ID, .string { data := #[53, 98, 100, 99, 99, 49, 52, 54, 98, 102, 54, 48, 55, 53, 52, 101, 54, 97, 48, 52, 50, 52, 50, 54, 48, 56, 57, 53, 55, 53, 99, 55, 53, 97, 48, 48, 51, 102, 48, 56, 57, 100, 50, 55, 51, 57, 56, 51, 57, 100, 101, 99, 53, 56, 98, 57, 54, 52, 101, 99, 51, 56, 52, 51] }] 26))
  have HB2' := Lib.hid (HB2.out.alloc HB2.out.size (.cells #[.string ID, .string { data := #[53, 98, 100, 99, 99, 49, 52, 54, 98, 102, 54, 48, 55, 53, 52, 101, 54, 97, 48, 52, 50, 52, 50, 54, 48, 56, 57, 53, 55, 53, 99, 55, 53, 97, 48, 48, 51, 102, 48, 56, 57, 100, 50, 55, 51, 57, 56, 51, 57, 100, 101, 99, 53, 56, 98, 57, 54, 52, 101, 99, 51, 56, 52, 51] }] 26))
  go_wp2_with fail
  refine (HME.out _ (HT.out.below HB2'.out)).mono ?_
  rintro e w3 ⟨rfl, hb3⟩
  have hz3 : w2.heap.size < w3.heap.size := by have := hb3.size; simp at this; omega
  have HX3 := Lib.hid ((hb3.block _ (heap_lt HX2.out)).trans HX2.out)
  have HB3 := Lib.hid ((HB2'.out.trans (hb3.mono HB2'.out.size)).alloc (HB2'.out.trans (hb3.mono HB2'.out.size)).size (.cells #[.string T1, .string T2] 26))
  clear hb3
  go_wp2_with fail
  refine (HJ0.out _).mono ?_
  rintro e w4 ⟨rfl, hb4⟩
  have HB4 := Lib.hid (HB3.out.trans (hb4.mono HB3.out.size))
  have HX4 := Lib.hid (show w4.heap[w2.heap.size]? = _ from (hb4.block _ (by simp; omega)).trans ((Below.heap_alloc _ _ _ (by omega)).trans HX3.out))
  clear hb4
  go_wp2_with fail
  refine (HID0.out _ (HT.out.below HB4.out)).mono ?_
  rintro e w5 ⟨rfl, hb5⟩
  have HB5 := Lib.hid (HB4.out.trans (hb5.mono HB4.out.size))
  have HX5 := Lib.hid ((hb5.block _ (heap_lt HX4.out)).trans HX4.out)
  clear hb5
  have HS := Lib.hid (show ∀ w' : World, Below w5.heap.size w5 w' → w'.cell? ⟨w2.heap.size, 0, none⟩ = some (.string ID) ∧ w'.cell? ⟨w2.heap.size, 1, none⟩ = some (.string { data := #[53, 98, 100, 99, 99, 49, 52, 54, 98, 102, 54, 48, 55, 53, 52, 101, 54, 97, 48, 52, 50, 52, 50, 54, 48, 56, 57, 53, 55, 53, 99, 55, 53, 97, 48, 48, 51, 102, 48, 56, 57, 100, 50, 55, 51, 57, 56, 51, 57, 100, 101, 99, 53, 56, 98, 57, 54, 52, 101, 99, 51, 56, 52, 51] }) from fun w' h => by
    have y0 := (h.block _ (heap_lt HX5.out)).trans HX5.out
    exact ⟨box_cell y0 rfl, box_cell y0 rfl⟩)
  have HJ := HJ0
  have HG := Lib.hid (fun (w' : World) (h : Below w5.heap.size w5 w') x hx => HG0.out w' (HT.out.below (HB5.out.trans (h.mono HB5.out.size))) x hx)
  go_wp2_with fail
  obtain ⟨V, hV⟩ : ∃ V : List MP, V = [.con (.int .i64 0), .con (.bool false), .con (.bool false), .con (.pointer (some ⟨w2.heap.size, 1, none⟩)), .con (.string { data := #[53, 98, 100, 99, 99, 49, 52, 54, 98, 102, 54, 48, 55, 53, 52, 101, 54, 97, 48, 52, 50, 52, 50, 54, 48, 56, 57, 53, 55, 53, 99, 55, 53, 97, 48, 48, 51, 102, 48, 56, 57, 100, 50, 55, 51, 57, 56, 51, 57, 100, 101, 99, 53, 56, 98, 57, 54, 52, 101, 99, 51, 56, 52, 51] }), .con (.bool false), .con (.bool false), .con (.bool false), .con (.int .i64 0), .con (.bool false), .con (.bool false), .con (.bool false), .con (.pointer (some ⟨w2.heap.size, 0, none⟩)), .con (.string ID), .con (.string ID), .con (.bool false), .con (.bool false), .con (.bool false), .con (.int .i64 10), .con (.bool false), .con (.bool false), .con (.bool false), MP.ver, .con (.agg #[.string J.1, .string J.2]), .con (.agg #[.string ID, .string { data := #[53, 98, 100, 99, 99, 49, 52, 54, 98, 102, 54, 48, 55, 53, 52, 101, 54, 97, 48, 52, 50, 52, 50, 54, 48, 56, 57, 53, 55, 53, 99, 55, 53, 97, 48, 48, 51, 102, 48, 56, 57, 100, 50, 55, 51, 57, 56, 51, 57, 100, 101, 99, 53, 56, 98, 57, 54, 52, 101, 99, 51, 56, 52, 51] }]), .con (.bool true), .con (.bool false)] := ⟨_, rfl⟩
  have HV := Lib.hid hV
  clear hV
  refine wp_region_inv 27 (fun d a' w' => ∃ x27 x28 x29 x30 x31 x32 x33 x34 x35 x36 x37 x38 x39 x40 x41 x42 x43 x44 x45 x46 x47 x48 x49 x50 x51 x52 x53, a' = ⟨#[.bool false, .pointer (some ⟨w2.heap.size, 0, none⟩), .int .i64 0, .pointer (some ⟨w3.heap.size, 0, none⟩), .int .i64 10, .string ID, .int .i64 0, undef, undef, undef, undef, undef, .tuple #[.agg #[.string ID, .string { data := #[53, 98, 100, 99, 99, 49, 52, 54, 98, 102, 54, 48, 55, 53, 52, 101, 54, 97, 48, 52, 50, 52, 50, 54, 48, 56, 57, 53, 55, 53, 99, 55, 53, 97, 48, 48, 51, 102, 48, 56, 57, 100, 50, 55, 51, 57, 56, 51, 57, 100, 101, 99, 53, 56, 98, 57, 54, 52, 101, 99, 51, 56, 52, 51] }], .int .i64 0], .agg #[.string J.1, .string J.2], .tuple #[.agg #[.string ID, .string { data := #[53, 98, 100, 99, 99, 49, 52, 54, 98, 102, 54, 48, 55, 53, 52, 101, 54, 97, 48, 52, 50, 52, 50, 54, 48, 56, 57, 53, 55, 53, 99, 55, 53, 97, 48, 48, 51, 102, 48, 56, 57, 100, 50, 55, 51, 57, 56, 51, 57, 100, 101, 99, 53, 56, 98, 57, 54, 52, 101, 99, 51, 56, 52, 51] }], .int .i64 0], .agg #[.string ID, .string { data := #[53, 98, 100, 99, 99, 49, 52, 54, 98, 102, 54, 48, 55, 53, 52, 101, 54, 97, 48, 52, 50, 52, 50, 54, 48, 56, 57, 53, 55, 53, 99, 55, 53, 97, 48, 48, 51, 102, 48, 56, 57, 100, 50, 55, 51, 57, 56, 51, 57, 100, 101, 99, 53, 56, 98, 57, 54, 52, 101, 99, 51, 56, 52, 51] }], .int .i64 0, .tuple #[.agg #[.string T1, .string T2], .int .i64 10], .agg #[.string { data := #[101, 100, 50, 53, 53, 49, 57] }, .string { data := #[48, 48] }], .tuple #[.agg #[.string T1, .string T2], .int .i64 10], .agg #[.string T1, .string T2], .int .i64 10, .tuple #[.string ID, .int .i64 0], .agg #[.string J.1, .string J.2], .tuple #[.string ID, .int .i64 0], .string ID, .int .i64 0, x27, x28, x29, x30, x31, x32, x33, x34, x35, x36, x37, x38, x39, x40, x41, x42, x43, x44, x45, x46, x47, x48, x49, x50, x51, x52, x53, undef, undef, undef, undef, undef, undef, undef, undef, undef, undef, undef, undef, undef, undef, undef, undef, undef, undef, undef, undef, undef, undef, undef, undef, undef, undef, undef, undef, undef, undef, undef, undef, undef, undef, undef, undef, undef, undef, undef, undef, undef, undef, undef, undef, undef, undef, undef, undef], []⟩ ∧ RegI w5 V d w' [x27, x28, x29, x30, x31, x32, x33, x34, x35, x36, x37, x38, x39, x40, x41, x42, x43, x44, x45, x46, x47, x48, x49, x50, x51, x52, x53]) (by kernel_rfl) (by kernel_rfl) ?first ?step ?last
  case first => exact ⟨_, _, _, _, _, _, _, _, _, _, _, _, _, _, _, _, _, _, _, _, _, _, _, _, _, _, _, rfl, RegI.first _ _ _ (by rw [HV.out]; rfl)⟩
  case step =>
    rintro d a' w' ⟨x27, x28, x29, x30, x31, x32, x33, x34, x35, x36, x37, x38, x39, x40, x41, x42, x43, x44, x45, x46, x47, x48, x49, x50, x51, x52, x53, rfl, h⟩ q hq hn hw
    rcases q with _ | _ | _ | _ | _ | _ | _ | _ | _ | _ | _ | _ | _ | _ | _ | _ | _ | _ | _ | _ | _ | _ | _ | _ | _ | _ | _ | q
    · refine wpOp_step rfl fun K hK => ?_
      go_simp
      exact hK _ _ ⟨_, x28, x29, x30, x31, x32, x33, x34, x35, x36, x37, x38, x39, x40, x41, x42, x43, x44, x45, x46, x47, x48, x49, x50, x51, x52, x53, rfl, h.same 0 _ (.con (.int .i64 0)) (by rw [HV.out]; rfl) rfl⟩
    · obtain rfl : x27 = .int .i64 0 := h.get 0 (hw _ rfl ⟨0, .data⟩ (by simp) rfl) (.con (.int .i64 0)) (by rw [HV.out]; rfl) _ rfl
      refine wpOp_step rfl fun K hK => ?_
      go_simp
      exact hK _ _ ⟨_, _, x29, x30, x31, x32, x33, x34, x35, x36, x37, x38, x39, x40, x41, x42, x43, x44, x45, x46, x47, x48, x49, x50, x51, x52, x53, rfl, h.same 1 _ (.con (.bool false)) (by rw [HV.out]; rfl) rfl⟩
    · obtain rfl : x28 = .bool false := h.get 1 (hw _ rfl ⟨1, .data⟩ (by simp) rfl) (.con (.bool false)) (by rw [HV.out]; rfl) _ rfl
      refine wpOp_step rfl fun K hK => ?_
      go_simp
      exact hK _ _ ⟨x27, _, _, x30, x31, x32, x33, x34, x35, x36, x37, x38, x39, x40, x41, x42, x43, x44, x45, x46, x47, x48, x49, x50, x51, x52, x53, rfl, h.same 2 _ (.con (.bool false)) (by rw [HV.out]; rfl) rfl⟩
    · obtain rfl : x29 = .bool false := h.get 2 (hw _ rfl ⟨2, .guard⟩ (by simp) rfl) (.con (.bool false)) (by rw [HV.out]; rfl) _ rfl
      refine wpOp_step rfl fun K hK => ?_
      go_simp
      exact hK _ _ ⟨x27, x28, _, _, x31, x32, x33, x34, x35, x36, x37, x38, x39, x40, x41, x42, x43, x44, x45, x46, x47, x48, x49, x50, x51, x52, x53, rfl, h.same 3 _ (.con (.pointer (some ⟨w2.heap.size, 1, none⟩))) (by rw [HV.out]; rfl) rfl⟩
    · obtain rfl : x29 = .bool false := h.get 2 (hw _ rfl ⟨2, .guard⟩ (by simp) rfl) (.con (.bool false)) (by rw [HV.out]; rfl) _ rfl
      obtain rfl : x30 = .pointer (some ⟨w2.heap.size, 1, none⟩) := h.get 3 (hw _ rfl ⟨3, .data⟩ (by simp) rfl) (.con (.pointer (some ⟨w2.heap.size, 1, none⟩))) (by rw [HV.out]; rfl) _ rfl
      obtain ⟨q0, q1⟩ := HS.out w' h.1
      refine wpOp_step rfl fun K hK => ?_
      go_simp
      exact hK _ _ ⟨x27, x28, _, _, _, x32, x33, x34, x35, x36, x37, x38, x39, x40, x41, x42, x43, x44, x45, x46, x47, x48, x49, x50, x51, x52, x53, rfl, h.same 4 _ (.con (.string { data := #[53, 98, 100, 99, 99, 49, 52, 54, 98, 102, 54, 48, 55, 53, 52, 101, 54, 97, 48, 52, 50, 52, 50, 54, 48, 56, 57, 53, 55, 53, 99, 55, 53, 97, 48, 48, 51, 102, 48, 56, 57, 100, 50, 55, 51, 57, 56, 51, 57, 100, 101, 99, 53, 56, 98, 57, 54, 52, 101, 99, 51, 56, 52, 51] })) (by rw [HV.out]; rfl) rfl⟩
    · obtain rfl : x29 = .bool false := h.get 2 (hw _ rfl ⟨2, .guard⟩ (by simp) rfl) (.con (.bool false)) (by rw [HV.out]; rfl) _ rfl
      obtain rfl : x31 = .string { data := #[53, 98, 100, 99, 99, 49, 52, 54, 98, 102, 54, 48, 55, 53, 52, 101, 54, 97, 48, 52, 50, 52, 50, 54, 48, 56, 57, 53, 55, 53, 99, 55, 53, 97, 48, 48, 51, 102, 48, 56, 57, 100, 50, 55, 51, 57, 56, 51, 57, 100, 101, 99, 53, 56, 98, 57, 54, 52, 101, 99, 51, 56, 52, 51] } := h.get 4 (hw _ rfl ⟨4, .data⟩ (by simp) rfl) (.con (.string { data := #[53, 98, 100, 99, 99, 49, 52, 54, 98, 102, 54, 48, 55, 53, 52, 101, 54, 97, 48, 52, 50, 52, 50, 54, 48, 56, 57, 53, 55, 53, 99, 55, 53, 97, 48, 48, 51, 102, 48, 56, 57, 100, 50, 55, 51, 57, 56, 51, 57, 100, 101, 99, 53, 56, 98, 57, 54, 52, 101, 99, 51, 56, 52, 51] })) (by rw [HV.out]; rfl) _ rfl
      refine wpOp_step rfl fun K hK => ?_
      go_simp
      exact hK _ _ ⟨x27, x28, _, x30, _, _, x33, x34, x35, x36, x37, x38, x39, x40, x41, x42, x43, x44, x45, x46, x47, x48, x49, x50, x51, x52, x53, rfl, h.same 5 _ (.con (.bool false)) (by rw [HV.out]; rfl) rfl⟩
    · obtain rfl : x29 = .bool false := h.get 2 (hw _ rfl ⟨2, .data⟩ (by simp) rfl) (.con (.bool false)) (by rw [HV.out]; rfl) _ rfl
      obtain rfl : x32 = .bool false := h.get 5 (hw _ rfl ⟨5, .data⟩ (by simp) rfl) (.con (.bool false)) (by rw [HV.out]; rfl) _ rfl
      refine wpOp_step rfl fun K hK => ?_
      go_simp
      exact hK _ _ ⟨x27, x28, _, x30, x31, _, _, x34, x35, x36, x37, x38, x39, x40, x41, x42, x43, x44, x45, x46, x47, x48, x49, x50, x51, x52, x53, rfl, h.same 6 _ (.con (.bool false)) (by rw [HV.out]; rfl) rfl⟩
    · obtain rfl : x33 = .bool false := h.get 6 (hw _ rfl ⟨6, .data⟩ (by simp) rfl) (.con (.bool false)) (by rw [HV.out]; rfl) _ rfl
      refine wpOp_step rfl fun K hK => ?_
      go_simp
      exact hK _ _ ⟨x27, x28, x29, x30, x31, x32, _, _, x35, x36, x37, x38, x39, x40, x41, x42, x43, x44, x45, x46, x47, x48, x49, x50, x51, x52, x53, rfl, h.same 7 _ (.con (.bool false)) (by rw [HV.out]; rfl) rfl⟩
    · obtain rfl : x34 = .bool false := h.get 7 (hw _ rfl ⟨7, .guard⟩ (by simp) rfl) (.con (.bool false)) (by rw [HV.out]; rfl) _ rfl
      refine wpOp_step rfl fun K hK => ?_
      go_simp
      exact hK _ _ ⟨x27, x28, x29, x30, x31, x32, x33, _, _, x36, x37, x38, x39, x40, x41, x42, x43, x44, x45, x46, x47, x48, x49, x50, x51, x52, x53, rfl, h.same 8 _ (.con (.int .i64 0)) (by rw [HV.out]; rfl) rfl⟩
    · obtain rfl : x34 = .bool false := h.get 7 (hw _ rfl ⟨7, .guard⟩ (by simp) rfl) (.con (.bool false)) (by rw [HV.out]; rfl) _ rfl
      obtain rfl : x35 = .int .i64 0 := h.get 8 (hw _ rfl ⟨8, .data⟩ (by simp) rfl) (.con (.int .i64 0)) (by rw [HV.out]; rfl) _ rfl
      refine wpOp_step rfl fun K hK => ?_
      go_simp
      exact hK _ _ ⟨x27, x28, x29, x30, x31, x32, x33, _, _, _, x37, x38, x39, x40, x41, x42, x43, x44, x45, x46, x47, x48, x49, x50, x51, x52, x53, rfl, h.same 9 _ (.con (.bool false)) (by rw [HV.out]; rfl) rfl⟩
    · obtain rfl : x34 = .bool false := h.get 7 (hw _ rfl ⟨7, .data⟩ (by simp) rfl) (.con (.bool false)) (by rw [HV.out]; rfl) _ rfl
      obtain rfl : x36 = .bool false := h.get 9 (hw _ rfl ⟨9, .data⟩ (by simp) rfl) (.con (.bool false)) (by rw [HV.out]; rfl) _ rfl
      refine wpOp_step rfl fun K hK => ?_
      go_simp
      exact hK _ _ ⟨x27, x28, x29, x30, x31, x32, x33, _, x35, _, _, x38, x39, x40, x41, x42, x43, x44, x45, x46, x47, x48, x49, x50, x51, x52, x53, rfl, h.same 10 _ (.con (.bool false)) (by rw [HV.out]; rfl) rfl⟩
    · obtain rfl : x37 = .bool false := h.get 10 (hw _ rfl ⟨10, .data⟩ (by simp) rfl) (.con (.bool false)) (by rw [HV.out]; rfl) _ rfl
      refine wpOp_step rfl fun K hK => ?_
      go_simp
      exact hK _ _ ⟨x27, x28, x29, x30, x31, x32, x33, x34, x35, x36, _, _, x39, x40, x41, x42, x43, x44, x45, x46, x47, x48, x49, x50, x51, x52, x53, rfl, h.same 11 _ (.con (.bool false)) (by rw [HV.out]; rfl) rfl⟩
    · obtain rfl : x38 = .bool false := h.get 11 (hw _ rfl ⟨11, .guard⟩ (by simp) rfl) (.con (.bool false)) (by rw [HV.out]; rfl) _ rfl
      refine wpOp_step rfl fun K hK => ?_
      go_simp
      exact hK _ _ ⟨x27, x28, x29, x30, x31, x32, x33, x34, x35, x36, x37, _, _, x40, x41, x42, x43, x44, x45, x46, x47, x48, x49, x50, x51, x52, x53, rfl, h.same 12 _ (.con (.pointer (some ⟨w2.heap.size, 0, none⟩))) (by rw [HV.out]; rfl) rfl⟩
    · obtain rfl : x38 = .bool false := h.get 11 (hw _ rfl ⟨11, .guard⟩ (by simp) rfl) (.con (.bool false)) (by rw [HV.out]; rfl) _ rfl
      obtain rfl : x39 = .pointer (some ⟨w2.heap.size, 0, none⟩) := h.get 12 (hw _ rfl ⟨12, .data⟩ (by simp) rfl) (.con (.pointer (some ⟨w2.heap.size, 0, none⟩))) (by rw [HV.out]; rfl) _ rfl
      obtain ⟨q0, q1⟩ := HS.out w' h.1
      refine wpOp_step rfl fun K hK => ?_
      go_simp
      exact hK _ _ ⟨x27, x28, x29, x30, x31, x32, x33, x34, x35, x36, x37, _, _, _, x41, x42, x43, x44, x45, x46, x47, x48, x49, x50, x51, x52, x53, rfl, h.same 13 _ (.con (.string ID)) (by rw [HV.out]; rfl) rfl⟩
    · obtain rfl : x38 = .bool false := h.get 11 (hw _ rfl ⟨11, .guard⟩ (by simp) rfl) (.con (.bool false)) (by rw [HV.out]; rfl) _ rfl
      refine wpOp_step rfl fun K hK => ?_
      go_simp
      exact hK _ _ ⟨x27, x28, x29, x30, x31, x32, x33, x34, x35, x36, x37, _, x39, x40, _, x42, x43, x44, x45, x46, x47, x48, x49, x50, x51, x52, x53, rfl, h.same 14 _ (.con (.string ID)) (by rw [HV.out]; rfl) rfl⟩
    · obtain rfl : x38 = .bool false := h.get 11 (hw _ rfl ⟨11, .guard⟩ (by simp) rfl) (.con (.bool false)) (by rw [HV.out]; rfl) _ rfl
      obtain rfl : x40 = .string ID := h.get 13 (hw _ rfl ⟨13, .data⟩ (by simp) rfl) (.con (.string ID)) (by rw [HV.out]; rfl) _ rfl
      obtain rfl : x41 = .string ID := h.get 14 (hw _ rfl ⟨14, .data⟩ (by simp) rfl) (.con (.string ID)) (by rw [HV.out]; rfl) _ rfl
      refine wpOp_step rfl fun K hK => ?_
      go_simp
      exact hK _ _ ⟨x27, x28, x29, x30, x31, x32, x33, x34, x35, x36, x37, _, x39, _, _, _, x43, x44, x45, x46, x47, x48, x49, x50, x51, x52, x53, rfl, h.same 15 _ (.con (.bool false)) (by rw [HV.out]; rfl) rfl⟩
    · obtain rfl : x38 = .bool false := h.get 11 (hw _ rfl ⟨11, .data⟩ (by simp) rfl) (.con (.bool false)) (by rw [HV.out]; rfl) _ rfl
      obtain rfl : x42 = .bool false := h.get 15 (hw _ rfl ⟨15, .data⟩ (by simp) rfl) (.con (.bool false)) (by rw [HV.out]; rfl) _ rfl
      refine wpOp_step rfl fun K hK => ?_
      go_simp
      exact hK _ _ ⟨x27, x28, x29, x30, x31, x32, x33, x34, x35, x36, x37, _, x39, x40, x41, _, _, x44, x45, x46, x47, x48, x49, x50, x51, x52, x53, rfl, h.same 16 _ (.con (.bool false)) (by rw [HV.out]; rfl) rfl⟩
    · obtain rfl : x43 = .bool false := h.get 16 (hw _ rfl ⟨16, .data⟩ (by simp) rfl) (.con (.bool false)) (by rw [HV.out]; rfl) _ rfl
      refine wpOp_step rfl fun K hK => ?_
      go_simp
      exact hK _ _ ⟨x27, x28, x29, x30, x31, x32, x33, x34, x35, x36, x37, x38, x39, x40, x41, x42, _, _, x45, x46, x47, x48, x49, x50, x51, x52, x53, rfl, h.same 17 _ (.con (.bool false)) (by rw [HV.out]; rfl) rfl⟩
    · obtain rfl : x44 = .bool false := h.get 17 (hw _ rfl ⟨17, .guard⟩ (by simp) rfl) (.con (.bool false)) (by rw [HV.out]; rfl) _ rfl
      refine wpOp_step rfl fun K hK => ?_
      go_simp
      exact hK _ _ ⟨x27, x28, x29, x30, x31, x32, x33, x34, x35, x36, x37, x38, x39, x40, x41, x42, x43, _, _, x46, x47, x48, x49, x50, x51, x52, x53, rfl, h.same 18 _ (.con (.int .i64 10)) (by rw [HV.out]; rfl) rfl⟩
    · obtain rfl : x44 = .bool false := h.get 17 (hw _ rfl ⟨17, .guard⟩ (by simp) rfl) (.con (.bool false)) (by rw [HV.out]; rfl) _ rfl
      obtain rfl : x45 = .int .i64 10 := h.get 18 (hw _ rfl ⟨18, .data⟩ (by simp) rfl) (.con (.int .i64 10)) (by rw [HV.out]; rfl) _ rfl
      refine wpOp_step rfl fun K hK => ?_
      go_simp
      exact hK _ _ ⟨x27, x28, x29, x30, x31, x32, x33, x34, x35, x36, x37, x38, x39, x40, x41, x42, x43, _, _, _, x47, x48, x49, x50, x51, x52, x53, rfl, h.same 19 _ (.con (.bool false)) (by rw [HV.out]; rfl) rfl⟩
    · obtain rfl : x44 = .bool false := h.get 17 (hw _ rfl ⟨17, .data⟩ (by simp) rfl) (.con (.bool false)) (by rw [HV.out]; rfl) _ rfl
      obtain rfl : x46 = .bool false := h.get 19 (hw _ rfl ⟨19, .data⟩ (by simp) rfl) (.con (.bool false)) (by rw [HV.out]; rfl) _ rfl
      refine wpOp_step rfl fun K hK => ?_
      go_simp
      exact hK _ _ ⟨x27, x28, x29, x30, x31, x32, x33, x34, x35, x36, x37, x38, x39, x40, x41, x42, x43, _, x45, _, _, x48, x49, x50, x51, x52, x53, rfl, h.same 20 _ (.con (.bool false)) (by rw [HV.out]; rfl) rfl⟩
    · obtain rfl : x47 = .bool false := h.get 20 (hw _ rfl ⟨20, .data⟩ (by simp) rfl) (.con (.bool false)) (by rw [HV.out]; rfl) _ rfl
      refine wpOp_step rfl fun K hK => ?_
      go_simp
      exact hK _ _ ⟨x27, x28, x29, x30, x31, x32, x33, x34, x35, x36, x37, x38, x39, x40, x41, x42, x43, x44, x45, x46, _, _, x49, x50, x51, x52, x53, rfl, h.same 21 _ (.con (.bool false)) (by rw [HV.out]; rfl) rfl⟩
    · obtain rfl : x48 = .bool false := h.get 21 (hw _ rfl ⟨21, .chain⟩ (by simp) rfl) (.con (.bool false)) (by rw [HV.out]; rfl) _ rfl
      obtain ⟨q0, q1⟩ := HS.out w' h.1
      refine wpOp_step rfl fun K hK => ?_
      go_simp
      refine (HH.out w').mono ?_
      rintro e w2 ⟨y, rfl, hy, hb2⟩
      exact hK _ _ ⟨x27, x28, x29, x30, x31, x32, x33, x34, x35, x36, x37, x38, x39, x40, x41, x42, x43, x44, x45, x46, x47, _, _, x50, x51, x52, x53, rfl, h.did hb2 22 _ (MP.ver) (by rw [HV.out]; rfl) hy⟩
    · obtain rfl : x48 = .bool false := h.get 21 (hw _ rfl ⟨21, .guard⟩ (by simp) rfl) (.con (.bool false)) (by rw [HV.out]; rfl) _ rfl
      obtain ⟨q0, q1⟩ := HS.out w' h.1
      refine wpOp_step rfl fun K hK => ?_
      go_simp
      refine (HJ.out w').mono ?_
      rintro e w2 ⟨rfl, hb2⟩
      exact hK _ _ ⟨x27, x28, x29, x30, x31, x32, x33, x34, x35, x36, x37, x38, x39, x40, x41, x42, x43, x44, x45, x46, x47, _, x49, _, x51, x52, x53, rfl, h.did hb2 23 _ (.con (.agg #[.string J.1, .string J.2])) (by rw [HV.out]; rfl) rfl⟩
    · obtain rfl : x48 = .bool false := h.get 21 (hw _ rfl ⟨21, .guard⟩ (by simp) rfl) (.con (.bool false)) (by rw [HV.out]; rfl) _ rfl
      obtain ⟨q0, q1⟩ := HS.out w' h.1
      refine wpOp_step rfl fun K hK => ?_
      go_simp
      exact hK _ _ ⟨x27, x28, x29, x30, x31, x32, x33, x34, x35, x36, x37, x38, x39, x40, x41, x42, x43, x44, x45, x46, x47, _, x49, x50, _, x52, x53, rfl, h.same 24 _ (.con (.agg #[.string ID, .string { data := #[53, 98, 100, 99, 99, 49, 52, 54, 98, 102, 54, 48, 55, 53, 52, 101, 54, 97, 48, 52, 50, 52, 50, 54, 48, 56, 57, 53, 55, 53, 99, 55, 53, 97, 48, 48, 51, 102, 48, 56, 57, 100, 50, 55, 51, 57, 56, 51, 57, 100, 101, 99, 53, 56, 98, 57, 54, 52, 101, 99, 51, 56, 52, 51] }])) (by rw [HV.out]; rfl) rfl⟩
    · obtain rfl : x48 = .bool false := h.get 21 (hw _ rfl ⟨21, .guard⟩ (by simp) rfl) (.con (.bool false)) (by rw [HV.out]; rfl) _ rfl
      have hs49 := h.get 22 (hw _ rfl ⟨22, .data⟩ (by simp) rfl) (MP.ver) (by rw [HV.out]; rfl) _ rfl
      obtain rfl : x50 = .agg #[.string J.1, .string J.2] := h.get 23 (hw _ rfl ⟨23, .data⟩ (by simp) rfl) (.con (.agg #[.string J.1, .string J.2])) (by rw [HV.out]; rfl) _ rfl
      obtain rfl : x51 = .agg #[.string ID, .string { data := #[53, 98, 100, 99, 99, 49, 52, 54, 98, 102, 54, 48, 55, 53, 52, 101, 54, 97, 48, 52, 50, 52, 50, 54, 48, 56, 57, 53, 55, 53, 99, 55, 53, 97, 48, 48, 51, 102, 48, 56, 57, 100, 50, 55, 51, 57, 56, 51, 57, 100, 101, 99, 53, 56, 98, 57, 54, 52, 101, 99, 51, 56, 52, 51] }] := h.get 24 (hw _ rfl ⟨24, .data⟩ (by simp) rfl) (.con (.agg #[.string ID, .string { data := #[53, 98, 100, 99, 99, 49, 52, 54, 98, 102, 54, 48, 55, 53, 52, 101, 54, 97, 48, 52, 50, 52, 50, 54, 48, 56, 57, 53, 55, 53, 99, 55, 53, 97, 48, 48, 51, 102, 48, 56, 57, 100, 50, 55, 51, 57, 56, 51, 57, 100, 101, 99, 53, 56, 98, 57, 54, 52, 101, 99, 51, 56, 52, 51] }])) (by rw [HV.out]; rfl) _ rfl
      obtain ⟨q0, q1⟩ := HS.out w' h.1
      refine wpOp_step rfl fun K hK => ?_
      go_simp
      refine (HG.out w' h.1 _ hs49).mono ?_
      rintro e w2 ⟨rfl, hb2⟩
      exact hK _ _ ⟨x27, x28, x29, x30, x31, x32, x33, x34, x35, x36, x37, x38, x39, x40, x41, x42, x43, x44, x45, x46, x47, _, x49, _, _, _, x53, rfl, h.did hb2 25 _ (.con (.bool true)) (by rw [HV.out]; rfl) rfl⟩
    · obtain rfl : x48 = .bool false := h.get 21 (hw _ rfl ⟨21, .guard⟩ (by simp) rfl) (.con (.bool false)) (by rw [HV.out]; rfl) _ rfl
      obtain rfl : x52 = .bool true := h.get 25 (hw _ rfl ⟨25, .data⟩ (by simp) rfl) (.con (.bool true)) (by rw [HV.out]; rfl) _ rfl
      refine wpOp_step rfl fun K hK => ?_
      go_simp
      exact hK _ _ ⟨x27, x28, x29, x30, x31, x32, x33, x34, x35, x36, x37, x38, x39, x40, x41, x42, x43, x44, x45, x46, x47, _, x49, x50, x51, _, _, rfl, h.same 26 _ (.con (.bool false)) (by rw [HV.out]; rfl) rfl⟩
    · omega
  case last =>
    rintro d a' w' hall ⟨x27, x28, x29, x30, x31, x32, x33, x34, x35, x36, x37, x38, x39, x40, x41, x42, x43, x44, x45, x46, x47, x48, x49, x50, x51, x52, x53, rfl, h⟩
    have hle := h.1
    obtain rfl : x48 = .bool false := h.get 21 (hall _ (by omega)) (.con (.bool false)) (by rw [HV.out]; rfl) _ rfl
    obtain rfl : x53 = .bool false := h.get 26 (hall _ (by omega)) (.con (.bool false)) (by rw [HV.out]; rfl) _ rfl
    have HLE := Lib.hid hle
    clear h hall hle HV
    have HBW := Lib.hid (HB5.out.trans (HLE.out.mono HB5.out.size))
    clear HX2 HX3 HX4 HX5 HS HG HB1 HB2 HB2' HB3 HB4 HB5 HLE
    go_wp2_with fail
    refine (HTW.out w' (HT.out.below HBW.out)).mono ?_
    rintro e w6 ⟨ka, ia, sa, ic, sc, rfl, hk, hi, hs, hb6⟩
    rw [HKF.out.1] at hk
    rw [HKF.out.2.1] at hi
    rw [HKF.out.2.2] at hs
    have HB6 := Lib.hid (HBW.out.trans (hb6.mono HBW.out.size))
    have HK := Lib.hid hk
    have HI := Lib.hid hi
    have HSG := Lib.hid hs
    obtain ⟨sb, so, rfl, _, hsb, e0, e1⟩ := hs.at 1 (by simp)
    have HE := Lib.hid (And.intro e0 e1)
    clear hk hi hs hb6 e0 e1
    obtain ⟨W9, hW9⟩ : ∃ W9, W9 = ((w6.alloc (.cells #[.int .u8 5, .int .i64 0, .string { data := #[] }, .slice none 0 0, .slice none 0 0, .slice (some ⟨sb, so, none⟩) 2 sc] 47)).alloc (.cells #[.int .i64 2, .slice ia 2 ic] 49)).alloc (.cells #[.int .u8 5, .int .i64 0, .string { data := #[] }, .slice none 0 0, .slice none 0 0, .slice (some ⟨sb, so, none⟩) 2 sc] 47) := ⟨_, rfl⟩
    have hz9 : W9.heap.size = w6.heap.size + 3 := by rw [hW9]; simp
    have hx9 : W9.heap[w6.heap.size]? = some (.cells #[.int .u8 5, .int .i64 0, .string { data := #[] }, .slice none 0 0, .slice none 0 0, .slice (some ⟨sb, so, none⟩) 2 sc] 47 (0, 0)) := by
      rw [hW9, Below.heap_alloc _ _ _ (by simp <;> omega), Below.heap_alloc _ _ _ (by simp)]; exact heap_alloc_new w6 _
    have hx10 : W9.heap[w6.heap.size + 1]? = some (.cells #[.int .i64 2, .slice ia 2 ic] 49 (0, 0)) := by
      rw [hW9, Below.heap_alloc _ _ _ (by simp)]
      have := heap_alloc_new (w6.alloc (.cells #[.int .u8 5, .int .i64 0, .string { data := #[] }, .slice none 0 0, .slice none 0 0, .slice (some ⟨sb, so, none⟩) 2 sc] 47)) (.cells #[.int .i64 2, .slice ia 2 ic] 49)
      simpa using this
    have hx11 : W9.heap[w6.heap.size + 1 + 1]? = some (.cells #[.int .u8 5, .int .i64 0, .string { data := #[] }, .slice none 0 0, .slice none 0 0, .slice (some ⟨sb, so, none⟩) 2 sc] 47 (0, 0)) := by
      rw [hW9]
      have := heap_alloc_new ((w6.alloc (.cells #[.int .u8 5, .int .i64 0, .string { data := #[] }, .slice none 0 0, .slice none 0 0, .slice (some ⟨sb, so, none⟩) 2 sc] 47)).alloc (.cells #[.int .i64 2, .slice ia 2 ic] 49)) (.cells #[.int .u8 5, .int .i64 0, .string { data := #[] }, .slice none 0 0, .slice none 0 0, .slice (some ⟨sb, so, none⟩) 2 sc] 47)
      simpa using this
    have HB9 := Lib.hid (show Below w6.heap.size w6 W9 by rw [hW9]; exact (below_n2 w6 _ _).alloc (by simp <;> omega) _)
    have HX := Lib.hid (And.intro hx9 (And.intro hx10 hx11))
    have HZ9 := Lib.hid hz9
    have HSX := Lib.hid (show ∀ w' : World, Below W9.heap.size W9 w' → w'.cell? ⟨w6.heap.size, 0, none⟩ = some (.int .u8 5) ∧ w'.cell? ⟨w6.heap.size, 1, none⟩ = some (.int .i64 0) ∧ w'.cell? ⟨w6.heap.size, 2, none⟩ = some (.string { data := #[] }) ∧ w'.cell? ⟨w6.heap.size, 3, none⟩ = some (.slice none 0 0) ∧ w'.cell? ⟨w6.heap.size, 4, none⟩ = some (.slice none 0 0) ∧ w'.cell? ⟨w6.heap.size, 5, none⟩ = some (.slice (some ⟨sb, so, none⟩) 2 sc) ∧ w'.cell? ⟨w6.heap.size + 1, 0, none⟩ = some (.int .i64 2) ∧ w'.cell? ⟨w6.heap.size + 1, 1, none⟩ = some (.slice ia 2 ic) ∧
        w'.cell? ⟨w6.heap.size + 1 + 1, 0, none⟩ = some (.int .u8 5) ∧ w'.cell? ⟨w6.heap.size + 1 + 1, 1, none⟩ = some (.int .i64 0) ∧ w'.cell? ⟨w6.heap.size + 1 + 1, 2, none⟩ = some (.string { data := #[] }) ∧ w'.cell? ⟨w6.heap.size + 1 + 1, 3, none⟩ = some (.slice none 0 0) ∧ w'.cell? ⟨w6.heap.size + 1 + 1, 4, none⟩ = some (.slice none 0 0) ∧ w'.cell? ⟨w6.heap.size + 1 + 1, 5, none⟩ = some (.slice (some ⟨sb, so, none⟩) 2 sc) ∧ w'.cell? ⟨sb, so + 1 * 2, none⟩ = some (.string t0) ∧ w'.cell? ⟨sb, so + 1 * 2 + 1, none⟩ = some (.string t1) from fun w' h => by
      have y0 := (h.block _ (heap_lt HX.out.1)).trans HX.out.1
      have y1 := (h.block _ (heap_lt HX.out.2.1)).trans HX.out.2.1
      have y2 := (h.block _ (heap_lt HX.out.2.2)).trans HX.out.2.2
      have hq : ∀ o, w'.cell? ⟨sb, o, none⟩ = w6.cell? ⟨sb, o, none⟩ := fun o => World.cell?_of_block (w := w6) ((h.block sb (by have := HZ9.out; omega)).trans (HB9.out.block sb hsb))
      exact ⟨box_cell y0 rfl, box_cell y0 rfl, box_cell y0 rfl, box_cell y0 rfl, box_cell y0 rfl, box_cell y0 rfl, box_cell y1 rfl, box_cell y1 rfl, box_cell y2 rfl, box_cell y2 rfl, box_cell y2 rfl, box_cell y2 rfl, box_cell y2 rfl, box_cell y2 rfl, (hq _).trans HE.out.1, (hq _).trans HE.out.2⟩)
    have HW9 := Lib.hid hW9
    clear hW9 hx9 hx10 hx11 hz9
    go_wp2_with fail
    rw [← HW9.out]
    obtain ⟨V, hV⟩ : ∃ V : List MP, V = [.con (.pointer (some ⟨w6.heap.size, 5, none⟩)), .con (.slice (some ⟨sb, so, none⟩) 2 sc), .con (.pointer (some ⟨sb, so + 1 * 2, none⟩)), .con (.agg #[.string t0, .string t1]), .con (.pointer (some ⟨w6.heap.size, 5, none⟩)), .con (.slice (some ⟨sb, so, none⟩) 2 sc), .con (.pointer (some ⟨sb, so + 1 * 2, none⟩)), .con (.agg #[.string t0, .string t1]), .row W9.heap.size 2 26 #[.string t0, .string t1, .string t0, .string t1], .con (.pointer (some ⟨w6.heap.size + 1 + 1, 5, none⟩))] := ⟨_, rfl⟩
    have HV := Lib.hid hV
    clear hV
    refine wp_region_inv 10 (fun d a' w' => ∃ x63 x64 x65 x66 x67 x68 x69 x70 x71 x72, a' = ⟨#[.bool false, .pointer (some ⟨w2.heap.size, 0, none⟩), .int .i64 0, .pointer (some ⟨w3.heap.size, 0, none⟩), .int .i64 10, .string ID, .int .i64 0, .slice ka 2 2, .slice ia 2 ic, .pointer (some ⟨w6.heap.size, 0, none⟩), .pointer (some ⟨w6.heap.size + 1, 0, none⟩), .pointer (some ⟨w6.heap.size + 1 + 1, 0, none⟩), .tuple #[.agg #[.string ID, .string { data := #[53, 98, 100, 99, 99, 49, 52, 54, 98, 102, 54, 48, 55, 53, 52, 101, 54, 97, 48, 52, 50, 52, 50, 54, 48, 56, 57, 53, 55, 53, 99, 55, 53, 97, 48, 48, 51, 102, 48, 56, 57, 100, 50, 55, 51, 57, 56, 51, 57, 100, 101, 99, 53, 56, 98, 57, 54, 52, 101, 99, 51, 56, 52, 51] }], .int .i64 0], .agg #[.string J.1, .string J.2], .tuple #[.agg #[.string ID, .string { data := #[53, 98, 100, 99, 99, 49, 52, 54, 98, 102, 54, 48, 55, 53, 52, 101, 54, 97, 48, 52, 50, 52, 50, 54, 48, 56, 57, 53, 55, 53, 99, 55, 53, 97, 48, 48, 51, 102, 48, 56, 57, 100, 50, 55, 51, 57, 56, 51, 57, 100, 101, 99, 53, 56, 98, 57, 54, 52, 101, 99, 51, 56, 52, 51] }], .int .i64 0], .agg #[.string ID, .string { data := #[53, 98, 100, 99, 99, 49, 52, 54, 98, 102, 54, 48, 55, 53, 52, 101, 54, 97, 48, 52, 50, 52, 50, 54, 48, 56, 57, 53, 55, 53, 99, 55, 53, 97, 48, 48, 51, 102, 48, 56, 57, 100, 50, 55, 51, 57, 56, 51, 57, 100, 101, 99, 53, 56, 98, 57, 54, 52, 101, 99, 51, 56, 52, 51] }], .int .i64 0, .tuple #[.agg #[.string T1, .string T2], .int .i64 10], .agg #[.string { data := #[101, 100, 50, 53, 53, 49, 57] }, .string { data := #[48, 48] }], .tuple #[.agg #[.string T1, .string T2], .int .i64 10], .agg #[.string T1, .string T2], .int .i64 10, .tuple #[.string ID, .int .i64 0], .agg #[.string J.1, .string J.2], .tuple #[.string ID, .int .i64 0], .string ID, .int .i64 0, x27, x28, x29, x30, x31, x32, x33, x34, x35, x36, x37, x38, x39, x40, x41, x42, x43, x44, x45, x46, x47, .bool false, x49, x50, x51, x52, .bool false, .bool false, .tuple #[.slice ka 2 2, .slice ia 2 ic, .agg #[.int .u8 5, .int .i64 0, .string { data := #[] }, .slice none 0 0, .slice none 0 0, .slice (some ⟨sb, so, none⟩) 2 sc]], .tuple #[.slice ka 2 2, .slice ia 2 ic, .agg #[.int .u8 5, .int .i64 0, .string { data := #[] }, .slice none 0 0, .slice none 0 0, .slice (some ⟨sb, so, none⟩) 2 sc]], .slice ka 2 2, .slice ia 2 ic, .agg #[.int .u8 5, .int .i64 0, .string { data := #[] }, .slice none 0 0, .slice none 0 0, .slice (some ⟨sb, so, none⟩) 2 sc], .slice ia 2 ic, .agg #[.int .i64 2, .slice ia 2 ic], .agg #[.int .u8 5, .int .i64 0, .string { data := #[] }, .slice none 0 0, .slice none 0 0, .slice (some ⟨sb, so, none⟩) 2 sc], x63, x64, x65, x66, x67, x68, x69, x70, x71, x72, undef, undef, undef, undef, undef, undef, undef, undef, undef, undef, undef, undef, undef, undef, undef, undef, undef, undef, undef, undef, undef, undef, undef, undef, undef, undef, undef, undef, undef], []⟩ ∧ RegI W9 V d w' [x63, x64, x65, x66, x67, x68, x69, x70, x71, x72]) (by kernel_rfl) (by kernel_rfl) ?first ?step ?last
    case first => exact ⟨_, _, _, _, _, _, _, _, _, _, rfl, RegI.first _ _ _ (by rw [HV.out]; rfl)⟩
    case step =>
      rintro d a' w' ⟨x63, x64, x65, x66, x67, x68, x69, x70, x71, x72, rfl, h⟩ q hq hn hw
      rcases q with _ | _ | _ | _ | _ | _ | _ | _ | _ | _ | q
      · refine wpOp_step rfl fun K hK => ?_
        go_simp
        exact hK _ _ ⟨_, x64, x65, x66, x67, x68, x69, x70, x71, x72, rfl, h.same 0 _ (.con (.pointer (some ⟨w6.heap.size, 5, none⟩))) (by rw [HV.out]; rfl) rfl⟩
      · obtain rfl : x63 = .pointer (some ⟨w6.heap.size, 5, none⟩) := h.get 0 (hw _ rfl ⟨0, .data⟩ (by simp) rfl) (.con (.pointer (some ⟨w6.heap.size, 5, none⟩))) (by rw [HV.out]; rfl) _ rfl
        obtain ⟨q0, q1, q2, q3, q4, q5, p0, p1, r0, r1, r2, r3, r4, r5, s0', s1'⟩ := HSX.out w' h.1
        refine wpOp_step rfl fun K hK => ?_
        go_simp
        exact hK _ _ ⟨_, _, x65, x66, x67, x68, x69, x70, x71, x72, rfl, h.same 1 _ (.con (.slice (some ⟨sb, so, none⟩) 2 sc)) (by rw [HV.out]; rfl) rfl⟩
      · obtain rfl : x64 = .slice (some ⟨sb, so, none⟩) 2 sc := h.get 1 (hw _ rfl ⟨1, .data⟩ (by simp) rfl) (.con (.slice (some ⟨sb, so, none⟩) 2 sc)) (by rw [HV.out]; rfl) _ rfl
        obtain ⟨q0, q1, q2, q3, q4, q5, p0, p1, r0, r1, r2, r3, r4, r5, s0', s1'⟩ := HSX.out w' h.1
        refine wpOp_step rfl fun K hK => ?_
        go_simp
        exact hK _ _ ⟨x63, _, _, x66, x67, x68, x69, x70, x71, x72, rfl, h.same 2 _ (.con (.pointer (some ⟨sb, so + 1 * 2, none⟩))) (by rw [HV.out]; rfl) rfl⟩
      · obtain rfl : x65 = .pointer (some ⟨sb, so + 1 * 2, none⟩) := h.get 2 (hw _ rfl ⟨2, .data⟩ (by simp) rfl) (.con (.pointer (some ⟨sb, so + 1 * 2, none⟩))) (by rw [HV.out]; rfl) _ rfl
        obtain ⟨q0, q1, q2, q3, q4, q5, p0, p1, r0, r1, r2, r3, r4, r5, s0', s1'⟩ := HSX.out w' h.1
        refine wpOp_step rfl fun K hK => ?_
        go_simp
        exact hK _ _ ⟨x63, x64, _, _, x67, x68, x69, x70, x71, x72, rfl, h.same 3 _ (.con (.agg #[.string t0, .string t1])) (by rw [HV.out]; rfl) rfl⟩
      · refine wpOp_step rfl fun K hK => ?_
        go_simp
        exact hK _ _ ⟨x63, x64, x65, x66, _, x68, x69, x70, x71, x72, rfl, h.same 4 _ (.con (.pointer (some ⟨w6.heap.size, 5, none⟩))) (by rw [HV.out]; rfl) rfl⟩
      · obtain rfl : x67 = .pointer (some ⟨w6.heap.size, 5, none⟩) := h.get 4 (hw _ rfl ⟨4, .data⟩ (by simp) rfl) (.con (.pointer (some ⟨w6.heap.size, 5, none⟩))) (by rw [HV.out]; rfl) _ rfl
        obtain ⟨q0, q1, q2, q3, q4, q5, p0, p1, r0, r1, r2, r3, r4, r5, s0', s1'⟩ := HSX.out w' h.1
        refine wpOp_step rfl fun K hK => ?_
        go_simp
        exact hK _ _ ⟨x63, x64, x65, x66, _, _, x69, x70, x71, x72, rfl, h.same 5 _ (.con (.slice (some ⟨sb, so, none⟩) 2 sc)) (by rw [HV.out]; rfl) rfl⟩
      · obtain rfl : x68 = .slice (some ⟨sb, so, none⟩) 2 sc := h.get 5 (hw _ rfl ⟨5, .data⟩ (by simp) rfl) (.con (.slice (some ⟨sb, so, none⟩) 2 sc)) (by rw [HV.out]; rfl) _ rfl
        obtain ⟨q0, q1, q2, q3, q4, q5, p0, p1, r0, r1, r2, r3, r4, r5, s0', s1'⟩ := HSX.out w' h.1
        refine wpOp_step rfl fun K hK => ?_
        go_simp
        exact hK _ _ ⟨x63, x64, x65, x66, x67, _, _, x70, x71, x72, rfl, h.same 6 _ (.con (.pointer (some ⟨sb, so + 1 * 2, none⟩))) (by rw [HV.out]; rfl) rfl⟩
      · obtain rfl : x69 = .pointer (some ⟨sb, so + 1 * 2, none⟩) := h.get 6 (hw _ rfl ⟨6, .data⟩ (by simp) rfl) (.con (.pointer (some ⟨sb, so + 1 * 2, none⟩))) (by rw [HV.out]; rfl) _ rfl
        obtain ⟨q0, q1, q2, q3, q4, q5, p0, p1, r0, r1, r2, r3, r4, r5, s0', s1'⟩ := HSX.out w' h.1
        refine wpOp_step rfl fun K hK => ?_
        go_simp
        exact hK _ _ ⟨x63, x64, x65, x66, x67, x68, _, _, x71, x72, rfl, h.same 7 _ (.con (.agg #[.string t0, .string t1])) (by rw [HV.out]; rfl) rfl⟩
      · obtain rfl : x66 = .agg #[.string t0, .string t1] := h.get 3 (hw _ rfl ⟨3, .data⟩ (by simp) rfl) (.con (.agg #[.string t0, .string t1])) (by rw [HV.out]; rfl) _ rfl
        obtain rfl : x70 = .agg #[.string t0, .string t1] := h.get 7 (hw _ rfl ⟨7, .data⟩ (by simp) rfl) (.con (.agg #[.string t0, .string t1])) (by rw [HV.out]; rfl) _ rfl
        refine wpOp_step rfl fun K hK => ?_
        go_simp
        exact hK _ _ ⟨x63, x64, x65, _, x67, x68, x69, _, _, x72, rfl, h.new _ 8 _ (.row W9.heap.size 2 26 #[.string t0, .string t1, .string t0, .string t1]) (by rw [HV.out]; rfl) (IsRow.made _ h.1.size)⟩
      · refine wpOp_step rfl fun K hK => ?_
        go_simp
        exact hK _ _ ⟨x63, x64, x65, x66, x67, x68, x69, x70, x71, _, rfl, h.same 9 _ (.con (.pointer (some ⟨w6.heap.size + 1 + 1, 5, none⟩))) (by rw [HV.out]; rfl) rfl⟩
      · omega
    case last =>
      rintro d a' w' hall ⟨x63, x64, x65, x66, x67, x68, x69, x70, x71, x72, rfl, h⟩
      have hle := h.1
      obtain rfl : x72 = .pointer (some ⟨w6.heap.size + 1 + 1, 5, none⟩) := h.get 9 (hall _ (by omega)) (.con (.pointer (some ⟨w6.heap.size + 1 + 1, 5, none⟩))) (by rw [HV.out]; rfl) _ rfl
      obtain ⟨b71, k71, rfl, m71⟩ := h.get 8 (hall _ (by omega)) (.row W9.heap.size 2 26 #[.string t0, .string t1, .string t0, .string t1]) (by rw [HV.out]; rfl) _ rfl
      have HLE := Lib.hid hle
      clear h hall hle HV
      obtain ⟨q0, q1, q2, q3, q4, q5, p0, p1, r0, r1, r2, r3, r4, r5, s0', s1'⟩ := HSX.out w' HLE.out
      have hrow : w'.rowIs (w6.heap.size + 1 + 1) 47 6 (pick6 (.int .u8 5) (.int .i64 0) (.string { data := #[] }) (.slice none 0 0) (.slice none 0 0) (.slice (some ⟨sb, so, none⟩) 2 sc)) := below_row HLE.out (by
        rw [HW9.out]
        have := rowIs_box6 ((w6.alloc (.cells #[.int .u8 5, .int .i64 0, .string { data := #[] }, .slice none 0 0, .slice none 0 0, .slice (some ⟨sb, so, none⟩) 2 sc] 47)).alloc (.cells #[.int .i64 2, .slice ia 2 ic] 49)) (.int .u8 5) (.int .i64 0) (.string { data := #[] }) (.slice none 0 0) (.slice none 0 0) (.slice (some ⟨sb, so, none⟩) 2 sc) 47
        simpa using this) (by have := HZ9.out; omega)
      have f5 : w'.frozen? ⟨w6.heap.size + 1 + 1, 5, none⟩ = false := hrow.frozen 5
      have HROW := Lib.hid hrow
      have HM := Lib.hid m71
      have HK71 := Lib.hid k71
      clear hrow m71 k71 q0 q1 q2 q3 q4 q5 p0 p1 r0 r1 r2 r3 r4 s0' s1'
      obtain ⟨W, hW⟩ : ∃ W, W = w'.setCell ⟨w6.heap.size + 1 + 1, 5, none⟩ (.slice (some ⟨b71, 0, none⟩) 2 2) := ⟨_, rfl⟩
      have HBY := Lib.hid (show Below w6.heap.size w6 W by rw [hW]; exact (HB9.out.trans (HLE.out.mono HB9.out.size)).setCell (by show w6.heap.size ≤ w6.heap.size + 1 + 1; omega) _)
      have HBX := Lib.hid (HB6.out.trans (HBY.out.mono HB6.out.size))
      have hs71 : W.heap[b71]? = some (.cells #[.string t0, .string t1, .string t0, .string t1] 26 (0, 0)) := by
        rw [hW, Below.heap_setCell _ _ _ _ (by have := HK71.out; have := HZ9.out; show b71 ≠ w6.heap.size + 1 + 1; omega)]; exact HM.out
      have HEV11 := Lib.hid (show EnvAt W objJ [(t0, t1), (t0, t1)] none none (some ⟨b71, 0, none⟩) 0 0 from envAt_obj (keys_blk hs71 rfl) (fun s hs => HSZ.out.2 s (by simp at hs; simp [hs])) (by simp))
      have HEV9 := Lib.hid (show EnvAt W objJ [(s0, s1), (t0, t1)] none none (some ⟨sb, so, none⟩) 0 0 from envAt_obj (HSG.out.below HBY.out (Nat.le_refl _) (Nat.le_refl _) HBY.out.size) HSZ.out.2 (by simp))
      have HAT := Lib.hid (show AuthAt W [ID, Z2] ia from ⟨HI.out.below HBY.out (Nat.le_refl _) (Nat.le_refl _) HBY.out.size, HSZ.out.1, by simp⟩)
      have HKR := Lib.hid (show KeyRow W [J, Z] ka from ⟨HK.out.below HBY.out (Nat.le_refl _) (Nat.le_refl _) HBY.out.size, by simp, HKS.out⟩)
      have HC9 := Lib.hid (show ∀ w' : World, Below W.heap.size W w' → ∀ x, VerIs w' x .mac → Calls Tryz.prog 21 #[x, .agg #[.int .u8 5, .int .i64 0, .string { data := #[] }, .slice none 0 0, .slice none 0 0, .slice (some ⟨sb, so, none⟩) 2 sc], .agg #[.int .i64 2, .slice ia 2 ic], .slice ka 2 2] w' (fun e w'' => e = .returned (.int .i64 2) ∧ Below w'.heap.size w' w'') from fun w' h x hx => by
        refine (judgeCount .mac x objJ [(s0, s1), (t0, t1)] none none (some ⟨sb, so, none⟩) 0 0 sc 2 [ID, Z2] ia ic [J, Z] ka 2 w' hx ((HEV9.out).below h) (HAT.out.below h) (HKR.out.below h) objJ_num (HP.out.below (HBX.out.trans (h.mono HBX.out.size))) (HT.out.below (HBX.out.trans (h.mono HBX.out.size)))).mono ?_
        rintro e w'' ⟨rfl, hb⟩
        exact ⟨by rw [HCN.out.1]; rfl, hb⟩)
      have HE9 := Lib.hid (show ∀ w' : World, Below W.heap.size W w' → ∀ x, VerIs w' x .mac → Calls Tryz.prog 23 #[x, .agg #[.int .u8 5, .int .i64 0, .string { data := #[] }, .slice none 0 0, .slice none 0 0, .slice (some ⟨sb, so, none⟩) 2 sc], .agg #[.int .i64 2, .slice ia 2 ic], .slice ka 2 2] w' (fun e w'' => e = .returned (.bool true) ∧ Below w'.heap.size w' w'') from fun w' h x hx => by
        refine (judgeEnough .mac x objJ [(s0, s1), (t0, t1)] none none (some ⟨sb, so, none⟩) 0 0 sc 2 [ID, Z2] ia ic [J, Z] ka 2 w' hx ((HEV9.out).below h) (HAT.out.below h) (HKR.out.below h) objJ_num (HP.out.below (HBX.out.trans (h.mono HBX.out.size))) (HT.out.below (HBX.out.trans (h.mono HBX.out.size)))).mono ?_
        rintro e w'' ⟨rfl, hb⟩
        exact ⟨by rw [HCN.out.2.2.1], hb⟩)
      have HC11 := Lib.hid (show ∀ w' : World, Below W.heap.size W w' → ∀ x, VerIs w' x .mac → Calls Tryz.prog 21 #[x, .agg #[.int .u8 5, .int .i64 0, .string { data := #[] }, .slice none 0 0, .slice none 0 0, .slice (some ⟨b71, 0, none⟩) 2 2], .agg #[.int .i64 2, .slice ia 2 ic], .slice ka 2 2] w' (fun e w'' => e = .returned (.int .i64 1) ∧ Below w'.heap.size w' w'') from fun w' h x hx => by
        refine (judgeCount .mac x objJ [(t0, t1), (t0, t1)] none none (some ⟨b71, 0, none⟩) 0 0 2 2 [ID, Z2] ia ic [J, Z] ka 2 w' hx ((HEV11.out).below h) (HAT.out.below h) (HKR.out.below h) objJ_num (HP.out.below (HBX.out.trans (h.mono HBX.out.size))) (HT.out.below (HBX.out.trans (h.mono HBX.out.size)))).mono ?_
        rintro e w'' ⟨rfl, hb⟩
        exact ⟨by rw [HCN.out.2.1]; rfl, hb⟩)
      have HE11 := Lib.hid (show ∀ w' : World, Below W.heap.size W w' → ∀ x, VerIs w' x .mac → Calls Tryz.prog 23 #[x, .agg #[.int .u8 5, .int .i64 0, .string { data := #[] }, .slice none 0 0, .slice none 0 0, .slice (some ⟨b71, 0, none⟩) 2 2], .agg #[.int .i64 2, .slice ia 2 ic], .slice ka 2 2] w' (fun e w'' => e = .returned (.bool false) ∧ Below w'.heap.size w' w'') from fun w' h x hx => by
        refine (judgeEnough .mac x objJ [(t0, t1), (t0, t1)] none none (some ⟨b71, 0, none⟩) 0 0 2 2 [ID, Z2] ia ic [J, Z] ka 2 w' hx ((HEV11.out).below h) (HAT.out.below h) (HKR.out.below h) objJ_num (HP.out.below (HBX.out.trans (h.mono HBX.out.size))) (HT.out.below (HBX.out.trans (h.mono HBX.out.size)))).mono ?_
        rintro e w'' ⟨rfl, hb⟩
        exact ⟨by rw [HCN.out.2.2.2], hb⟩)
      have hr11 : W.heap[w6.heap.size + 1 + 1]? = some (.cells #[.int .u8 5, .int .i64 0, .string { data := #[] }, .slice none 0 0, .slice none 0 0, .slice (some ⟨b71, 0, none⟩) 2 2] 47 (0, 0)) := by
        rw [hW]
        exact row6_heap ((HROW.out.set 5 _).congr fun j hj => by rcases j with _ | _ | _ | _ | _ | _ | j <;> first | rfl | omega)
      have hr9 : W.heap[w6.heap.size]? = some (.cells #[.int .u8 5, .int .i64 0, .string { data := #[] }, .slice none 0 0, .slice none 0 0, .slice (some ⟨sb, so, none⟩) 2 sc] 47 (0, 0)) := by
        rw [hW, Below.heap_setCell _ _ _ _ (by show w6.heap.size ≠ w6.heap.size + 1 + 1; omega), HLE.out.block _ (by have := HZ9.out; omega)]; exact HX.out.1
      have hr10 : W.heap[w6.heap.size + 1]? = some (.cells #[.int .i64 2, .slice ia 2 ic] 49 (0, 0)) := by
        rw [hW, Below.heap_setCell _ _ _ _ (by show w6.heap.size + 1 ≠ w6.heap.size + 1 + 1; omega), HLE.out.block _ (by have := HZ9.out; omega)]; exact HX.out.2.1
      have HXY := Lib.hid (And.intro hr9 (And.intro hr10 hr11))
      have HSY := Lib.hid (show ∀ w' : World, Below W.heap.size W w' → w'.cell? ⟨w6.heap.size, 0, none⟩ = some (.int .u8 5) ∧ w'.cell? ⟨w6.heap.size, 1, none⟩ = some (.int .i64 0) ∧ w'.cell? ⟨w6.heap.size, 2, none⟩ = some (.string { data := #[] }) ∧ w'.cell? ⟨w6.heap.size, 3, none⟩ = some (.slice none 0 0) ∧ w'.cell? ⟨w6.heap.size, 4, none⟩ = some (.slice none 0 0) ∧ w'.cell? ⟨w6.heap.size, 5, none⟩ = some (.slice (some ⟨sb, so, none⟩) 2 sc) ∧ w'.cell? ⟨w6.heap.size + 1, 0, none⟩ = some (.int .i64 2) ∧ w'.cell? ⟨w6.heap.size + 1, 1, none⟩ = some (.slice ia 2 ic) ∧
          w'.cell? ⟨w6.heap.size + 1 + 1, 0, none⟩ = some (.int .u8 5) ∧ w'.cell? ⟨w6.heap.size + 1 + 1, 1, none⟩ = some (.int .i64 0) ∧ w'.cell? ⟨w6.heap.size + 1 + 1, 2, none⟩ = some (.string { data := #[] }) ∧ w'.cell? ⟨w6.heap.size + 1 + 1, 3, none⟩ = some (.slice none 0 0) ∧ w'.cell? ⟨w6.heap.size + 1 + 1, 4, none⟩ = some (.slice none 0 0) ∧ w'.cell? ⟨w6.heap.size + 1 + 1, 5, none⟩ = some (.slice (some ⟨b71, 0, none⟩) 2 2) from fun w' h => by
        have y0 := (h.block _ (heap_lt HXY.out.1)).trans HXY.out.1
        have y1 := (h.block _ (heap_lt HXY.out.2.1)).trans HXY.out.2.1
        have y2 := (h.block _ (heap_lt HXY.out.2.2)).trans HXY.out.2.2
        exact ⟨box_cell y0 rfl, box_cell y0 rfl, box_cell y0 rfl, box_cell y0 rfl, box_cell y0 rfl, box_cell y0 rfl, box_cell y1 rfl, box_cell y1 rfl, box_cell y2 rfl, box_cell y2 rfl, box_cell y2 rfl, box_cell y2 rfl, box_cell y2 rfl, box_cell y2 rfl⟩)
      have HWX := Lib.hid hW
      clear hW hs71 hr9 hr10 hr11
      go_wp2_with fail
      rw [← HWX.out]
      clear HWX HXY HEV9 HEV11 HAT HKR HROW HM HK71 r5 f5 HX HSX HE
      obtain ⟨V, hV⟩ : ∃ V : List MP, V = [MP.ver, .con (.agg #[.int .u8 5, .int .i64 0, .string { data := #[] }, .slice none 0 0, .slice none 0 0, .slice (some ⟨sb, so, none⟩) 2 sc]), .con (.agg #[.int .i64 2, .slice ia 2 ic]), .con (.slice ka 2 2), .con (.int .i64 2), .con (.bool true), .con (.bool true), MP.ver, .con (.agg #[.int .u8 5, .int .i64 0, .string { data := #[] }, .slice none 0 0, .slice none 0 0, .slice (some ⟨sb, so, none⟩) 2 sc]), .con (.agg #[.int .i64 2, .slice ia 2 ic]), .con (.slice ka 2 2), .con (.bool true), .con (.bool true), .con (.bool true), MP.ver, .con (.agg #[.int .u8 5, .int .i64 0, .string { data := #[] }, .slice none 0 0, .slice none 0 0, .slice (some ⟨b71, 0, none⟩) 2 2]), .con (.agg #[.int .i64 2, .slice ia 2 ic]), .con (.slice ka 2 2), .con (.int .i64 1), .con (.bool true), .con (.bool true), .con (.bool true), MP.ver, .con (.agg #[.int .u8 5, .int .i64 0, .string { data := #[] }, .slice none 0 0, .slice none 0 0, .slice (some ⟨b71, 0, none⟩) 2 2]), .con (.agg #[.int .i64 2, .slice ia 2 ic]), .con (.slice ka 2 2), .con (.bool false), .con (.bool true), .con (.bool true)] := ⟨_, rfl⟩
      have HV := Lib.hid hV
      clear hV
      refine wp_region_inv 29 (fun d a' w' => ∃ x73 x74 x75 x76 x77 x78 x79 x80 x81 x82 x83 x84 x85 x86 x87 x88 x89 x90 x91 x92 x93 x94 x95 x96 x97 x98 x99 x100 x101, a' = ⟨#[.bool false, .pointer (some ⟨w2.heap.size, 0, none⟩), .int .i64 0, .pointer (some ⟨w3.heap.size, 0, none⟩), .int .i64 10, .string ID, .int .i64 0, .slice ka 2 2, .slice ia 2 ic, .pointer (some ⟨w6.heap.size, 0, none⟩), .pointer (some ⟨w6.heap.size + 1, 0, none⟩), .pointer (some ⟨w6.heap.size + 1 + 1, 0, none⟩), .tuple #[.agg #[.string ID, .string { data := #[53, 98, 100, 99, 99, 49, 52, 54, 98, 102, 54, 48, 55, 53, 52, 101, 54, 97, 48, 52, 50, 52, 50, 54, 48, 56, 57, 53, 55, 53, 99, 55, 53, 97, 48, 48, 51, 102, 48, 56, 57, 100, 50, 55, 51, 57, 56, 51, 57, 100, 101, 99, 53, 56, 98, 57, 54, 52, 101, 99, 51, 56, 52, 51] }], .int .i64 0], .agg #[.string J.1, .string J.2], .tuple #[.agg #[.string ID, .string { data := #[53, 98, 100, 99, 99, 49, 52, 54, 98, 102, 54, 48, 55, 53, 52, 101, 54, 97, 48, 52, 50, 52, 50, 54, 48, 56, 57, 53, 55, 53, 99, 55, 53, 97, 48, 48, 51, 102, 48, 56, 57, 100, 50, 55, 51, 57, 56, 51, 57, 100, 101, 99, 53, 56, 98, 57, 54, 52, 101, 99, 51, 56, 52, 51] }], .int .i64 0], .agg #[.string ID, .string { data := #[53, 98, 100, 99, 99, 49, 52, 54, 98, 102, 54, 48, 55, 53, 52, 101, 54, 97, 48, 52, 50, 52, 50, 54, 48, 56, 57, 53, 55, 53, 99, 55, 53, 97, 48, 48, 51, 102, 48, 56, 57, 100, 50, 55, 51, 57, 56, 51, 57, 100, 101, 99, 53, 56, 98, 57, 54, 52, 101, 99, 51, 56, 52, 51] }], .int .i64 0, .tuple #[.agg #[.string T1, .string T2], .int .i64 10], .agg #[.string { data := #[101, 100, 50, 53, 53, 49, 57] }, .string { data := #[48, 48] }], .tuple #[.agg #[.string T1, .string T2], .int .i64 10], .agg #[.string T1, .string T2], .int .i64 10, .tuple #[.string ID, .int .i64 0], .agg #[.string J.1, .string J.2], .tuple #[.string ID, .int .i64 0], .string ID, .int .i64 0, x27, x28, x29, x30, x31, x32, x33, x34, x35, x36, x37, x38, x39, x40, x41, x42, x43, x44, x45, x46, x47, .bool false, x49, x50, x51, x52, .bool false, .bool false, .tuple #[.slice ka 2 2, .slice ia 2 ic, .agg #[.int .u8 5, .int .i64 0, .string { data := #[] }, .slice none 0 0, .slice none 0 0, .slice (some ⟨sb, so, none⟩) 2 sc]], .tuple #[.slice ka 2 2, .slice ia 2 ic, .agg #[.int .u8 5, .int .i64 0, .string { data := #[] }, .slice none 0 0, .slice none 0 0, .slice (some ⟨sb, so, none⟩) 2 sc]], .slice ka 2 2, .slice ia 2 ic, .agg #[.int .u8 5, .int .i64 0, .string { data := #[] }, .slice none 0 0, .slice none 0 0, .slice (some ⟨sb, so, none⟩) 2 sc], .slice ia 2 ic, .agg #[.int .i64 2, .slice ia 2 ic], .agg #[.int .u8 5, .int .i64 0, .string { data := #[] }, .slice none 0 0, .slice none 0 0, .slice (some ⟨sb, so, none⟩) 2 sc], x63, x64, x65, x66, x67, x68, x69, x70, .slice (some ⟨b71, 0, none⟩) 2 2, .pointer (some ⟨w6.heap.size + 1 + 1, 5, none⟩), x73, x74, x75, x76, x77, x78, x79, x80, x81, x82, x83, x84, x85, x86, x87, x88, x89, x90, x91, x92, x93, x94, x95, x96, x97, x98, x99, x100, x101], []⟩ ∧ RegI W V d w' [x73, x74, x75, x76, x77, x78, x79, x80, x81, x82, x83, x84, x85, x86, x87, x88, x89, x90, x91, x92, x93, x94, x95, x96, x97, x98, x99, x100, x101]) (by kernel_rfl) (by kernel_rfl) ?first ?step ?last
      case first => exact ⟨_, _, _, _, _, _, _, _, _, _, _, _, _, _, _, _, _, _, _, _, _, _, _, _, _, _, _, _, _, rfl, RegI.first _ _ _ (by rw [HV.out]; rfl)⟩
      case step =>
        rintro d a' w' ⟨x73, x74, x75, x76, x77, x78, x79, x80, x81, x82, x83, x84, x85, x86, x87, x88, x89, x90, x91, x92, x93, x94, x95, x96, x97, x98, x99, x100, x101, rfl, h⟩ q hq hn hw
        rcases q with _ | _ | _ | _ | _ | _ | _ | _ | _ | _ | _ | _ | _ | _ | _ | _ | _ | _ | _ | _ | _ | _ | _ | _ | _ | _ | _ | _ | _ | q
        · obtain ⟨q0, q1, q2, q3, q4, q5, p0, p1, r0, r1, r2, r3, r4, r5⟩ := HSY.out w' h.1
          refine wpOp_step rfl fun K hK => ?_
          go_simp
          refine (HH.out w').mono ?_
          rintro e w2 ⟨y, rfl, hy, hb2⟩
          exact hK _ _ ⟨_, x74, x75, x76, x77, x78, x79, x80, x81, x82, x83, x84, x85, x86, x87, x88, x89, x90, x91, x92, x93, x94, x95, x96, x97, x98, x99, x100, x101, rfl, h.did hb2 0 _ (MP.ver) (by rw [HV.out]; rfl) hy⟩
        · obtain ⟨q0, q1, q2, q3, q4, q5, p0, p1, r0, r1, r2, r3, r4, r5⟩ := HSY.out w' h.1
          refine wpOp_step rfl fun K hK => ?_
          go_simp
          exact hK _ _ ⟨x73, _, x75, x76, x77, x78, x79, x80, x81, x82, x83, x84, x85, x86, x87, x88, x89, x90, x91, x92, x93, x94, x95, x96, x97, x98, x99, x100, x101, rfl, h.same 1 _ (.con (.agg #[.int .u8 5, .int .i64 0, .string { data := #[] }, .slice none 0 0, .slice none 0 0, .slice (some ⟨sb, so, none⟩) 2 sc])) (by rw [HV.out]; rfl) rfl⟩
        · obtain ⟨q0, q1, q2, q3, q4, q5, p0, p1, r0, r1, r2, r3, r4, r5⟩ := HSY.out w' h.1
          refine wpOp_step rfl fun K hK => ?_
          go_simp
          exact hK _ _ ⟨x73, x74, _, x76, x77, x78, x79, x80, x81, x82, x83, x84, x85, x86, x87, x88, x89, x90, x91, x92, x93, x94, x95, x96, x97, x98, x99, x100, x101, rfl, h.same 2 _ (.con (.agg #[.int .i64 2, .slice ia 2 ic])) (by rw [HV.out]; rfl) rfl⟩
        · refine wpOp_step rfl fun K hK => ?_
          go_simp
          exact hK _ _ ⟨x73, x74, x75, _, x77, x78, x79, x80, x81, x82, x83, x84, x85, x86, x87, x88, x89, x90, x91, x92, x93, x94, x95, x96, x97, x98, x99, x100, x101, rfl, h.same 3 _ (.con (.slice ka 2 2)) (by rw [HV.out]; rfl) rfl⟩
        · have hs73 := h.get 0 (hw _ rfl ⟨0, .data⟩ (by simp) rfl) (MP.ver) (by rw [HV.out]; rfl) _ rfl
          obtain rfl : x74 = .agg #[.int .u8 5, .int .i64 0, .string { data := #[] }, .slice none 0 0, .slice none 0 0, .slice (some ⟨sb, so, none⟩) 2 sc] := h.get 1 (hw _ rfl ⟨1, .data⟩ (by simp) rfl) (.con (.agg #[.int .u8 5, .int .i64 0, .string { data := #[] }, .slice none 0 0, .slice none 0 0, .slice (some ⟨sb, so, none⟩) 2 sc])) (by rw [HV.out]; rfl) _ rfl
          obtain rfl : x75 = .agg #[.int .i64 2, .slice ia 2 ic] := h.get 2 (hw _ rfl ⟨2, .data⟩ (by simp) rfl) (.con (.agg #[.int .i64 2, .slice ia 2 ic])) (by rw [HV.out]; rfl) _ rfl
          obtain rfl : x76 = .slice ka 2 2 := h.get 3 (hw _ rfl ⟨3, .data⟩ (by simp) rfl) (.con (.slice ka 2 2)) (by rw [HV.out]; rfl) _ rfl
          obtain ⟨q0, q1, q2, q3, q4, q5, p0, p1, r0, r1, r2, r3, r4, r5⟩ := HSY.out w' h.1
          refine wpOp_step rfl fun K hK => ?_
          go_simp
          refine (HC9.out w' h.1 _ hs73).mono ?_
          rintro e w2 ⟨rfl, hb2⟩
          exact hK _ _ ⟨x73, _, _, _, _, x78, x79, x80, x81, x82, x83, x84, x85, x86, x87, x88, x89, x90, x91, x92, x93, x94, x95, x96, x97, x98, x99, x100, x101, rfl, h.did hb2 4 _ (.con (.int .i64 2)) (by rw [HV.out]; rfl) rfl⟩
        · obtain rfl : x77 = .int .i64 2 := h.get 4 (hw _ rfl ⟨4, .data⟩ (by simp) rfl) (.con (.int .i64 2)) (by rw [HV.out]; rfl) _ rfl
          refine wpOp_step rfl fun K hK => ?_
          go_simp
          exact hK _ _ ⟨x73, x74, x75, x76, _, _, x79, x80, x81, x82, x83, x84, x85, x86, x87, x88, x89, x90, x91, x92, x93, x94, x95, x96, x97, x98, x99, x100, x101, rfl, h.same 5 _ (.con (.bool true)) (by rw [HV.out]; rfl) rfl⟩
        · obtain rfl : x78 = .bool true := h.get 5 (hw _ rfl ⟨5, .data⟩ (by simp) rfl) (.con (.bool true)) (by rw [HV.out]; rfl) _ rfl
          refine wpOp_step rfl fun K hK => ?_
          go_simp
          exact hK _ _ ⟨x73, x74, x75, x76, x77, _, _, x80, x81, x82, x83, x84, x85, x86, x87, x88, x89, x90, x91, x92, x93, x94, x95, x96, x97, x98, x99, x100, x101, rfl, h.same 6 _ (.con (.bool true)) (by rw [HV.out]; rfl) rfl⟩
        · obtain rfl : x79 = .bool true := h.get 6 (hw _ rfl ⟨6, .chain⟩ (by simp) rfl) (.con (.bool true)) (by rw [HV.out]; rfl) _ rfl
          obtain ⟨q0, q1, q2, q3, q4, q5, p0, p1, r0, r1, r2, r3, r4, r5⟩ := HSY.out w' h.1
          refine wpOp_step rfl fun K hK => ?_
          go_simp
          refine (HH.out w').mono ?_
          rintro e w2 ⟨y, rfl, hy, hb2⟩
          exact hK _ _ ⟨x73, x74, x75, x76, x77, x78, _, _, x81, x82, x83, x84, x85, x86, x87, x88, x89, x90, x91, x92, x93, x94, x95, x96, x97, x98, x99, x100, x101, rfl, h.did hb2 7 _ (MP.ver) (by rw [HV.out]; rfl) hy⟩
        · obtain rfl : x79 = .bool true := h.get 6 (hw _ rfl ⟨6, .guard⟩ (by simp) rfl) (.con (.bool true)) (by rw [HV.out]; rfl) _ rfl
          obtain ⟨q0, q1, q2, q3, q4, q5, p0, p1, r0, r1, r2, r3, r4, r5⟩ := HSY.out w' h.1
          refine wpOp_step rfl fun K hK => ?_
          go_simp
          exact hK _ _ ⟨x73, x74, x75, x76, x77, x78, _, x80, _, x82, x83, x84, x85, x86, x87, x88, x89, x90, x91, x92, x93, x94, x95, x96, x97, x98, x99, x100, x101, rfl, h.same 8 _ (.con (.agg #[.int .u8 5, .int .i64 0, .string { data := #[] }, .slice none 0 0, .slice none 0 0, .slice (some ⟨sb, so, none⟩) 2 sc])) (by rw [HV.out]; rfl) rfl⟩
        · obtain rfl : x79 = .bool true := h.get 6 (hw _ rfl ⟨6, .guard⟩ (by simp) rfl) (.con (.bool true)) (by rw [HV.out]; rfl) _ rfl
          obtain ⟨q0, q1, q2, q3, q4, q5, p0, p1, r0, r1, r2, r3, r4, r5⟩ := HSY.out w' h.1
          refine wpOp_step rfl fun K hK => ?_
          go_simp
          exact hK _ _ ⟨x73, x74, x75, x76, x77, x78, _, x80, x81, _, x83, x84, x85, x86, x87, x88, x89, x90, x91, x92, x93, x94, x95, x96, x97, x98, x99, x100, x101, rfl, h.same 9 _ (.con (.agg #[.int .i64 2, .slice ia 2 ic])) (by rw [HV.out]; rfl) rfl⟩
        · obtain rfl : x79 = .bool true := h.get 6 (hw _ rfl ⟨6, .guard⟩ (by simp) rfl) (.con (.bool true)) (by rw [HV.out]; rfl) _ rfl
          refine wpOp_step rfl fun K hK => ?_
          go_simp
          exact hK _ _ ⟨x73, x74, x75, x76, x77, x78, _, x80, x81, x82, _, x84, x85, x86, x87, x88, x89, x90, x91, x92, x93, x94, x95, x96, x97, x98, x99, x100, x101, rfl, h.same 10 _ (.con (.slice ka 2 2)) (by rw [HV.out]; rfl) rfl⟩
        · obtain rfl : x79 = .bool true := h.get 6 (hw _ rfl ⟨6, .guard⟩ (by simp) rfl) (.con (.bool true)) (by rw [HV.out]; rfl) _ rfl
          have hs80 := h.get 7 (hw _ rfl ⟨7, .data⟩ (by simp) rfl) (MP.ver) (by rw [HV.out]; rfl) _ rfl
          obtain rfl : x81 = .agg #[.int .u8 5, .int .i64 0, .string { data := #[] }, .slice none 0 0, .slice none 0 0, .slice (some ⟨sb, so, none⟩) 2 sc] := h.get 8 (hw _ rfl ⟨8, .data⟩ (by simp) rfl) (.con (.agg #[.int .u8 5, .int .i64 0, .string { data := #[] }, .slice none 0 0, .slice none 0 0, .slice (some ⟨sb, so, none⟩) 2 sc])) (by rw [HV.out]; rfl) _ rfl
          obtain rfl : x82 = .agg #[.int .i64 2, .slice ia 2 ic] := h.get 9 (hw _ rfl ⟨9, .data⟩ (by simp) rfl) (.con (.agg #[.int .i64 2, .slice ia 2 ic])) (by rw [HV.out]; rfl) _ rfl
          obtain rfl : x83 = .slice ka 2 2 := h.get 10 (hw _ rfl ⟨10, .data⟩ (by simp) rfl) (.con (.slice ka 2 2)) (by rw [HV.out]; rfl) _ rfl
          obtain ⟨q0, q1, q2, q3, q4, q5, p0, p1, r0, r1, r2, r3, r4, r5⟩ := HSY.out w' h.1
          refine wpOp_step rfl fun K hK => ?_
          go_simp
          refine (HE9.out w' h.1 _ hs80).mono ?_
          rintro e w2 ⟨rfl, hb2⟩
          exact hK _ _ ⟨x73, x74, x75, x76, x77, x78, _, x80, _, _, _, _, x85, x86, x87, x88, x89, x90, x91, x92, x93, x94, x95, x96, x97, x98, x99, x100, x101, rfl, h.did hb2 11 _ (.con (.bool true)) (by rw [HV.out]; rfl) rfl⟩
        · obtain rfl : x79 = .bool true := h.get 6 (hw _ rfl ⟨6, .data⟩ (by simp) rfl) (.con (.bool true)) (by rw [HV.out]; rfl) _ rfl
          obtain rfl : x84 = .bool true := h.get 11 (hw _ rfl ⟨11, .data⟩ (by simp) rfl) (.con (.bool true)) (by rw [HV.out]; rfl) _ rfl
          refine wpOp_step rfl fun K hK => ?_
          go_simp
          exact hK _ _ ⟨x73, x74, x75, x76, x77, x78, _, x80, x81, x82, x83, _, _, x86, x87, x88, x89, x90, x91, x92, x93, x94, x95, x96, x97, x98, x99, x100, x101, rfl, h.same 12 _ (.con (.bool true)) (by rw [HV.out]; rfl) rfl⟩
        · obtain rfl : x85 = .bool true := h.get 12 (hw _ rfl ⟨12, .data⟩ (by simp) rfl) (.con (.bool true)) (by rw [HV.out]; rfl) _ rfl
          refine wpOp_step rfl fun K hK => ?_
          go_simp
          exact hK _ _ ⟨x73, x74, x75, x76, x77, x78, x79, x80, x81, x82, x83, x84, _, _, x87, x88, x89, x90, x91, x92, x93, x94, x95, x96, x97, x98, x99, x100, x101, rfl, h.same 13 _ (.con (.bool true)) (by rw [HV.out]; rfl) rfl⟩
        · obtain rfl : x86 = .bool true := h.get 13 (hw _ rfl ⟨13, .chain⟩ (by simp) rfl) (.con (.bool true)) (by rw [HV.out]; rfl) _ rfl
          obtain ⟨q0, q1, q2, q3, q4, q5, p0, p1, r0, r1, r2, r3, r4, r5⟩ := HSY.out w' h.1
          refine wpOp_step rfl fun K hK => ?_
          go_simp
          refine (HH.out w').mono ?_
          rintro e w2 ⟨y, rfl, hy, hb2⟩
          exact hK _ _ ⟨x73, x74, x75, x76, x77, x78, x79, x80, x81, x82, x83, x84, x85, _, _, x88, x89, x90, x91, x92, x93, x94, x95, x96, x97, x98, x99, x100, x101, rfl, h.did hb2 14 _ (MP.ver) (by rw [HV.out]; rfl) hy⟩
        · obtain rfl : x86 = .bool true := h.get 13 (hw _ rfl ⟨13, .guard⟩ (by simp) rfl) (.con (.bool true)) (by rw [HV.out]; rfl) _ rfl
          obtain ⟨q0, q1, q2, q3, q4, q5, p0, p1, r0, r1, r2, r3, r4, r5⟩ := HSY.out w' h.1
          refine wpOp_step rfl fun K hK => ?_
          go_simp
          exact hK _ _ ⟨x73, x74, x75, x76, x77, x78, x79, x80, x81, x82, x83, x84, x85, _, x87, _, x89, x90, x91, x92, x93, x94, x95, x96, x97, x98, x99, x100, x101, rfl, h.same 15 _ (.con (.agg #[.int .u8 5, .int .i64 0, .string { data := #[] }, .slice none 0 0, .slice none 0 0, .slice (some ⟨b71, 0, none⟩) 2 2])) (by rw [HV.out]; rfl) rfl⟩
        · obtain rfl : x86 = .bool true := h.get 13 (hw _ rfl ⟨13, .guard⟩ (by simp) rfl) (.con (.bool true)) (by rw [HV.out]; rfl) _ rfl
          obtain ⟨q0, q1, q2, q3, q4, q5, p0, p1, r0, r1, r2, r3, r4, r5⟩ := HSY.out w' h.1
          refine wpOp_step rfl fun K hK => ?_
          go_simp
          exact hK _ _ ⟨x73, x74, x75, x76, x77, x78, x79, x80, x81, x82, x83, x84, x85, _, x87, x88, _, x90, x91, x92, x93, x94, x95, x96, x97, x98, x99, x100, x101, rfl, h.same 16 _ (.con (.agg #[.int .i64 2, .slice ia 2 ic])) (by rw [HV.out]; rfl) rfl⟩
        · obtain rfl : x86 = .bool true := h.get 13 (hw _ rfl ⟨13, .guard⟩ (by simp) rfl) (.con (.bool true)) (by rw [HV.out]; rfl) _ rfl
          refine wpOp_step rfl fun K hK => ?_
          go_simp
          exact hK _ _ ⟨x73, x74, x75, x76, x77, x78, x79, x80, x81, x82, x83, x84, x85, _, x87, x88, x89, _, x91, x92, x93, x94, x95, x96, x97, x98, x99, x100, x101, rfl, h.same 17 _ (.con (.slice ka 2 2)) (by rw [HV.out]; rfl) rfl⟩
        · obtain rfl : x86 = .bool true := h.get 13 (hw _ rfl ⟨13, .guard⟩ (by simp) rfl) (.con (.bool true)) (by rw [HV.out]; rfl) _ rfl
          have hs87 := h.get 14 (hw _ rfl ⟨14, .data⟩ (by simp) rfl) (MP.ver) (by rw [HV.out]; rfl) _ rfl
          obtain rfl : x88 = .agg #[.int .u8 5, .int .i64 0, .string { data := #[] }, .slice none 0 0, .slice none 0 0, .slice (some ⟨b71, 0, none⟩) 2 2] := h.get 15 (hw _ rfl ⟨15, .data⟩ (by simp) rfl) (.con (.agg #[.int .u8 5, .int .i64 0, .string { data := #[] }, .slice none 0 0, .slice none 0 0, .slice (some ⟨b71, 0, none⟩) 2 2])) (by rw [HV.out]; rfl) _ rfl
          obtain rfl : x89 = .agg #[.int .i64 2, .slice ia 2 ic] := h.get 16 (hw _ rfl ⟨16, .data⟩ (by simp) rfl) (.con (.agg #[.int .i64 2, .slice ia 2 ic])) (by rw [HV.out]; rfl) _ rfl
          obtain rfl : x90 = .slice ka 2 2 := h.get 17 (hw _ rfl ⟨17, .data⟩ (by simp) rfl) (.con (.slice ka 2 2)) (by rw [HV.out]; rfl) _ rfl
          obtain ⟨q0, q1, q2, q3, q4, q5, p0, p1, r0, r1, r2, r3, r4, r5⟩ := HSY.out w' h.1
          refine wpOp_step rfl fun K hK => ?_
          go_simp
          refine (HC11.out w' h.1 _ hs87).mono ?_
          rintro e w2 ⟨rfl, hb2⟩
          exact hK _ _ ⟨x73, x74, x75, x76, x77, x78, x79, x80, x81, x82, x83, x84, x85, _, x87, _, _, _, _, x92, x93, x94, x95, x96, x97, x98, x99, x100, x101, rfl, h.did hb2 18 _ (.con (.int .i64 1)) (by rw [HV.out]; rfl) rfl⟩
        · obtain rfl : x86 = .bool true := h.get 13 (hw _ rfl ⟨13, .guard⟩ (by simp) rfl) (.con (.bool true)) (by rw [HV.out]; rfl) _ rfl
          obtain rfl : x91 = .int .i64 1 := h.get 18 (hw _ rfl ⟨18, .data⟩ (by simp) rfl) (.con (.int .i64 1)) (by rw [HV.out]; rfl) _ rfl
          refine wpOp_step rfl fun K hK => ?_
          go_simp
          exact hK _ _ ⟨x73, x74, x75, x76, x77, x78, x79, x80, x81, x82, x83, x84, x85, _, x87, x88, x89, x90, _, _, x93, x94, x95, x96, x97, x98, x99, x100, x101, rfl, h.same 19 _ (.con (.bool true)) (by rw [HV.out]; rfl) rfl⟩
        · obtain rfl : x86 = .bool true := h.get 13 (hw _ rfl ⟨13, .data⟩ (by simp) rfl) (.con (.bool true)) (by rw [HV.out]; rfl) _ rfl
          obtain rfl : x92 = .bool true := h.get 19 (hw _ rfl ⟨19, .data⟩ (by simp) rfl) (.con (.bool true)) (by rw [HV.out]; rfl) _ rfl
          refine wpOp_step rfl fun K hK => ?_
          go_simp
          exact hK _ _ ⟨x73, x74, x75, x76, x77, x78, x79, x80, x81, x82, x83, x84, x85, _, x87, x88, x89, x90, x91, _, _, x94, x95, x96, x97, x98, x99, x100, x101, rfl, h.same 20 _ (.con (.bool true)) (by rw [HV.out]; rfl) rfl⟩
        · obtain rfl : x93 = .bool true := h.get 20 (hw _ rfl ⟨20, .data⟩ (by simp) rfl) (.con (.bool true)) (by rw [HV.out]; rfl) _ rfl
          refine wpOp_step rfl fun K hK => ?_
          go_simp
          exact hK _ _ ⟨x73, x74, x75, x76, x77, x78, x79, x80, x81, x82, x83, x84, x85, x86, x87, x88, x89, x90, x91, x92, _, _, x95, x96, x97, x98, x99, x100, x101, rfl, h.same 21 _ (.con (.bool true)) (by rw [HV.out]; rfl) rfl⟩
        · obtain rfl : x94 = .bool true := h.get 21 (hw _ rfl ⟨21, .chain⟩ (by simp) rfl) (.con (.bool true)) (by rw [HV.out]; rfl) _ rfl
          obtain ⟨q0, q1, q2, q3, q4, q5, p0, p1, r0, r1, r2, r3, r4, r5⟩ := HSY.out w' h.1
          refine wpOp_step rfl fun K hK => ?_
          go_simp
          refine (HH.out w').mono ?_
          rintro e w2 ⟨y, rfl, hy, hb2⟩
          exact hK _ _ ⟨x73, x74, x75, x76, x77, x78, x79, x80, x81, x82, x83, x84, x85, x86, x87, x88, x89, x90, x91, x92, x93, _, _, x96, x97, x98, x99, x100, x101, rfl, h.did hb2 22 _ (MP.ver) (by rw [HV.out]; rfl) hy⟩
        · obtain rfl : x94 = .bool true := h.get 21 (hw _ rfl ⟨21, .guard⟩ (by simp) rfl) (.con (.bool true)) (by rw [HV.out]; rfl) _ rfl
          obtain ⟨q0, q1, q2, q3, q4, q5, p0, p1, r0, r1, r2, r3, r4, r5⟩ := HSY.out w' h.1
          refine wpOp_step rfl fun K hK => ?_
          go_simp
          exact hK _ _ ⟨x73, x74, x75, x76, x77, x78, x79, x80, x81, x82, x83, x84, x85, x86, x87, x88, x89, x90, x91, x92, x93, _, x95, _, x97, x98, x99, x100, x101, rfl, h.same 23 _ (.con (.agg #[.int .u8 5, .int .i64 0, .string { data := #[] }, .slice none 0 0, .slice none 0 0, .slice (some ⟨b71, 0, none⟩) 2 2])) (by rw [HV.out]; rfl) rfl⟩
        · obtain rfl : x94 = .bool true := h.get 21 (hw _ rfl ⟨21, .guard⟩ (by simp) rfl) (.con (.bool true)) (by rw [HV.out]; rfl) _ rfl
          obtain ⟨q0, q1, q2, q3, q4, q5, p0, p1, r0, r1, r2, r3, r4, r5⟩ := HSY.out w' h.1
          refine wpOp_step rfl fun K hK => ?_
          go_simp
          exact hK _ _ ⟨x73, x74, x75, x76, x77, x78, x79, x80, x81, x82, x83, x84, x85, x86, x87, x88, x89, x90, x91, x92, x93, _, x95, x96, _, x98, x99, x100, x101, rfl, h.same 24 _ (.con (.agg #[.int .i64 2, .slice ia 2 ic])) (by rw [HV.out]; rfl) rfl⟩
        · obtain rfl : x94 = .bool true := h.get 21 (hw _ rfl ⟨21, .guard⟩ (by simp) rfl) (.con (.bool true)) (by rw [HV.out]; rfl) _ rfl
          refine wpOp_step rfl fun K hK => ?_
          go_simp
          exact hK _ _ ⟨x73, x74, x75, x76, x77, x78, x79, x80, x81, x82, x83, x84, x85, x86, x87, x88, x89, x90, x91, x92, x93, _, x95, x96, x97, _, x99, x100, x101, rfl, h.same 25 _ (.con (.slice ka 2 2)) (by rw [HV.out]; rfl) rfl⟩
        · obtain rfl : x94 = .bool true := h.get 21 (hw _ rfl ⟨21, .guard⟩ (by simp) rfl) (.con (.bool true)) (by rw [HV.out]; rfl) _ rfl
          have hs95 := h.get 22 (hw _ rfl ⟨22, .data⟩ (by simp) rfl) (MP.ver) (by rw [HV.out]; rfl) _ rfl
          obtain rfl : x96 = .agg #[.int .u8 5, .int .i64 0, .string { data := #[] }, .slice none 0 0, .slice none 0 0, .slice (some ⟨b71, 0, none⟩) 2 2] := h.get 23 (hw _ rfl ⟨23, .data⟩ (by simp) rfl) (.con (.agg #[.int .u8 5, .int .i64 0, .string { data := #[] }, .slice none 0 0, .slice none 0 0, .slice (some ⟨b71, 0, none⟩) 2 2])) (by rw [HV.out]; rfl) _ rfl
          obtain rfl : x97 = .agg #[.int .i64 2, .slice ia 2 ic] := h.get 24 (hw _ rfl ⟨24, .data⟩ (by simp) rfl) (.con (.agg #[.int .i64 2, .slice ia 2 ic])) (by rw [HV.out]; rfl) _ rfl
          obtain rfl : x98 = .slice ka 2 2 := h.get 25 (hw _ rfl ⟨25, .data⟩ (by simp) rfl) (.con (.slice ka 2 2)) (by rw [HV.out]; rfl) _ rfl
          obtain ⟨q0, q1, q2, q3, q4, q5, p0, p1, r0, r1, r2, r3, r4, r5⟩ := HSY.out w' h.1
          refine wpOp_step rfl fun K hK => ?_
          go_simp
          refine (HE11.out w' h.1 _ hs95).mono ?_
          rintro e w2 ⟨rfl, hb2⟩
          exact hK _ _ ⟨x73, x74, x75, x76, x77, x78, x79, x80, x81, x82, x83, x84, x85, x86, x87, x88, x89, x90, x91, x92, x93, _, x95, _, _, _, _, x100, x101, rfl, h.did hb2 26 _ (.con (.bool false)) (by rw [HV.out]; rfl) rfl⟩
        · obtain rfl : x94 = .bool true := h.get 21 (hw _ rfl ⟨21, .guard⟩ (by simp) rfl) (.con (.bool true)) (by rw [HV.out]; rfl) _ rfl
          obtain rfl : x99 = .bool false := h.get 26 (hw _ rfl ⟨26, .data⟩ (by simp) rfl) (.con (.bool false)) (by rw [HV.out]; rfl) _ rfl
          refine wpOp_step rfl fun K hK => ?_
          go_simp
          exact hK _ _ ⟨x73, x74, x75, x76, x77, x78, x79, x80, x81, x82, x83, x84, x85, x86, x87, x88, x89, x90, x91, x92, x93, _, x95, x96, x97, x98, _, _, x101, rfl, h.same 27 _ (.con (.bool true)) (by rw [HV.out]; rfl) rfl⟩
        · obtain rfl : x94 = .bool true := h.get 21 (hw _ rfl ⟨21, .data⟩ (by simp) rfl) (.con (.bool true)) (by rw [HV.out]; rfl) _ rfl
          obtain rfl : x100 = .bool true := h.get 27 (hw _ rfl ⟨27, .data⟩ (by simp) rfl) (.con (.bool true)) (by rw [HV.out]; rfl) _ rfl
          refine wpOp_step rfl fun K hK => ?_
          go_simp
          exact hK _ _ ⟨x73, x74, x75, x76, x77, x78, x79, x80, x81, x82, x83, x84, x85, x86, x87, x88, x89, x90, x91, x92, x93, _, x95, x96, x97, x98, x99, _, _, rfl, h.same 28 _ (.con (.bool true)) (by rw [HV.out]; rfl) rfl⟩
        · omega
      case last =>
        rintro d a' w' hall ⟨x73, x74, x75, x76, x77, x78, x79, x80, x81, x82, x83, x84, x85, x86, x87, x88, x89, x90, x91, x92, x93, x94, x95, x96, x97, x98, x99, x100, x101, rfl, h⟩
        have hle := h.1
        obtain rfl : x101 = .bool true := h.get 28 (hall _ (by omega)) (.con (.bool true)) (by rw [HV.out]; rfl) _ rfl
        have HLE := Lib.hid hle
        clear h hall hle HV
        go_wp2
        go_ret
        exact ⟨rfl, HBX.out.trans (HLE.out.mono HBX.out.size)⟩

end Go.Proofs.YtaekmmnpdbmoeaaGreatDoor
