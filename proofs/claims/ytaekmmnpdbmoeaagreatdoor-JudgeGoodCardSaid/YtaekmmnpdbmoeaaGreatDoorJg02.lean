/- The contract of legatelaw17.JudgeGood. Printed by gengood.py. -/
import Derived.Test.YtaekmmnpdbmoeaaGreatDoorJr29
import Derived.Test.YtaekmmnpdbmoeaaGreatDoorJr23
import Derived.Test.YtaekmmnpdbmoeaaGreatDoorJg01
import Derived.Test.YtaekmmnpdbmoeaaGreatDoorJr30

namespace Go.Proofs.YtaekmmnpdbmoeaaGreatDoor
open Go.RowKit

theorem eqSig (a b : ByteArray) (w : World) : (binOp .eql 26 (.agg #[.string a, .string b]) (.agg #[.string a, .string b])).run Tryz.prog w = .ok (.bool true) w := by
  have u9 := Tryz.underlying9
  have hS : Tryz.prog.underlying 26 = some (.struct (Tryz.prog.fieldsOf 26)) := by kernel_rfl
  have hp : Tryz.prog.stoodInHeld 26 = false := by kernel_rfl
  rw [run_eql_struct, show (10000 : Nat) = 9999 + 1 from rfl, run_equalIn_agg w 9999 26 _ _ hS hp]
  simp only [Program.fieldsOf, Tryz.underlying26]
  go_simp

set_option maxHeartbeats 400000 in
theorem lawBoth (hm : Bool) (l : List Ver3) (a : Option Addr) (c : Nat) (w : World) (hR : TrisAt w 0 w.heap.size a l) (hl : l.length ≤ 60) :
    Calls Tryz.prog 15 #[.bool hm, .slice a l.length c] w fun e w' => ∃ x y, e = .returned (.tuple #[x, y]) ∧ VerIs w' x (verOf hm l) ∧ RVer w' y (verOf hm l) ∧ Below w.heap.size w w' := by
  cases hm
  · have HC := Lib.hid (judgeTable l a c w hR hl)
    have HRT := Lib.hid hR
    clear hR
    go_enter Tryz.func15, Tryz.ntmps15
    go_wp2_with fail
    refine HC.out.mono ?_
    rintro e w1 ⟨p, a', c', rfl, hp, hx, hT, hb⟩
    have HX := Lib.hid hx
    have HTT := Lib.hid hT
    have HB := Lib.hid hb
    clear hx hT hb
    go_wp2
    go_ret2
    refine ⟨_, _, rfl, .inl ⟨p, a', c', rfl, ?_, hl, ?_⟩, ⟨_, a, c, rfl, heap_alloc_new w1 _, hl, ?_⟩, ?_⟩
    · rw [Below.heap_alloc _ _ _ (heap_lt HX.out)]; exact HX.out
    · exact HTT.out.carry (Nat.zero_le _) (by have := heap_lt HX.out; simp; omega) (fun b _ hb => Below.heap_alloc _ _ _ (by have := heap_lt HX.out; omega))
    · exact HRT.out.below (HB.out.alloc HB.out.size _) (Nat.le_refl _) (Nat.le_refl _) (by have := HB.out.size; simp; omega)
    · exact HB.out.alloc HB.out.size _
  · go_enter Tryz.func15, Tryz.ntmps15
    go_wp2_with fail
    refine (judgeHMAC w).mono ?_
    rintro e w1 ⟨rfl, rfl⟩
    go_wp2
    go_ret2
    refine ⟨_, _, rfl, ⟨_, rfl, ?_⟩, ⟨_, rfl, ?_⟩, ?_⟩
    · rw [Below.heap_alloc _ _ _ (by simp)]; exact heap_alloc_new w _
    · have := heap_alloc_new (w.alloc (.cells #[.iface 94 (.agg #[])] 64)) (.cells #[.bool true, .slice none 0 0] 87)
      simpa using this
    · exact below_n2 w _ _

set_option maxHeartbeats 2000000 in
set_option maxRecDepth 100000 in
theorem lawGood (l : List Ver3) (a : Option Addr) (c : Nat) (ks kp s1 s2 m : ByteArray) (w : World) (hV : TrisAt w 0 w.heap.size a l) (hl : l.length ≤ 9223372036854775807) (hT : Tabs w) (hP : Pow10 w) :
    Calls Tryz.prog 3 #[.slice a l.length c, .agg #[.string ks, .string kp], .agg #[.string s1, .string s2], .string m] w fun e w' => e = .returned (.bool true) ∧ Below w.heap.size w w' := by
  obtain ⟨W0, hW0⟩ : ∃ W0, W0 = (w.alloc (.cells #[.string ks, .string kp] 24)).alloc (.cells #[.string s1, .string s2] 26) := ⟨_, rfl⟩
  have HB0 := Lib.hid (show Below w.heap.size w W0 by rw [hW0]; exact below_n2 w _ _)
  have HZ0 := Lib.hid (show W0.heap.size = w.heap.size + 2 by rw [hW0]; simp)
  have hx0 : W0.heap[w.heap.size]? = some (.cells #[.string ks, .string kp] 24 (0, 0)) := by
    rw [hW0, Below.heap_alloc _ _ _ (by simp)]; exact heap_alloc_new w _
  have hx1 : W0.heap[w.heap.size + 1]? = some (.cells #[.string s1, .string s2] 26 (0, 0)) := by
    rw [hW0]
    have := heap_alloc_new (w.alloc (.cells #[.string ks, .string kp] 24)) (.cells #[.string s1, .string s2] 26)
    simpa using this
  have HSB := Lib.hid (show ∀ w' : World, Below W0.heap.size W0 w' → w'.cell? ⟨w.heap.size, 0, none⟩ = some (.string ks) ∧ w'.cell? ⟨w.heap.size, 1, none⟩ = some (.string kp) ∧ w'.cell? ⟨w.heap.size + 1, 0, none⟩ = some (.string s1) ∧ w'.cell? ⟨w.heap.size + 1, 1, none⟩ = some (.string s2) from fun w' h => by
    have y0 := (h.block _ (by have := HZ0.out; omega)).trans hx0
    have y1 := (h.block _ (by have := HZ0.out; omega)).trans hx1
    exact ⟨box_cell y0 rfl, box_cell y0 rfl, box_cell y1 rfl, box_cell y1 rfl⟩)
  have HT := Lib.hid (show ∀ w' : World, Below W0.heap.size W0 w' → Tabs w' from fun w' h => hT.below (HB0.out.trans (h.mono HB0.out.size)))
  have HA := Lib.hid (show ∀ w' : World, Below W0.heap.size W0 w' → Calls Tryz.prog 14 #[] w' (fun e w'' => e = .returned (.bool true) ∧ Below w'.heap.size w' w'') from fun w' h => lawAwake17 w' (HT.out w' h) (hP.below (HB0.out.trans (h.mono HB0.out.size))))
  have HLV := Lib.hid (lawLongVerdicts l a c W0 (hV.below HB0.out (Nat.le_refl _) (Nat.le_refl _) HB0.out.size) hl)
  have HV := Lib.hid (show ∀ w' : World, Below W0.heap.size W0 w' → TrisAt w' 0 w'.heap.size a l from fun w' h => hV.below (HB0.out.trans (h.mono HB0.out.size)) (Nat.le_refl _) (Nat.le_refl _) (HB0.out.trans (h.mono HB0.out.size)).size)
  have HW0 := Lib.hid hW0
  clear hV hl hT hP hx0 hx1 hW0
  go_enter Tryz.func3, Tryz.ntmps3
  go_wp2_with fail
  rw [← HW0.out]
  refine HLV.out.mono ?_
  clear HLV HW0
  rintro e w1 ⟨b, rfl, hb, hb1⟩
  have HB1 := Lib.hid hb1
  clear hb1
  obtain ⟨q0, q1, q2, q3⟩ := HSB.out w1 HB1.out
  cases b
  case true =>
    clear hb
    go_wp2_with fail
    refine (HA.out w1 HB1.out).mono ?_
    rintro e w9 ⟨rfl, hb9⟩
    have HB9 := Lib.hid (HB1.out.trans (hb9.mono HB1.out.size))
    clear hb9
    go_wp2
    go_ret
    exact ⟨rfl, HB0.out.trans (HB9.out.mono HB0.out.size)⟩
  obtain ⟨hl60, hlz⟩ := hb rfl
  clear hb hlz
  have HLK := Lib.hid (lawLongKeys [(ks, kp)] _ 1 (w1.alloc (.cells #[.string ks, .string kp] 24)) keys_single (by simp))
  go_wp2_with fail
  refine HLK.out.mono ?_
  clear HLK q0 q1 q2 q3
  rintro e w2 ⟨b, rfl, hb, hb2⟩
  have HB2 := Lib.hid (HB1.out.trans (((Below.refl _ _).alloc (Nat.le_refl _) _).trans (hb2.mono (by simp)) |>.mono HB1.out.size))
  clear hb2
  obtain ⟨q0, q1, q2, q3⟩ := HSB.out w2 HB2.out
  cases b
  case true =>
    clear hb
    go_wp2_with fail
    refine (HA.out w2 HB2.out).mono ?_
    rintro e w9 ⟨rfl, hb9⟩
    have HB9 := Lib.hid (HB2.out.trans (hb9.mono HB2.out.size))
    clear hb9
    go_wp2
    go_ret
    exact ⟨rfl, HB0.out.trans (HB9.out.mono HB0.out.size)⟩
  have hk := (hb rfl).2 (ks, kp) (by simp)
  clear hb
  have HKZ := Lib.hid hk
  clear hk
  by_cases g0 : s1.size ≤ 300
  case neg =>
    have g0' : decide (300 < s1.size) = true := by simp; omega
    go_wp2_with fail
    refine (HA.out w2 HB2.out).mono ?_
    rintro e w9 ⟨rfl, hb9⟩
    have HB9 := Lib.hid (HB2.out.trans (hb9.mono HB2.out.size))
    clear hb9
    go_wp2
    go_ret
    exact ⟨rfl, HB0.out.trans (HB9.out.mono HB0.out.size)⟩
  by_cases g1 : s2.size ≤ 300
  case neg =>
    have g0' : decide (300 < s1.size) = false := by simp; omega
    have g1' : decide (300 < s2.size) = true := by simp; omega
    go_wp2_with fail
    refine (HA.out w2 HB2.out).mono ?_
    rintro e w9 ⟨rfl, hb9⟩
    have HB9 := Lib.hid (HB2.out.trans (hb9.mono HB2.out.size))
    clear hb9
    go_wp2
    go_ret
    exact ⟨rfl, HB0.out.trans (HB9.out.mono HB0.out.size)⟩
  by_cases g2 : m.size ≤ 3000
  case neg =>
    have g0' : decide (300 < s1.size) = false := by simp; omega
    have g1' : decide (300 < s2.size) = false := by simp; omega
    have g2' : decide (3000 < m.size) = true := by simp; omega
    go_wp2_with fail
    refine (HA.out w2 HB2.out).mono ?_
    rintro e w9 ⟨rfl, hb9⟩
    have HB9 := Lib.hid (HB2.out.trans (hb9.mono HB2.out.size))
    clear hb9
    go_wp2
    go_ret
    exact ⟨rfl, HB0.out.trans (HB9.out.mono HB0.out.size)⟩
  have g0' : decide (300 < s1.size) = false := by simp; omega
  have g1' : decide (300 < s2.size) = false := by simp; omega
  have g2' : decide (3000 < m.size) = false := by simp; omega
  obtain ⟨W3, hW3⟩ : ∃ W3, W3 = w2.alloc (.cells #[.bool true, .bool false] 4) := ⟨_, rfl⟩
  have HB23 := Lib.hid (show Below w2.heap.size w2 W3 by rw [hW3]; exact below_n1 _ _)
  have HX3 := Lib.hid (show W3.heap[w2.heap.size]? = some (.cells #[.bool true, .bool false] 4 (0, 0)) by rw [hW3]; exact heap_alloc_new w2 _)
  have HB3 := Lib.hid (HB2.out.trans (HB23.out.mono HB2.out.size))
  have HW3 := Lib.hid hW3
  clear hW3
  go_wp2_with fail
  rw [← HW3.out]
  clear q0 q1 q2 q3 g0' g1' g2' HW3
  go_loopw [44] (fun i wr => ∃ k : Nat, k ≤ 2 ∧ i = .int .i64 k ∧ Below W3.heap.size W3 wr) (fun i _ => 2 - (intOf i).toNat)
  case atStart => exact ⟨0, by omega, rfl, Below.refl _ _⟩
  case round =>
    obtain ⟨k, hk, rfl, hbr⟩ := hrel
    have HBR := Lib.hid hbr
    have HB0R := Lib.hid (show Below W0.heap.size W0 wr from HB3.out.trans (hbr.mono HB3.out.size))
    clear hbr
    by_cases hlt : k < 2
    · have m1 : (k : Int) < 2 := by omega
      have m0 : (0 : Int) ≤ (k : Int) := by omega
      obtain ⟨hm, hhm⟩ : ∃ hm, hm = decide (k = 0) := ⟨_, rfl⟩
      have c0 : wr.cell? ⟨w2.heap.size, k, none⟩ = some (.bool hm) := by
        have hx := (HBR.out.block _ (heap_lt HX3.out)).trans HX3.out
        rw [hhm]
        rcases (show k = 0 ∨ k = 1 by omega) with e | e
        · rw [e]; exact box_cell hx rfl
        · rw [e]; exact box_cell hx rfl
      have HBO := Lib.hid (lawBoth hm l a c wr (HV.out wr HB0R.out) hl60)
      obtain ⟨v, hv⟩ : ∃ v, v = verOf hm l := ⟨_, rfl⟩
      rw [← hv] at HBO
      clear hv hhm
      go_wp2_with fail
      refine HBO.out.mono ?_
      clear HBO c0
      rintro e w4 ⟨x, y, rfl, hx, hy, hb4⟩
      have HX := Lib.hid hx
      have HY := Lib.hid hy
      have HB4 := Lib.hid (HB0R.out.trans (hb4.mono HB0R.out.size))
      have HBR4 := Lib.hid (HBR.out.trans (hb4.mono HBR.out.size))
      clear hx hy hb4
      have HS4 := Lib.hid (show ∀ w' : World, Below w4.heap.size w4 w' → w'.cell? ⟨w.heap.size, 0, none⟩ = some (.string ks) ∧ w'.cell? ⟨w.heap.size, 1, none⟩ = some (.string kp) ∧ w'.cell? ⟨w.heap.size + 1, 0, none⟩ = some (.string s1) ∧ w'.cell? ⟨w.heap.size + 1, 1, none⟩ = some (.string s2) from fun w' h => HSB.out w' (HB4.out.trans (h.mono HB4.out.size)))
      obtain ⟨q, hq⟩ : ∃ q, q = v.good (ks, kp) (s1, s2) m.data.toList := ⟨_, rfl⟩
      have HG1 := Lib.hid (show ∀ w' : World, Below w4.heap.size w4 w' → Calls Tryz.prog 16 #[x, .agg #[.string ks, .string kp], .agg #[.string s1, .string s2], .string m] w' (fun e w'' => e = .returned (.bool q) ∧ Below w'.heap.size w' w'') from fun w' h => by
        rw [hq]; exact judgeGood v x (ks, kp) (s1, s2) m w' (HX.out.below h) HKZ.out.1 HKZ.out.2 (by show s2.size ≤ _; omega) (by omega) (HT.out w' (HB4.out.trans (h.mono HB4.out.size))))
      have HG2 := Lib.hid (show ∀ w' : World, Below w4.heap.size w4 w' → Calls Tryz.prog 17 #[y, .agg #[.string ks, .string kp], .agg #[.string s1, .string s2], .string m] w' (fun e w'' => e = .returned (.bool q) ∧ Below w'.heap.size w' w'') from fun w' h => by
        rw [hq]; exact ref17Good v y (ks, kp) (s1, s2) m w' (HY.out.below h) HKZ.out.1 HKZ.out.2 (by show s2.size ≤ _; omega) (by omega))
      clear hq
      go_upto_region 7 with fail
      obtain ⟨V, hV⟩ : ∃ V : List MP, V = [.con (x), .con (.agg #[.string ks, .string kp]), .con (.agg #[.string s1, .string s2]), .con (.string m), .con (.bool q), .con (y), .con (.agg #[.string ks, .string kp]), .con (.agg #[.string s1, .string s2]), .con (.string m), .con (.bool q)] := ⟨_, rfl⟩
      have HV := Lib.hid hV
      clear hV
      refine wp_region_inv 10 (fun d a' w' => ∃ x54 x55 x56 x57 x58 x59 x60 x61 x62 x63, a' = ⟨#[Value.slice a l.length c, Value.agg #[Value.string ks, Value.string kp], Value.agg #[Value.string s1, Value.string s2], Value.string m, undef, Value.pointer (some { block := w.heap.size, off := 0 }), Value.pointer (some { block := w.heap.size + 1, off := 0 }), undef, u8, undef, Value.bool hm, x, y, undef, undef, undef, undef, Value.slice a l.length c, Value.bool false, Value.bool false, Value.agg #[Value.string ks, Value.string kp], Value.slice (some { block := w1.heap.size, off := 0 }) 1 1, Value.bool false, Value.bool false, Value.bool false, Value.pointer (some { block := w.heap.size + 1, off := 0 }), Value.string s1, Value.int IntKind.i64 (s1.size : Int), Value.bool (decide (300 < (s1.size : Int))), Value.bool (decide (300 < (s1.size : Int))), Value.bool (decide (300 < (s1.size : Int))), Value.pointer (some { block := w.heap.size + 1, off := 1 }), Value.string s2, Value.int IntKind.i64 (s2.size : Int), Value.bool (decide (300 < (s2.size : Int))), Value.bool (decide (300 < (s1.size : Int)) || decide (300 < (s2.size : Int))), Value.bool (decide (300 < (s1.size : Int)) || decide (300 < (s2.size : Int))), Value.string m, Value.int IntKind.i64 (m.size : Int), Value.bool (decide (3000 < (m.size : Int))), Value.bool (decide (300 < (s1.size : Int)) || decide (300 < (s2.size : Int)) || decide (3000 < (m.size : Int))), undef, Value.slice (some { block := w2.heap.size, off := 0 }) 2 2, Value.int IntKind.i64 2, Value.int IntKind.i64 (k : Int), Value.bool true, Value.pointer (some { block := w2.heap.size, off := k }), Value.bool hm, Value.tuple #[x, y], Value.bool hm, Value.slice a l.length c, Value.tuple #[x, y], x, y, x54, x55, x56, x57, x58, x59, x60, x61, x62, x63, u64, u65, undef, undef, undef, undef, undef, undef, undef, undef, undef, undef, undef, undef, undef, undef, undef, undef, undef, undef, undef, undef, undef, undef, undef], []⟩ ∧ RegI w4 V d w' [x54, x55, x56, x57, x58, x59, x60, x61, x62, x63]) (by kernel_rfl) (by kernel_rfl) ?first ?step ?last
      case first => exact ⟨_, _, _, _, _, _, _, _, _, _, rfl, RegI.first _ _ _ (by rw [HV.out]; rfl)⟩
      case step =>
        rintro d a' w' ⟨x54, x55, x56, x57, x58, x59, x60, x61, x62, x63, rfl, h⟩ q hq hn hw
        rcases q with _ | _ | _ | _ | _ | _ | _ | _ | _ | _ | q
        · refine wpOp_step rfl fun K hK => ?_
          go_simp
          exact hK _ _ ⟨_, x55, x56, x57, x58, x59, x60, x61, x62, x63, rfl, h.same 0 _ (.con (x)) (by rw [HV.out]; rfl) rfl⟩
        · obtain ⟨q0, q1, q2, q3⟩ := HS4.out w' h.1
          refine wpOp_step rfl fun K hK => ?_
          go_simp
          exact hK _ _ ⟨x54, _, x56, x57, x58, x59, x60, x61, x62, x63, rfl, h.same 1 _ (.con (.agg #[.string ks, .string kp])) (by rw [HV.out]; rfl) rfl⟩
        · obtain ⟨q0, q1, q2, q3⟩ := HS4.out w' h.1
          refine wpOp_step rfl fun K hK => ?_
          go_simp
          exact hK _ _ ⟨x54, x55, _, x57, x58, x59, x60, x61, x62, x63, rfl, h.same 2 _ (.con (.agg #[.string s1, .string s2])) (by rw [HV.out]; rfl) rfl⟩
        · refine wpOp_step rfl fun K hK => ?_
          go_simp
          exact hK _ _ ⟨x54, x55, x56, _, x58, x59, x60, x61, x62, x63, rfl, h.same 3 _ (.con (.string m)) (by rw [HV.out]; rfl) rfl⟩
        · obtain rfl : x54 = x := h.get 0 (hw _ rfl ⟨0, .data⟩ (by simp) rfl) (.con (x)) (by rw [HV.out]; rfl) _ rfl
          obtain rfl : x55 = .agg #[.string ks, .string kp] := h.get 1 (hw _ rfl ⟨1, .data⟩ (by simp) rfl) (.con (.agg #[.string ks, .string kp])) (by rw [HV.out]; rfl) _ rfl
          obtain rfl : x56 = .agg #[.string s1, .string s2] := h.get 2 (hw _ rfl ⟨2, .data⟩ (by simp) rfl) (.con (.agg #[.string s1, .string s2])) (by rw [HV.out]; rfl) _ rfl
          obtain rfl : x57 = .string m := h.get 3 (hw _ rfl ⟨3, .data⟩ (by simp) rfl) (.con (.string m)) (by rw [HV.out]; rfl) _ rfl
          obtain ⟨q0, q1, q2, q3⟩ := HS4.out w' h.1
          refine wpOp_step rfl fun K hK => ?_
          go_simp
          refine (HG1.out w' h.1).mono ?_
          rintro e w2 ⟨rfl, hb2⟩
          exact hK _ _ ⟨_, _, _, _, _, x59, x60, x61, x62, x63, rfl, h.did hb2 4 _ (.con (.bool q)) (by rw [HV.out]; rfl) rfl⟩
        · refine wpOp_step rfl fun K hK => ?_
          go_simp
          exact hK _ _ ⟨x54, x55, x56, x57, x58, _, x60, x61, x62, x63, rfl, h.same 5 _ (.con (y)) (by rw [HV.out]; rfl) rfl⟩
        · obtain ⟨q0, q1, q2, q3⟩ := HS4.out w' h.1
          refine wpOp_step rfl fun K hK => ?_
          go_simp
          exact hK _ _ ⟨x54, x55, x56, x57, x58, x59, _, x61, x62, x63, rfl, h.same 6 _ (.con (.agg #[.string ks, .string kp])) (by rw [HV.out]; rfl) rfl⟩
        · obtain ⟨q0, q1, q2, q3⟩ := HS4.out w' h.1
          refine wpOp_step rfl fun K hK => ?_
          go_simp
          exact hK _ _ ⟨x54, x55, x56, x57, x58, x59, x60, _, x62, x63, rfl, h.same 7 _ (.con (.agg #[.string s1, .string s2])) (by rw [HV.out]; rfl) rfl⟩
        · refine wpOp_step rfl fun K hK => ?_
          go_simp
          exact hK _ _ ⟨x54, x55, x56, x57, x58, x59, x60, x61, _, x63, rfl, h.same 8 _ (.con (.string m)) (by rw [HV.out]; rfl) rfl⟩
        · obtain rfl : x59 = y := h.get 5 (hw _ rfl ⟨5, .data⟩ (by simp) rfl) (.con (y)) (by rw [HV.out]; rfl) _ rfl
          obtain rfl : x60 = .agg #[.string ks, .string kp] := h.get 6 (hw _ rfl ⟨6, .data⟩ (by simp) rfl) (.con (.agg #[.string ks, .string kp])) (by rw [HV.out]; rfl) _ rfl
          obtain rfl : x61 = .agg #[.string s1, .string s2] := h.get 7 (hw _ rfl ⟨7, .data⟩ (by simp) rfl) (.con (.agg #[.string s1, .string s2])) (by rw [HV.out]; rfl) _ rfl
          obtain rfl : x62 = .string m := h.get 8 (hw _ rfl ⟨8, .data⟩ (by simp) rfl) (.con (.string m)) (by rw [HV.out]; rfl) _ rfl
          obtain ⟨q0, q1, q2, q3⟩ := HS4.out w' h.1
          refine wpOp_step rfl fun K hK => ?_
          go_simp
          refine (HG2.out w' h.1).mono ?_
          rintro e w2 ⟨rfl, hb2⟩
          exact hK _ _ ⟨x54, x55, x56, x57, x58, _, _, _, _, _, rfl, h.did hb2 9 _ (.con (.bool q)) (by rw [HV.out]; rfl) rfl⟩
        · omega
      case last =>
        rintro d a' w' hall ⟨x54, x55, x56, x57, x58, x59, x60, x61, x62, x63, rfl, h⟩
        have hle := h.1
        obtain rfl : x58 = .bool q := h.get 4 (hall _ (by omega)) (.con (.bool q)) (by rw [HV.out]; rfl) _ rfl
        obtain rfl : x63 = .bool q := h.get 9 (hall _ (by omega)) (.con (.bool q)) (by rw [HV.out]; rfl) _ rfl
        have HLE := Lib.hid hle
        clear h hall hle HV
        cases q <;> (
          go_wp2
          go_roundw
          case rel => exact ⟨k + 1, by omega, by go_num, HBR4.out.trans (HLE.out.mono HBR4.out.size)⟩
          case measure => simp [intOf]; omega)
    · have m1 : ¬ ((k : Int) < 2) := by omega
      have HMK := Lib.hid (judgeMake (ks, kp) m wr HKZ.out.1 HKZ.out.2 (by omega) (HT.out wr HB0R.out))
      have HMR := Lib.hid (fun w' => ref17Make (ks, kp) m w' HKZ.out.1 HKZ.out.2 (by omega))
      obtain ⟨⟨S1, S2⟩, hS⟩ : ∃ s : Sig2, s = makeS (ks, kp) m.data.toList := ⟨_, rfl⟩
      obtain ⟨E, hE⟩ : ∃ E, E = makeE (ks, kp) := ⟨_, rfl⟩
      rw [← hS, ← hE] at HMK HMR
      clear hS hE
      obtain ⟨q0, q1, q2, q3⟩ := HSB.out wr HB0R.out
      go_wp2_with fail
      refine HMK.out.mono ?_
      clear HMK q0 q1 q2 q3
      rintro e w4 ⟨rfl, hb4⟩
      have HB4 := Lib.hid (HB0R.out.trans (hb4.mono HB0R.out.size))
      clear hb4
      obtain ⟨W5, hW5⟩ : ∃ W5, W5 = w4.alloc (.cells #[.string S1, .string S2] 26) := ⟨_, rfl⟩
      have HB5 := Lib.hid (show Below W0.heap.size W0 W5 by rw [hW5]; exact HB4.out.alloc HB4.out.size _)
      have HX5 := Lib.hid (show W5.heap[w4.heap.size]? = some (.cells #[.string S1, .string S2] 26 (0, 0)) by rw [hW5]; exact heap_alloc_new w4 _)
      have HW5 := Lib.hid hW5
      clear hW5
      go_upto_region 11 with fail
      rw [← HW5.out]
      obtain ⟨q0, q1, q2, q3⟩ := HSB.out W5 HB5.out
      go_wp2_with fail
      refine (HMR.out W5).mono ?_
      clear HMR q0 q1 q2 q3
      rintro e w6 ⟨rfl, hb6⟩
      have HB6 := Lib.hid (HB5.out.trans (hb6.mono HB5.out.size))
      have HX6 := Lib.hid ((hb6.block _ (heap_lt HX5.out)).trans HX5.out)
      clear hb6 HX5 HW5
      obtain ⟨W7, hW7⟩ : ∃ W7, W7 = w6.alloc (.cells #[.string S1, .string S2] 26) := ⟨_, rfl⟩
      have HB7 := Lib.hid (show Below W0.heap.size W0 W7 by rw [hW7]; exact HB6.out.alloc HB6.out.size _)
      have hx7 : W7.heap[w6.heap.size]? = some (.cells #[.string S1, .string S2] 26 (0, 0)) := by rw [hW7]; exact heap_alloc_new w6 _
      have hy7 : W7.heap[w4.heap.size]? = some (.cells #[.string S1, .string S2] 26 (0, 0)) := by rw [hW7, Below.heap_alloc _ _ _ (heap_lt HX6.out)]; exact HX6.out
      have c0 : W7.cell? ⟨w4.heap.size, 0, none⟩ = some (.string S1) := box_cell hy7 rfl
      have c1 : W7.cell? ⟨w4.heap.size, 1, none⟩ = some (.string S2) := box_cell hy7 rfl
      have c2 : W7.cell? ⟨w6.heap.size, 0, none⟩ = some (.string S1) := box_cell hx7 rfl
      have c3 : W7.cell? ⟨w6.heap.size, 1, none⟩ = some (.string S2) := box_cell hx7 rfl
      have HW7 := Lib.hid hW7
      clear hW7 hx7 hy7
      go_upto_region 12 with fail
      rw [← HW7.out]
      have hee : (E == E) = true := beq_self_eq_true _
      have hes : (S1.toList == S1.toList) = true := beq_self_eq_true _
      have hes2 : (S2.toList == S2.toList) = true := beq_self_eq_true _
      have hq := eqSig S1 S2 W7
      go_wp2_with fail
      refine (HA.out W7 HB7.out).mono ?_
      rintro e w8 ⟨rfl, hb8⟩
      have HB8 := Lib.hid (HB7.out.trans (hb8.mono HB7.out.size))
      clear hb8
      go_wp2
      go_ret
      exact ⟨rfl, HB0.out.trans (HB8.out.mono HB0.out.size)⟩

end Go.Proofs.YtaekmmnpdbmoeaaGreatDoor
