/- The contract of legateref23.May. Printed by genref23may.py. -/
import Derived.Test.YtgghgcilpfdbjaaGreatDoorSe20
import Derived.Test.YtgghgcilpfdbjaaGreatDoorSe06
import Derived.Test.YtgghgcilpfdbjaaGreatDoorSe09
import Derived.Test.YtgghgcilpfdbjaaGreatDoorSe02
import Derived.Test.YtgghgcilpfdbjaaGreatDoorSe01

namespace Go.Proofs.YtgghgcilpfdbjaaGreatDoor
open Go.RowKit

set_option maxHeartbeats 8000000 in
set_option maxRecDepth 100000 in
theorem ref23May (v e : Int) (l : List PinV) (a : Option Addr) (c : Nat) (w : World) (hP : PinsAt w 0 w.heap.size a l) (hl : l.length ≤ 9223372036854775807) (hf : ∀ p ∈ l, PinFits p) :
    Calls Tryz.prog 22 #[.agg #[.int .i64 v, .int .i64 e, .slice a l.length c]] w fun r w' => r = .returned (.bool (maySnap ⟨v, e, l⟩)) ∧ Below w.heap.size w w' := by
  obtain ⟨W2, hW2⟩ : ∃ W2, W2 = w.alloc (.cells #[.int .i64 v, .int .i64 e, .slice a l.length c] 24) := ⟨_, rfl⟩
  have hb2 : Below w.heap.size w W2 := by rw [hW2]; exact (Below.refl _ _).alloc (Nat.le_refl _) _
  have hx : W2.heap[w.heap.size]? = some (.cells #[.int .i64 v, .int .i64 e, .slice a l.length c] 24 (0, 0)) := by rw [hW2]; exact heap_alloc_new w _
  have v1 : W2.cell? ⟨w.heap.size, 1, none⟩ = some (.int .i64 e) := box_cell hx rfl
  have HSH := Lib.hid (ref12Show e W2)
  have HPI := Lib.hid hP
  have HF := Lib.hid hf
  have HB2 := Lib.hid hb2
  have HX2 := Lib.hid hx
  have HW := Lib.hid hW2
  clear hP hf hb2 hx hW2
  go_enter Tryz.func22, Tryz.ntmps22
  go_upto_region 1 with fail
  rw [← HW.out]
  go_wp2_with fail
  refine HSH.out.mono ?_
  clear HSH
  rintro r w3 ⟨rfl, hb3⟩
  have HB3 := Lib.hid (HB2.out.trans (hb3.mono HB2.out.size))
  have hx3 := (hb3.block _ (heap_lt HX2.out)).trans HX2.out
  have v0 : w3.cell? ⟨w.heap.size, 0, none⟩ = some (.int .i64 v) := box_cell hx3 rfl
  have v2 : w3.cell? ⟨w.heap.size, 2, none⟩ = some (.slice a l.length c) := box_cell hx3 rfl
  have HX3 := Lib.hid hx3
  clear hb3 hx3 v1
  by_cases h1 : v < 1
  · have HX := Lib.hid (maySnap_no (e := e) (l := l) (.inl h1))
    have q1 : decide (v < 1) = true := by simpa using h1
    clear h1
    go_wp2
    go_ret
    exact ⟨ret_bool HX.out.symm, HB3.out⟩
  have q1 : decide (v < 1) = false := by simpa using h1
  by_cases h2 : 1099511627776 < v
  · have HX := Lib.hid (maySnap_no (e := e) (l := l) (.inr (.inl h2)))
    have q2 : decide (1099511627776 < v) = true := by simpa using h2
    clear h1 h2
    go_wp2
    go_ret
    exact ⟨ret_bool HX.out.symm, HB3.out⟩
  have q2 : decide (1099511627776 < v) = false := by simpa using h2
  have HV := Lib.hid (show 1 ≤ v ∧ v ≤ 1099511627776 from ⟨by omega, by omega⟩)
  clear h1 h2
  by_cases he : 0 ≤ e ∧ e ≤ 253402300799
  case neg =>
    rw [show showE e = 1 by unfold showE; rw [if_neg he]]
    have HX := Lib.hid (maySnap_no (v := v) (e := e) (l := l) (by omega))
    clear he
    go_wp2
    go_ret
    exact ⟨ret_bool HX.out.symm, HB3.out⟩
  rw [show showE e = 0 by unfold showE; rw [if_pos he]]
  have HEX := Lib.hid he
  clear he
  by_cases h4 : 256 < l.length
  · have HX := Lib.hid (maySnap_no (v := v) (e := e) (.inr (.inr (.inr (.inr h4)))))
    have q3 : decide ((256 : Int) < (l.length : Int)) = true := by simp; omega
    go_wp2
    go_ret
    exact ⟨ret_bool HX.out.symm, HB3.out⟩
  have q3 : decide ((256 : Int) < (l.length : Int)) = false := by simp; omega
  have HL := Lib.hid (show l.length ≤ 256 by omega)
  obtain ⟨ss, hss⟩ : ∃ ss, ss = showS e := ⟨_, rfl⟩
  rw [← hss]
  clear hss
  go_wp2
  clear q1 q2 q3 v0 v2
  go_loopw [5] (fun i wr => ∃ k : Nat, k ≤ l.length ∧ i = .int .i64 k ∧ (∀ j (h : j < l.length), j < k → mayPin l[j] = true) ∧ (∀ j (_ : 1 ≤ j) (h : j < l.length), j < k → Op.bytesLess l[j-1].name.toList l[j].name.toList = true) ∧ Below w3.heap.size w3 wr) (fun i _ => l.length - (intOf i).toNat)
  case atStart => exact ⟨0, by omega, rfl, fun j _ h => by omega, fun j _ _ h => by omega, Below.refl _ _⟩
  case round =>
    obtain ⟨k, hk, rfl, hal, hri, hb⟩ := hrel
    have HAL := Lib.hid hal
    have HRI := Lib.hid hri
    have HB := Lib.hid hb
    have HBW := Lib.hid (HB3.out.trans (hb.mono HB3.out.size))
    have q2 : wr.cell? ⟨w.heap.size, 2, none⟩ = some (.slice a l.length c) := box_cell ((hb.block _ (heap_lt HX3.out)).trans HX3.out) rfl
    clear hal hri hb
    by_cases hlt : k < l.length
    · obtain ⟨b, off, ha, _, hbl, e0, e1, e2, hh, hc, e3, hcap, hkk⟩ := (HPI.out.below HBW.out (Nat.le_refl _) (Nat.le_refl _) HBW.out.size).at k hlt
      subst ha
      obtain ⟨f1, f2, f3, f4, f5⟩ := HF.out l[k] (List.getElem_mem hlt)
      have hprev : k = 0 ∨ ∃ j : Nat, k = j + 1 ∧ ∃ hj : j < l.length, wr.cell? ⟨b, off + j * 4, none⟩ = some (.string l[j].name) := by
        by_cases h0 : k = 0
        · exact .inl h0
        · obtain ⟨b', off', ha', _, _, x0, _⟩ := (HPI.out.below HBW.out (Nat.le_refl _) (Nat.le_refl _) HBW.out.size).at (k - 1) (by omega)
          cases ha'
          exact .inr ⟨k - 1, by omega, by omega, x0⟩
      have HPV := Lib.hid hprev
      obtain ⟨p, hp⟩ : ∃ p, p = l[k] := ⟨_, rfl⟩
      rw [← hp] at e0 e1 e2 e3 hkk f3 f4 f5
      have HPK := Lib.hid hp
      obtain ⟨nm, vr, ln, hs⟩ := p
      have e0 : wr.cell? ⟨b, off + k * 4, none⟩ = some (.string nm) := e0
      have e1 : wr.cell? ⟨b, off + k * 4 + 1, none⟩ = some (.int .i64 vr) := e1
      have e2 : wr.cell? ⟨b, off + k * 4 + 2, none⟩ = some (.int .i64 ln) := e2
      have e3 : wr.cell? ⟨b, off + k * 4 + 3, none⟩ = some (.slice hh hs.length hc) := e3
      have HMP := Lib.hid (show ∀ w' : World, Below wr.heap.size wr w' → Calls Tryz.prog 32 #[.agg #[.string nm, .int .i64 vr, .int .i64 ln, .slice hh hs.length hc]] w' fun e w'' => e = .returned (.bool (mayPin ⟨nm, vr, ln, hs⟩)) ∧ Below w'.heap.size w' w'' from fun w' h => ref23MayPin nm vr ln hs hh hc w' (hkk.below h (Nat.le_refl _) (Nat.le_refl _) h.size) (by unfold maxLen at f3; exact f3) (by unfold maxLen at f4; exact f4) (fun x hx => by have := f5 x hx; unfold maxLen at this; exact this))
      have HCC := Lib.hid (show ∀ w' : World, Below wr.heap.size wr w' → w'.cell? ⟨w.heap.size, 2, none⟩ = some (.slice (some ⟨b, off, none⟩) l.length c) ∧ w'.cell? ⟨b, off + k * 4, none⟩ = some (.string nm) ∧ w'.cell? ⟨b, off + k * 4 + 1, none⟩ = some (.int .i64 vr) ∧ w'.cell? ⟨b, off + k * 4 + 2, none⟩ = some (.int .i64 ln) ∧ w'.cell? ⟨b, off + k * 4 + 3, none⟩ = some (.slice hh hs.length hc) ∧ (∀ j : Nat, k = j + 1 → ∃ hj : j < l.length, w'.cell? ⟨b, off + j * 4, none⟩ = some (.string l[j].name)) from fun w' h => by
        refine ⟨box_cell ((((HB.out.trans (h.mono HB.out.size)).block _ (heap_lt HX3.out))).trans HX3.out) rfl, by rw [h.cell hbl]; exact e0, by rw [h.cell hbl]; exact e1, by rw [h.cell hbl]; exact e2, by rw [h.cell hbl]; exact e3, fun j hj => ?_⟩
        rcases HPV.out with h0 | ⟨j', hj', hjl, hx⟩
        · omega
        · obtain rfl : j = j' := by omega
          exact ⟨hjl, by rw [h.cell hbl]; exact hx⟩)
      clear hprev hp hkk f1 f2 f3 f4 f5 hcap e0 e1 e2 e3 hbl
      cases hm : mayPin ⟨nm, vr, ln, hs⟩
      · have HX := Lib.hid (maySnap_pin (v := v) (e := e) k hlt (by rw [← HPK.out]; exact hm))
        rw [hm] at HMP
        clear hm
        go_upto_region 7 with fail
        clear q2
        obtain ⟨V, hV⟩ : ∃ V : List MP, V = [.con (.pointer (some ⟨w.heap.size, 2, none⟩)), .con (.slice (some ⟨b, off, none⟩) l.length c), .con (.int .i64 (k : Int)), .con (.pointer (some ⟨b, off + k * 4, none⟩)), .con (.agg #[.string nm, .int .i64 vr, .int .i64 ln, .slice hh hs.length hc]), .con (.bool false), .con (.bool true), .con (.bool true), .any, .any, .con (undef), .any, .any, .any, .any, .any, .any, .any, .any, .any, .any, .any, .any, .any, .any, .any] := ⟨_, rfl⟩
        have HV := Lib.hid hV
        clear hV
        refine wp_region_inv 26 (fun d a' w' => ∃ x37 x38 x39 x40 x41 x42 x43 x44 x45 x46 x47 x48 x49 x50 x51 x52 x53 x54 x55 x56 x57 x58 x59 x60 x61 x62, a' = ⟨#[Value.agg #[Value.int IntKind.i64 v, Value.int IntKind.i64 e, Value.slice (some { block := b, off := off }) l.length c], Value.pointer (some { block := w.heap.size, off := 0 }), u2, Value.string ss, Value.int IntKind.i64 0, Value.int IntKind.i64 (k : Int), Value.tuple #[Value.string ss, Value.int IntKind.i64 0], Value.pointer (some { block := w.heap.size, off := 1 }), Value.int IntKind.i64 e, Value.tuple #[Value.string ss, Value.int IntKind.i64 0], Value.string ss, Value.int IntKind.i64 0, Value.pointer (some { block := w.heap.size, off := 0 }), Value.int IntKind.i64 v, Value.bool false, Value.bool false, Value.pointer (some { block := w.heap.size, off := 0 }), Value.int IntKind.i64 v, Value.bool false, Value.bool false, Value.bool false, Value.int IntKind.i64 0, Value.bool false, Value.bool false, Value.bool false, Value.pointer (some { block := w.heap.size, off := 2 }), Value.slice (some { block := b, off := off }) l.length c, Value.int IntKind.i64 (l.length : Int), Value.bool false, Value.bool false, Value.int IntKind.i64 (k : Int), Value.pointer (some { block := w.heap.size, off := 2 }), Value.slice (some { block := b, off := off }) l.length c, Value.int IntKind.i64 (l.length : Int), Value.bool true, u35, u36, x37, x38, x39, x40, x41, x42, x43, x44, x45, x46, x47, x48, x49, x50, x51, x52, x53, x54, x55, x56, x57, x58, x59, x60, x61, x62, u63], []⟩ ∧ RegI wr V d w' [x37, x38, x39, x40, x41, x42, x43, x44, x45, x46, x47, x48, x49, x50, x51, x52, x53, x54, x55, x56, x57, x58, x59, x60, x61, x62]) (by kernel_rfl) (by kernel_rfl) ?first ?step ?last
        case first => exact ⟨_, _, _, _, _, _, _, _, _, _, _, _, _, _, _, _, _, _, _, _, _, _, _, _, _, _, rfl, RegI.first _ _ _ (by rw [HV.out]; rfl)⟩
        case step =>
          rintro d a' w' ⟨x37, x38, x39, x40, x41, x42, x43, x44, x45, x46, x47, x48, x49, x50, x51, x52, x53, x54, x55, x56, x57, x58, x59, x60, x61, x62, rfl, h⟩ q hq hn hw
          rcases q with _ | _ | _ | _ | _ | _ | _ | _ | _ | _ | _ | _ | _ | _ | _ | _ | _ | _ | _ | _ | _ | _ | _ | _ | _ | _ | q
          · refine wpOp_step rfl fun K hK => ?_
            go_simp
            exact hK _ _ ⟨_, x38, x39, x40, x41, x42, x43, x44, x45, x46, x47, x48, x49, x50, x51, x52, x53, x54, x55, x56, x57, x58, x59, x60, x61, x62, rfl, h.same 0 _ (.con (.pointer (some ⟨w.heap.size, 2, none⟩))) (by rw [HV.out]; rfl) rfl⟩
          · obtain rfl : x37 = .pointer (some ⟨w.heap.size, 2, none⟩) := h.get 0 (hw _ rfl ⟨0, .data⟩ (by simp) rfl) (.con (.pointer (some ⟨w.heap.size, 2, none⟩))) (by rw [HV.out]; rfl) _ rfl
            obtain ⟨g2, e0, e1, e2, e3, -⟩ := HCC.out w' h.1
            refine wpOp_step rfl fun K hK => ?_
            go_simp
            exact hK _ _ ⟨_, _, x39, x40, x41, x42, x43, x44, x45, x46, x47, x48, x49, x50, x51, x52, x53, x54, x55, x56, x57, x58, x59, x60, x61, x62, rfl, h.same 1 _ (.con (.slice (some ⟨b, off, none⟩) l.length c)) (by rw [HV.out]; rfl) rfl⟩
          · refine wpOp_step rfl fun K hK => ?_
            go_simp
            exact hK _ _ ⟨x37, x38, _, x40, x41, x42, x43, x44, x45, x46, x47, x48, x49, x50, x51, x52, x53, x54, x55, x56, x57, x58, x59, x60, x61, x62, rfl, h.same 2 _ (.con (.int .i64 (k : Int))) (by rw [HV.out]; rfl) rfl⟩
          · obtain rfl : x38 = .slice (some ⟨b, off, none⟩) l.length c := h.get 1 (hw _ rfl ⟨1, .data⟩ (by simp) rfl) (.con (.slice (some ⟨b, off, none⟩) l.length c)) (by rw [HV.out]; rfl) _ rfl
            obtain rfl : x39 = .int .i64 (k : Int) := h.get 2 (hw _ rfl ⟨2, .data⟩ (by simp) rfl) (.con (.int .i64 (k : Int))) (by rw [HV.out]; rfl) _ rfl
            obtain ⟨g2, e0, e1, e2, e3, -⟩ := HCC.out w' h.1
            refine wpOp_step rfl fun K hK => ?_
            go_simp
            exact hK _ _ ⟨x37, _, _, _, x41, x42, x43, x44, x45, x46, x47, x48, x49, x50, x51, x52, x53, x54, x55, x56, x57, x58, x59, x60, x61, x62, rfl, h.same 3 _ (.con (.pointer (some ⟨b, off + k * 4, none⟩))) (by rw [HV.out]; rfl) rfl⟩
          · obtain rfl : x40 = .pointer (some ⟨b, off + k * 4, none⟩) := h.get 3 (hw _ rfl ⟨3, .data⟩ (by simp) rfl) (.con (.pointer (some ⟨b, off + k * 4, none⟩))) (by rw [HV.out]; rfl) _ rfl
            obtain ⟨g2, e0, e1, e2, e3, -⟩ := HCC.out w' h.1
            refine wpOp_step rfl fun K hK => ?_
            go_simp
            exact hK _ _ ⟨x37, x38, x39, _, _, x42, x43, x44, x45, x46, x47, x48, x49, x50, x51, x52, x53, x54, x55, x56, x57, x58, x59, x60, x61, x62, rfl, h.same 4 _ (.con (.agg #[.string nm, .int .i64 vr, .int .i64 ln, .slice hh hs.length hc])) (by rw [HV.out]; rfl) rfl⟩
          · obtain rfl : x41 = .agg #[.string nm, .int .i64 vr, .int .i64 ln, .slice hh hs.length hc] := h.get 4 (hw _ rfl ⟨4, .data⟩ (by simp) rfl) (.con (.agg #[.string nm, .int .i64 vr, .int .i64 ln, .slice hh hs.length hc])) (by rw [HV.out]; rfl) _ rfl
            obtain ⟨g2, e0, e1, e2, e3, -⟩ := HCC.out w' h.1
            refine wpOp_step rfl fun K hK => ?_
            go_simp
            refine (HMP.out w' h.1).mono ?_
            rintro e w2 ⟨rfl, hb2⟩
            exact hK _ _ ⟨x37, x38, x39, x40, _, _, x43, x44, x45, x46, x47, x48, x49, x50, x51, x52, x53, x54, x55, x56, x57, x58, x59, x60, x61, x62, rfl, h.did hb2 5 _ (.con (.bool false)) (by rw [HV.out]; rfl) rfl⟩
          · obtain rfl : x42 = .bool false := h.get 5 (hw _ rfl ⟨5, .data⟩ (by simp) rfl) (.con (.bool false)) (by rw [HV.out]; rfl) _ rfl
            refine wpOp_step rfl fun K hK => ?_
            go_simp
            exact hK _ _ ⟨x37, x38, x39, x40, x41, _, _, x44, x45, x46, x47, x48, x49, x50, x51, x52, x53, x54, x55, x56, x57, x58, x59, x60, x61, x62, rfl, h.same 6 _ (.con (.bool true)) (by rw [HV.out]; rfl) rfl⟩
          · obtain rfl : x43 = .bool true := h.get 6 (hw _ rfl ⟨6, .data⟩ (by simp) rfl) (.con (.bool true)) (by rw [HV.out]; rfl) _ rfl
            refine wpOp_step rfl fun K hK => ?_
            go_simp
            exact hK _ _ ⟨x37, x38, x39, x40, x41, x42, _, _, x45, x46, x47, x48, x49, x50, x51, x52, x53, x54, x55, x56, x57, x58, x59, x60, x61, x62, rfl, h.same 7 _ (.con (.bool true)) (by rw [HV.out]; rfl) rfl⟩
          · obtain rfl : x44 = .bool true := h.get 7 (hw _ rfl ⟨7, .guard⟩ (by simp) rfl) (.con (.bool true)) (by rw [HV.out]; rfl) _ rfl
            refine wpOp_step rfl fun K hK => ?_
            go_simp
            exact hK _ _ ⟨x37, x38, x39, x40, x41, x42, x43, _, _, x46, x47, x48, x49, x50, x51, x52, x53, x54, x55, x56, x57, x58, x59, x60, x61, x62, rfl, h.same 8 _ .any (by rw [HV.out]; rfl) trivial⟩
          · obtain rfl : x44 = .bool true := h.get 7 (hw _ rfl ⟨7, .guard⟩ (by simp) rfl) (.con (.bool true)) (by rw [HV.out]; rfl) _ rfl
            refine wpOp_step rfl fun K hK => ?_
            go_simp
            exact hK _ _ ⟨x37, x38, x39, x40, x41, x42, x43, _, x45, _, x47, x48, x49, x50, x51, x52, x53, x54, x55, x56, x57, x58, x59, x60, x61, x62, rfl, h.same 9 _ .any (by rw [HV.out]; rfl) trivial⟩
          · obtain rfl : x44 = .bool true := h.get 7 (hw _ rfl ⟨7, .chain⟩ (by simp) rfl) (.con (.bool true)) (by rw [HV.out]; rfl) _ rfl
            refine wpOp_step rfl fun K hK => ?_
            go_simp
            exact hK _ _ ⟨x37, x38, x39, x40, x41, x42, x43, _, x45, x46, _, x48, x49, x50, x51, x52, x53, x54, x55, x56, x57, x58, x59, x60, x61, x62, rfl, h.same 10 _ (.con (undef)) (by rw [HV.out]; rfl) rfl⟩
          · obtain rfl : x47 = undef := h.get 10 (hw _ rfl ⟨10, .guard⟩ (by simp) rfl) (.con (undef)) (by rw [HV.out]; rfl) _ rfl
            refine wpOp_step rfl fun K hK => ?_
            go_simp
            exact hK _ _ ⟨x37, x38, x39, x40, x41, x42, x43, x44, x45, x46, _, _, x49, x50, x51, x52, x53, x54, x55, x56, x57, x58, x59, x60, x61, x62, rfl, h.same 11 _ .any (by rw [HV.out]; rfl) trivial⟩
          · obtain rfl : x47 = undef := h.get 10 (hw _ rfl ⟨10, .guard⟩ (by simp) rfl) (.con (undef)) (by rw [HV.out]; rfl) _ rfl
            refine wpOp_step rfl fun K hK => ?_
            go_simp
            exact hK _ _ ⟨x37, x38, x39, x40, x41, x42, x43, x44, x45, x46, _, x48, _, x50, x51, x52, x53, x54, x55, x56, x57, x58, x59, x60, x61, x62, rfl, h.same 12 _ .any (by rw [HV.out]; rfl) trivial⟩
          · obtain rfl : x47 = undef := h.get 10 (hw _ rfl ⟨10, .guard⟩ (by simp) rfl) (.con (undef)) (by rw [HV.out]; rfl) _ rfl
            refine wpOp_step rfl fun K hK => ?_
            go_simp
            exact hK _ _ ⟨x37, x38, x39, x40, x41, x42, x43, x44, x45, x46, _, x48, x49, _, x51, x52, x53, x54, x55, x56, x57, x58, x59, x60, x61, x62, rfl, h.same 13 _ .any (by rw [HV.out]; rfl) trivial⟩
          · obtain rfl : x47 = undef := h.get 10 (hw _ rfl ⟨10, .guard⟩ (by simp) rfl) (.con (undef)) (by rw [HV.out]; rfl) _ rfl
            refine wpOp_step rfl fun K hK => ?_
            go_simp
            exact hK _ _ ⟨x37, x38, x39, x40, x41, x42, x43, x44, x45, x46, _, x48, x49, x50, _, x52, x53, x54, x55, x56, x57, x58, x59, x60, x61, x62, rfl, h.same 14 _ .any (by rw [HV.out]; rfl) trivial⟩
          · obtain rfl : x47 = undef := h.get 10 (hw _ rfl ⟨10, .guard⟩ (by simp) rfl) (.con (undef)) (by rw [HV.out]; rfl) _ rfl
            refine wpOp_step rfl fun K hK => ?_
            go_simp
            exact hK _ _ ⟨x37, x38, x39, x40, x41, x42, x43, x44, x45, x46, _, x48, x49, x50, x51, _, x53, x54, x55, x56, x57, x58, x59, x60, x61, x62, rfl, h.same 15 _ .any (by rw [HV.out]; rfl) trivial⟩
          · obtain rfl : x47 = undef := h.get 10 (hw _ rfl ⟨10, .guard⟩ (by simp) rfl) (.con (undef)) (by rw [HV.out]; rfl) _ rfl
            refine wpOp_step rfl fun K hK => ?_
            go_simp
            exact hK _ _ ⟨x37, x38, x39, x40, x41, x42, x43, x44, x45, x46, _, x48, x49, x50, x51, x52, _, x54, x55, x56, x57, x58, x59, x60, x61, x62, rfl, h.same 16 _ .any (by rw [HV.out]; rfl) trivial⟩
          · obtain rfl : x47 = undef := h.get 10 (hw _ rfl ⟨10, .guard⟩ (by simp) rfl) (.con (undef)) (by rw [HV.out]; rfl) _ rfl
            refine wpOp_step rfl fun K hK => ?_
            go_simp
            exact hK _ _ ⟨x37, x38, x39, x40, x41, x42, x43, x44, x45, x46, _, x48, x49, x50, x51, x52, x53, _, x55, x56, x57, x58, x59, x60, x61, x62, rfl, h.same 17 _ .any (by rw [HV.out]; rfl) trivial⟩
          · obtain rfl : x47 = undef := h.get 10 (hw _ rfl ⟨10, .guard⟩ (by simp) rfl) (.con (undef)) (by rw [HV.out]; rfl) _ rfl
            refine wpOp_step rfl fun K hK => ?_
            go_simp
            exact hK _ _ ⟨x37, x38, x39, x40, x41, x42, x43, x44, x45, x46, _, x48, x49, x50, x51, x52, x53, x54, _, x56, x57, x58, x59, x60, x61, x62, rfl, h.same 18 _ .any (by rw [HV.out]; rfl) trivial⟩
          · obtain rfl : x47 = undef := h.get 10 (hw _ rfl ⟨10, .guard⟩ (by simp) rfl) (.con (undef)) (by rw [HV.out]; rfl) _ rfl
            refine wpOp_step rfl fun K hK => ?_
            go_simp
            exact hK _ _ ⟨x37, x38, x39, x40, x41, x42, x43, x44, x45, x46, _, x48, x49, x50, x51, x52, x53, x54, x55, _, x57, x58, x59, x60, x61, x62, rfl, h.same 19 _ .any (by rw [HV.out]; rfl) trivial⟩
          · obtain rfl : x47 = undef := h.get 10 (hw _ rfl ⟨10, .guard⟩ (by simp) rfl) (.con (undef)) (by rw [HV.out]; rfl) _ rfl
            refine wpOp_step rfl fun K hK => ?_
            go_simp
            exact hK _ _ ⟨x37, x38, x39, x40, x41, x42, x43, x44, x45, x46, _, x48, x49, x50, x51, x52, x53, x54, x55, x56, _, x58, x59, x60, x61, x62, rfl, h.same 20 _ .any (by rw [HV.out]; rfl) trivial⟩
          · obtain rfl : x47 = undef := h.get 10 (hw _ rfl ⟨10, .guard⟩ (by simp) rfl) (.con (undef)) (by rw [HV.out]; rfl) _ rfl
            refine wpOp_step rfl fun K hK => ?_
            go_simp
            exact hK _ _ ⟨x37, x38, x39, x40, x41, x42, x43, x44, x45, x46, _, x48, x49, x50, x51, x52, x53, x54, x55, x56, x57, _, x59, x60, x61, x62, rfl, h.same 21 _ .any (by rw [HV.out]; rfl) trivial⟩
          · obtain rfl : x47 = undef := h.get 10 (hw _ rfl ⟨10, .guard⟩ (by simp) rfl) (.con (undef)) (by rw [HV.out]; rfl) _ rfl
            refine wpOp_step rfl fun K hK => ?_
            go_simp
            exact hK _ _ ⟨x37, x38, x39, x40, x41, x42, x43, x44, x45, x46, _, x48, x49, x50, x51, x52, x53, x54, x55, x56, x57, x58, _, x60, x61, x62, rfl, h.same 22 _ .any (by rw [HV.out]; rfl) trivial⟩
          · obtain rfl : x47 = undef := h.get 10 (hw _ rfl ⟨10, .guard⟩ (by simp) rfl) (.con (undef)) (by rw [HV.out]; rfl) _ rfl
            refine wpOp_step rfl fun K hK => ?_
            go_simp
            exact hK _ _ ⟨x37, x38, x39, x40, x41, x42, x43, x44, x45, x46, _, x48, x49, x50, x51, x52, x53, x54, x55, x56, x57, x58, x59, _, x61, x62, rfl, h.same 23 _ .any (by rw [HV.out]; rfl) trivial⟩
          · obtain rfl : x47 = undef := h.get 10 (hw _ rfl ⟨10, .guard⟩ (by simp) rfl) (.con (undef)) (by rw [HV.out]; rfl) _ rfl
            refine wpOp_step rfl fun K hK => ?_
            go_simp
            exact hK _ _ ⟨x37, x38, x39, x40, x41, x42, x43, x44, x45, x46, _, x48, x49, x50, x51, x52, x53, x54, x55, x56, x57, x58, x59, x60, _, x62, rfl, h.same 24 _ .any (by rw [HV.out]; rfl) trivial⟩
          · obtain rfl : x44 = .bool true := h.get 7 (hw _ rfl ⟨7, .guard⟩ (by simp) rfl) (.con (.bool true)) (by rw [HV.out]; rfl) _ rfl
            refine wpOp_step rfl fun K hK => ?_
            go_simp
            exact hK _ _ ⟨x37, x38, x39, x40, x41, x42, x43, _, x45, x46, x47, x48, x49, x50, x51, x52, x53, x54, x55, x56, x57, x58, x59, x60, x61, _, rfl, h.same 25 _ .any (by rw [HV.out]; rfl) trivial⟩
          · omega
        case last =>
          rintro d a' w' hall ⟨x37, x38, x39, x40, x41, x42, x43, x44, x45, x46, x47, x48, x49, x50, x51, x52, x53, x54, x55, x56, x57, x58, x59, x60, x61, x62, rfl, h⟩
          have hle := h.1
          obtain rfl : x44 = .bool true := h.get 7 (hall _ (by omega)) (.con (.bool true)) (by rw [HV.out]; rfl) _ rfl
          have HLE := Lib.hid hle
          clear h hall hle HV
          go_wp2
          go_ret
          exact ⟨ret_bool HX.out.symm, HBW.out.trans (HLE.out.mono HBW.out.size)⟩
      · have HMK := Lib.hid (show mayPin l[k] = true by rw [← HPK.out]; exact hm)
        rw [hm] at HMP
        clear hm
        rcases HPV.out with h0 | ⟨j, hj, hjl, -⟩
        · have q5 : decide ((0 : Int) < (k : Int)) = false := by simp; omega
          have q6 : ¬ 0 < k := by omega
          have H0 := Lib.hid h0
          clear h0
          go_upto_region 7 with fail
          clear q2
          obtain ⟨V, hV⟩ : ∃ V : List MP, V = [.con (.pointer (some ⟨w.heap.size, 2, none⟩)), .con (.slice (some ⟨b, off, none⟩) l.length c), .con (.int .i64 (k : Int)), .con (.pointer (some ⟨b, off + k * 4, none⟩)), .con (.agg #[.string nm, .int .i64 vr, .int .i64 ln, .slice hh hs.length hc]), .con (.bool true), .con (.bool false), .con (.bool false), .con (.int .i64 (k : Int)), .con (.bool false), .con (.bool false), .any, .any, .any, .any, .any, .any, .any, .any, .any, .any, .any, .any, .any, .any, .con (.bool false)] := ⟨_, rfl⟩
          have HV := Lib.hid hV
          clear hV
          refine wp_region_inv 26 (fun d a' w' => ∃ x37 x38 x39 x40 x41 x42 x43 x44 x45 x46 x47 x48 x49 x50 x51 x52 x53 x54 x55 x56 x57 x58 x59 x60 x61 x62, a' = ⟨#[Value.agg #[Value.int IntKind.i64 v, Value.int IntKind.i64 e, Value.slice (some { block := b, off := off }) l.length c], Value.pointer (some { block := w.heap.size, off := 0 }), u2, Value.string ss, Value.int IntKind.i64 0, Value.int IntKind.i64 (k : Int), Value.tuple #[Value.string ss, Value.int IntKind.i64 0], Value.pointer (some { block := w.heap.size, off := 1 }), Value.int IntKind.i64 e, Value.tuple #[Value.string ss, Value.int IntKind.i64 0], Value.string ss, Value.int IntKind.i64 0, Value.pointer (some { block := w.heap.size, off := 0 }), Value.int IntKind.i64 v, Value.bool false, Value.bool false, Value.pointer (some { block := w.heap.size, off := 0 }), Value.int IntKind.i64 v, Value.bool false, Value.bool false, Value.bool false, Value.int IntKind.i64 0, Value.bool false, Value.bool false, Value.bool false, Value.pointer (some { block := w.heap.size, off := 2 }), Value.slice (some { block := b, off := off }) l.length c, Value.int IntKind.i64 (l.length : Int), Value.bool false, Value.bool false, Value.int IntKind.i64 (k : Int), Value.pointer (some { block := w.heap.size, off := 2 }), Value.slice (some { block := b, off := off }) l.length c, Value.int IntKind.i64 (l.length : Int), Value.bool true, u35, u36, x37, x38, x39, x40, x41, x42, x43, x44, x45, x46, x47, x48, x49, x50, x51, x52, x53, x54, x55, x56, x57, x58, x59, x60, x61, x62, u63], []⟩ ∧ RegI wr V d w' [x37, x38, x39, x40, x41, x42, x43, x44, x45, x46, x47, x48, x49, x50, x51, x52, x53, x54, x55, x56, x57, x58, x59, x60, x61, x62]) (by kernel_rfl) (by kernel_rfl) ?first ?step ?last
          case first => exact ⟨_, _, _, _, _, _, _, _, _, _, _, _, _, _, _, _, _, _, _, _, _, _, _, _, _, _, rfl, RegI.first _ _ _ (by rw [HV.out]; rfl)⟩
          case step =>
            rintro d a' w' ⟨x37, x38, x39, x40, x41, x42, x43, x44, x45, x46, x47, x48, x49, x50, x51, x52, x53, x54, x55, x56, x57, x58, x59, x60, x61, x62, rfl, h⟩ q hq hn hw
            rcases q with _ | _ | _ | _ | _ | _ | _ | _ | _ | _ | _ | _ | _ | _ | _ | _ | _ | _ | _ | _ | _ | _ | _ | _ | _ | _ | q
            · refine wpOp_step rfl fun K hK => ?_
              go_simp
              exact hK _ _ ⟨_, x38, x39, x40, x41, x42, x43, x44, x45, x46, x47, x48, x49, x50, x51, x52, x53, x54, x55, x56, x57, x58, x59, x60, x61, x62, rfl, h.same 0 _ (.con (.pointer (some ⟨w.heap.size, 2, none⟩))) (by rw [HV.out]; rfl) rfl⟩
            · obtain rfl : x37 = .pointer (some ⟨w.heap.size, 2, none⟩) := h.get 0 (hw _ rfl ⟨0, .data⟩ (by simp) rfl) (.con (.pointer (some ⟨w.heap.size, 2, none⟩))) (by rw [HV.out]; rfl) _ rfl
              obtain ⟨g2, e0, e1, e2, e3, -⟩ := HCC.out w' h.1
              refine wpOp_step rfl fun K hK => ?_
              go_simp
              exact hK _ _ ⟨_, _, x39, x40, x41, x42, x43, x44, x45, x46, x47, x48, x49, x50, x51, x52, x53, x54, x55, x56, x57, x58, x59, x60, x61, x62, rfl, h.same 1 _ (.con (.slice (some ⟨b, off, none⟩) l.length c)) (by rw [HV.out]; rfl) rfl⟩
            · refine wpOp_step rfl fun K hK => ?_
              go_simp
              exact hK _ _ ⟨x37, x38, _, x40, x41, x42, x43, x44, x45, x46, x47, x48, x49, x50, x51, x52, x53, x54, x55, x56, x57, x58, x59, x60, x61, x62, rfl, h.same 2 _ (.con (.int .i64 (k : Int))) (by rw [HV.out]; rfl) rfl⟩
            · obtain rfl : x38 = .slice (some ⟨b, off, none⟩) l.length c := h.get 1 (hw _ rfl ⟨1, .data⟩ (by simp) rfl) (.con (.slice (some ⟨b, off, none⟩) l.length c)) (by rw [HV.out]; rfl) _ rfl
              obtain rfl : x39 = .int .i64 (k : Int) := h.get 2 (hw _ rfl ⟨2, .data⟩ (by simp) rfl) (.con (.int .i64 (k : Int))) (by rw [HV.out]; rfl) _ rfl
              obtain ⟨g2, e0, e1, e2, e3, -⟩ := HCC.out w' h.1
              refine wpOp_step rfl fun K hK => ?_
              go_simp
              exact hK _ _ ⟨x37, _, _, _, x41, x42, x43, x44, x45, x46, x47, x48, x49, x50, x51, x52, x53, x54, x55, x56, x57, x58, x59, x60, x61, x62, rfl, h.same 3 _ (.con (.pointer (some ⟨b, off + k * 4, none⟩))) (by rw [HV.out]; rfl) rfl⟩
            · obtain rfl : x40 = .pointer (some ⟨b, off + k * 4, none⟩) := h.get 3 (hw _ rfl ⟨3, .data⟩ (by simp) rfl) (.con (.pointer (some ⟨b, off + k * 4, none⟩))) (by rw [HV.out]; rfl) _ rfl
              obtain ⟨g2, e0, e1, e2, e3, -⟩ := HCC.out w' h.1
              refine wpOp_step rfl fun K hK => ?_
              go_simp
              exact hK _ _ ⟨x37, x38, x39, _, _, x42, x43, x44, x45, x46, x47, x48, x49, x50, x51, x52, x53, x54, x55, x56, x57, x58, x59, x60, x61, x62, rfl, h.same 4 _ (.con (.agg #[.string nm, .int .i64 vr, .int .i64 ln, .slice hh hs.length hc])) (by rw [HV.out]; rfl) rfl⟩
            · obtain rfl : x41 = .agg #[.string nm, .int .i64 vr, .int .i64 ln, .slice hh hs.length hc] := h.get 4 (hw _ rfl ⟨4, .data⟩ (by simp) rfl) (.con (.agg #[.string nm, .int .i64 vr, .int .i64 ln, .slice hh hs.length hc])) (by rw [HV.out]; rfl) _ rfl
              obtain ⟨g2, e0, e1, e2, e3, -⟩ := HCC.out w' h.1
              refine wpOp_step rfl fun K hK => ?_
              go_simp
              refine (HMP.out w' h.1).mono ?_
              rintro e w2 ⟨rfl, hb2⟩
              exact hK _ _ ⟨x37, x38, x39, x40, _, _, x43, x44, x45, x46, x47, x48, x49, x50, x51, x52, x53, x54, x55, x56, x57, x58, x59, x60, x61, x62, rfl, h.did hb2 5 _ (.con (.bool true)) (by rw [HV.out]; rfl) rfl⟩
            · obtain rfl : x42 = .bool true := h.get 5 (hw _ rfl ⟨5, .data⟩ (by simp) rfl) (.con (.bool true)) (by rw [HV.out]; rfl) _ rfl
              refine wpOp_step rfl fun K hK => ?_
              go_simp
              exact hK _ _ ⟨x37, x38, x39, x40, x41, _, _, x44, x45, x46, x47, x48, x49, x50, x51, x52, x53, x54, x55, x56, x57, x58, x59, x60, x61, x62, rfl, h.same 6 _ (.con (.bool false)) (by rw [HV.out]; rfl) rfl⟩
            · obtain rfl : x43 = .bool false := h.get 6 (hw _ rfl ⟨6, .data⟩ (by simp) rfl) (.con (.bool false)) (by rw [HV.out]; rfl) _ rfl
              refine wpOp_step rfl fun K hK => ?_
              go_simp
              exact hK _ _ ⟨x37, x38, x39, x40, x41, x42, _, _, x45, x46, x47, x48, x49, x50, x51, x52, x53, x54, x55, x56, x57, x58, x59, x60, x61, x62, rfl, h.same 7 _ (.con (.bool false)) (by rw [HV.out]; rfl) rfl⟩
            · obtain rfl : x44 = .bool false := h.get 7 (hw _ rfl ⟨7, .guard⟩ (by simp) rfl) (.con (.bool false)) (by rw [HV.out]; rfl) _ rfl
              refine wpOp_step rfl fun K hK => ?_
              go_simp
              exact hK _ _ ⟨x37, x38, x39, x40, x41, x42, x43, _, _, x46, x47, x48, x49, x50, x51, x52, x53, x54, x55, x56, x57, x58, x59, x60, x61, x62, rfl, h.same 8 _ (.con (.int .i64 (k : Int))) (by rw [HV.out]; rfl) rfl⟩
            · obtain rfl : x44 = .bool false := h.get 7 (hw _ rfl ⟨7, .guard⟩ (by simp) rfl) (.con (.bool false)) (by rw [HV.out]; rfl) _ rfl
              obtain rfl : x45 = .int .i64 (k : Int) := h.get 8 (hw _ rfl ⟨8, .data⟩ (by simp) rfl) (.con (.int .i64 (k : Int))) (by rw [HV.out]; rfl) _ rfl
              refine wpOp_step rfl fun K hK => ?_
              go_simp
              exact hK _ _ ⟨x37, x38, x39, x40, x41, x42, x43, _, _, _, x47, x48, x49, x50, x51, x52, x53, x54, x55, x56, x57, x58, x59, x60, x61, x62, rfl, h.same 9 _ (.con (.bool false)) (by rw [HV.out]; rfl) rfl⟩
            · obtain rfl : x44 = .bool false := h.get 7 (hw _ rfl ⟨7, .chain⟩ (by simp) rfl) (.con (.bool false)) (by rw [HV.out]; rfl) _ rfl
              obtain rfl : x46 = .bool false := h.get 9 (hw _ rfl ⟨9, .data⟩ (by simp) rfl) (.con (.bool false)) (by rw [HV.out]; rfl) _ rfl
              refine wpOp_step rfl fun K hK => ?_
              go_simp
              exact hK _ _ ⟨x37, x38, x39, x40, x41, x42, x43, _, x45, _, _, x48, x49, x50, x51, x52, x53, x54, x55, x56, x57, x58, x59, x60, x61, x62, rfl, h.same 10 _ (.con (.bool false)) (by rw [HV.out]; rfl) rfl⟩
            · obtain rfl : x47 = .bool false := h.get 10 (hw _ rfl ⟨10, .guard⟩ (by simp) rfl) (.con (.bool false)) (by rw [HV.out]; rfl) _ rfl
              refine wpOp_step rfl fun K hK => ?_
              go_simp
              exact hK _ _ ⟨x37, x38, x39, x40, x41, x42, x43, x44, x45, x46, _, _, x49, x50, x51, x52, x53, x54, x55, x56, x57, x58, x59, x60, x61, x62, rfl, h.same 11 _ .any (by rw [HV.out]; rfl) trivial⟩
            · obtain rfl : x47 = .bool false := h.get 10 (hw _ rfl ⟨10, .guard⟩ (by simp) rfl) (.con (.bool false)) (by rw [HV.out]; rfl) _ rfl
              refine wpOp_step rfl fun K hK => ?_
              go_simp
              exact hK _ _ ⟨x37, x38, x39, x40, x41, x42, x43, x44, x45, x46, _, x48, _, x50, x51, x52, x53, x54, x55, x56, x57, x58, x59, x60, x61, x62, rfl, h.same 12 _ .any (by rw [HV.out]; rfl) trivial⟩
            · obtain rfl : x47 = .bool false := h.get 10 (hw _ rfl ⟨10, .guard⟩ (by simp) rfl) (.con (.bool false)) (by rw [HV.out]; rfl) _ rfl
              refine wpOp_step rfl fun K hK => ?_
              go_simp
              exact hK _ _ ⟨x37, x38, x39, x40, x41, x42, x43, x44, x45, x46, _, x48, x49, _, x51, x52, x53, x54, x55, x56, x57, x58, x59, x60, x61, x62, rfl, h.same 13 _ .any (by rw [HV.out]; rfl) trivial⟩
            · obtain rfl : x47 = .bool false := h.get 10 (hw _ rfl ⟨10, .guard⟩ (by simp) rfl) (.con (.bool false)) (by rw [HV.out]; rfl) _ rfl
              refine wpOp_step rfl fun K hK => ?_
              go_simp
              exact hK _ _ ⟨x37, x38, x39, x40, x41, x42, x43, x44, x45, x46, _, x48, x49, x50, _, x52, x53, x54, x55, x56, x57, x58, x59, x60, x61, x62, rfl, h.same 14 _ .any (by rw [HV.out]; rfl) trivial⟩
            · obtain rfl : x47 = .bool false := h.get 10 (hw _ rfl ⟨10, .guard⟩ (by simp) rfl) (.con (.bool false)) (by rw [HV.out]; rfl) _ rfl
              refine wpOp_step rfl fun K hK => ?_
              go_simp
              exact hK _ _ ⟨x37, x38, x39, x40, x41, x42, x43, x44, x45, x46, _, x48, x49, x50, x51, _, x53, x54, x55, x56, x57, x58, x59, x60, x61, x62, rfl, h.same 15 _ .any (by rw [HV.out]; rfl) trivial⟩
            · obtain rfl : x47 = .bool false := h.get 10 (hw _ rfl ⟨10, .guard⟩ (by simp) rfl) (.con (.bool false)) (by rw [HV.out]; rfl) _ rfl
              refine wpOp_step rfl fun K hK => ?_
              go_simp
              exact hK _ _ ⟨x37, x38, x39, x40, x41, x42, x43, x44, x45, x46, _, x48, x49, x50, x51, x52, _, x54, x55, x56, x57, x58, x59, x60, x61, x62, rfl, h.same 16 _ .any (by rw [HV.out]; rfl) trivial⟩
            · obtain rfl : x47 = .bool false := h.get 10 (hw _ rfl ⟨10, .guard⟩ (by simp) rfl) (.con (.bool false)) (by rw [HV.out]; rfl) _ rfl
              refine wpOp_step rfl fun K hK => ?_
              go_simp
              exact hK _ _ ⟨x37, x38, x39, x40, x41, x42, x43, x44, x45, x46, _, x48, x49, x50, x51, x52, x53, _, x55, x56, x57, x58, x59, x60, x61, x62, rfl, h.same 17 _ .any (by rw [HV.out]; rfl) trivial⟩
            · obtain rfl : x47 = .bool false := h.get 10 (hw _ rfl ⟨10, .guard⟩ (by simp) rfl) (.con (.bool false)) (by rw [HV.out]; rfl) _ rfl
              refine wpOp_step rfl fun K hK => ?_
              go_simp
              exact hK _ _ ⟨x37, x38, x39, x40, x41, x42, x43, x44, x45, x46, _, x48, x49, x50, x51, x52, x53, x54, _, x56, x57, x58, x59, x60, x61, x62, rfl, h.same 18 _ .any (by rw [HV.out]; rfl) trivial⟩
            · obtain rfl : x47 = .bool false := h.get 10 (hw _ rfl ⟨10, .guard⟩ (by simp) rfl) (.con (.bool false)) (by rw [HV.out]; rfl) _ rfl
              refine wpOp_step rfl fun K hK => ?_
              go_simp
              exact hK _ _ ⟨x37, x38, x39, x40, x41, x42, x43, x44, x45, x46, _, x48, x49, x50, x51, x52, x53, x54, x55, _, x57, x58, x59, x60, x61, x62, rfl, h.same 19 _ .any (by rw [HV.out]; rfl) trivial⟩
            · obtain rfl : x47 = .bool false := h.get 10 (hw _ rfl ⟨10, .guard⟩ (by simp) rfl) (.con (.bool false)) (by rw [HV.out]; rfl) _ rfl
              refine wpOp_step rfl fun K hK => ?_
              go_simp
              exact hK _ _ ⟨x37, x38, x39, x40, x41, x42, x43, x44, x45, x46, _, x48, x49, x50, x51, x52, x53, x54, x55, x56, _, x58, x59, x60, x61, x62, rfl, h.same 20 _ .any (by rw [HV.out]; rfl) trivial⟩
            · obtain rfl : x47 = .bool false := h.get 10 (hw _ rfl ⟨10, .guard⟩ (by simp) rfl) (.con (.bool false)) (by rw [HV.out]; rfl) _ rfl
              refine wpOp_step rfl fun K hK => ?_
              go_simp
              exact hK _ _ ⟨x37, x38, x39, x40, x41, x42, x43, x44, x45, x46, _, x48, x49, x50, x51, x52, x53, x54, x55, x56, x57, _, x59, x60, x61, x62, rfl, h.same 21 _ .any (by rw [HV.out]; rfl) trivial⟩
            · obtain rfl : x47 = .bool false := h.get 10 (hw _ rfl ⟨10, .guard⟩ (by simp) rfl) (.con (.bool false)) (by rw [HV.out]; rfl) _ rfl
              refine wpOp_step rfl fun K hK => ?_
              go_simp
              exact hK _ _ ⟨x37, x38, x39, x40, x41, x42, x43, x44, x45, x46, _, x48, x49, x50, x51, x52, x53, x54, x55, x56, x57, x58, _, x60, x61, x62, rfl, h.same 22 _ .any (by rw [HV.out]; rfl) trivial⟩
            · obtain rfl : x47 = .bool false := h.get 10 (hw _ rfl ⟨10, .guard⟩ (by simp) rfl) (.con (.bool false)) (by rw [HV.out]; rfl) _ rfl
              refine wpOp_step rfl fun K hK => ?_
              go_simp
              exact hK _ _ ⟨x37, x38, x39, x40, x41, x42, x43, x44, x45, x46, _, x48, x49, x50, x51, x52, x53, x54, x55, x56, x57, x58, x59, _, x61, x62, rfl, h.same 23 _ .any (by rw [HV.out]; rfl) trivial⟩
            · obtain rfl : x47 = .bool false := h.get 10 (hw _ rfl ⟨10, .guard⟩ (by simp) rfl) (.con (.bool false)) (by rw [HV.out]; rfl) _ rfl
              refine wpOp_step rfl fun K hK => ?_
              go_simp
              exact hK _ _ ⟨x37, x38, x39, x40, x41, x42, x43, x44, x45, x46, _, x48, x49, x50, x51, x52, x53, x54, x55, x56, x57, x58, x59, x60, _, x62, rfl, h.same 24 _ .any (by rw [HV.out]; rfl) trivial⟩
            · obtain rfl : x44 = .bool false := h.get 7 (hw _ rfl ⟨7, .guard⟩ (by simp) rfl) (.con (.bool false)) (by rw [HV.out]; rfl) _ rfl
              obtain rfl : x47 = .bool false := h.get 10 (hw _ rfl ⟨10, .data⟩ (by simp) rfl) (.con (.bool false)) (by rw [HV.out]; rfl) _ rfl
              refine wpOp_step rfl fun K hK => ?_
              go_simp
              exact hK _ _ ⟨x37, x38, x39, x40, x41, x42, x43, _, x45, x46, _, x48, x49, x50, x51, x52, x53, x54, x55, x56, x57, x58, x59, x60, x61, _, rfl, h.same 25 _ (.con (.bool false)) (by rw [HV.out]; rfl) rfl⟩
            · omega
          case last =>
            rintro d a' w' hall ⟨x37, x38, x39, x40, x41, x42, x43, x44, x45, x46, x47, x48, x49, x50, x51, x52, x53, x54, x55, x56, x57, x58, x59, x60, x61, x62, rfl, h⟩
            have hle := h.1
            obtain rfl : x44 = .bool false := h.get 7 (hall _ (by omega)) (.con (.bool false)) (by rw [HV.out]; rfl) _ rfl
            obtain rfl : x62 = .bool false := h.get 25 (hall _ (by omega)) (.con (.bool false)) (by rw [HV.out]; rfl) _ rfl
            have HLE := Lib.hid hle
            clear h hall hle HV
            go_wp2
            go_roundw
            case rel =>
              refine ⟨k + 1, by omega, by go_num, fun j hj hjk => ?_, fun j h1 hj hjk => by have := H0.out; omega, HB.out.trans (HLE.out.mono HB.out.size)⟩
              obtain rfl : j = k := by have := H0.out; omega
              exact HMK.out
            case measure => simp [intOf]; omega
        · obtain ⟨pv, hpv⟩ : ∃ pv, pv = l[j].name := ⟨_, rfl⟩
          have q5 : decide ((0 : Int) < (k : Int)) = true := by simp; omega
          have q6 : 0 < k := by omega
          have q7 : (k : Int) - 1 = (j : Int) := by omega
          have HCJ := Lib.hid (show ∀ w' : World, Below wr.heap.size wr w' → w'.cell? ⟨w.heap.size, 2, none⟩ = some (.slice (some ⟨b, off, none⟩) l.length c) ∧ w'.cell? ⟨b, off + k * 4, none⟩ = some (.string nm) ∧ w'.cell? ⟨b, off + k * 4 + 1, none⟩ = some (.int .i64 vr) ∧ w'.cell? ⟨b, off + k * 4 + 2, none⟩ = some (.int .i64 ln) ∧ w'.cell? ⟨b, off + k * 4 + 3, none⟩ = some (.slice hh hs.length hc) ∧ w'.cell? ⟨b, off + j * 4, none⟩ = some (.string pv) from fun w' h => by
            obtain ⟨z0, z1, z2, z3, z4, z5⟩ := HCC.out w' h
            obtain ⟨_, hx⟩ := z5 j hj
            exact ⟨z0, z1, z2, z3, z4, by rw [hpv]; exact hx⟩)
          have HWJ := Lib.hid (show Value.int .i64 (IntKind.i64.wrap (j : Int)) = Value.int .i64 (j : Int) by
            have hjb : (j : Int) ≤ 9223372036854775807 := by omega
            have e : IntKind.i64.wrap (j : Int) = (j : Int) := by
              unfold IntKind.wrap
              simp only [IntKind.bits, IntKind.signed, Bool.true_and]
              have hm : (j : Int) % (2 ^ 64 : Int) = j := by omega
              simp only [hm]
              rw [if_neg (by simp; omega)]
            rw [e])
          have HPP := Lib.hid hpv
          have HJ := Lib.hid hj
          clear hpv hj
          cases hb : Op.bytesLess pv.toList nm.toList
          · have HX := Lib.hid (maySnap_less (v := v) (e := e) k (by omega) hlt (by simp only [show k - 1 = j by have := HJ.out; omega]; rw [← HPP.out, ← HPK.out]; exact hb))
            go_upto_region 7 with fail
            clear q2
            obtain ⟨V, hV⟩ : ∃ V : List MP, V = [.con (.pointer (some ⟨w.heap.size, 2, none⟩)), .con (.slice (some ⟨b, off, none⟩) l.length c), .con (.int .i64 (k : Int)), .con (.pointer (some ⟨b, off + k * 4, none⟩)), .con (.agg #[.string nm, .int .i64 vr, .int .i64 ln, .slice hh hs.length hc]), .con (.bool true), .con (.bool false), .con (.bool false), .con (.int .i64 (k : Int)), .con (.bool true), .con (.bool true), .con (.pointer (some ⟨w.heap.size, 2, none⟩)), .con (.slice (some ⟨b, off, none⟩) l.length c), .con (.int .i64 (k : Int)), .con (.int .i64 (j : Int)), .con (.pointer (some ⟨b, off + j * 4, none⟩)), .con (.pointer (some ⟨b, off + j * 4, none⟩)), .con (.string pv), .con (.pointer (some ⟨w.heap.size, 2, none⟩)), .con (.slice (some ⟨b, off, none⟩) l.length c), .con (.int .i64 (k : Int)), .con (.pointer (some ⟨b, off + k * 4, none⟩)), .con (.pointer (some ⟨b, off + k * 4, none⟩)), .con (.string nm), .con (.bool true), .con (.bool true)] := ⟨_, rfl⟩
            have HV := Lib.hid hV
            clear hV
            refine wp_region_inv 26 (fun d a' w' => ∃ x37 x38 x39 x40 x41 x42 x43 x44 x45 x46 x47 x48 x49 x50 x51 x52 x53 x54 x55 x56 x57 x58 x59 x60 x61 x62, a' = ⟨#[Value.agg #[Value.int IntKind.i64 v, Value.int IntKind.i64 e, Value.slice (some { block := b, off := off }) l.length c], Value.pointer (some { block := w.heap.size, off := 0 }), u2, Value.string ss, Value.int IntKind.i64 0, Value.int IntKind.i64 (k : Int), Value.tuple #[Value.string ss, Value.int IntKind.i64 0], Value.pointer (some { block := w.heap.size, off := 1 }), Value.int IntKind.i64 e, Value.tuple #[Value.string ss, Value.int IntKind.i64 0], Value.string ss, Value.int IntKind.i64 0, Value.pointer (some { block := w.heap.size, off := 0 }), Value.int IntKind.i64 v, Value.bool false, Value.bool false, Value.pointer (some { block := w.heap.size, off := 0 }), Value.int IntKind.i64 v, Value.bool false, Value.bool false, Value.bool false, Value.int IntKind.i64 0, Value.bool false, Value.bool false, Value.bool false, Value.pointer (some { block := w.heap.size, off := 2 }), Value.slice (some { block := b, off := off }) l.length c, Value.int IntKind.i64 (l.length : Int), Value.bool false, Value.bool false, Value.int IntKind.i64 (k : Int), Value.pointer (some { block := w.heap.size, off := 2 }), Value.slice (some { block := b, off := off }) l.length c, Value.int IntKind.i64 (l.length : Int), Value.bool true, u35, u36, x37, x38, x39, x40, x41, x42, x43, x44, x45, x46, x47, x48, x49, x50, x51, x52, x53, x54, x55, x56, x57, x58, x59, x60, x61, x62, u63], []⟩ ∧ RegI wr V d w' [x37, x38, x39, x40, x41, x42, x43, x44, x45, x46, x47, x48, x49, x50, x51, x52, x53, x54, x55, x56, x57, x58, x59, x60, x61, x62]) (by kernel_rfl) (by kernel_rfl) ?first ?step ?last
            case first => exact ⟨_, _, _, _, _, _, _, _, _, _, _, _, _, _, _, _, _, _, _, _, _, _, _, _, _, _, rfl, RegI.first _ _ _ (by rw [HV.out]; rfl)⟩
            case step =>
              rintro d a' w' ⟨x37, x38, x39, x40, x41, x42, x43, x44, x45, x46, x47, x48, x49, x50, x51, x52, x53, x54, x55, x56, x57, x58, x59, x60, x61, x62, rfl, h⟩ q hq hn hw
              rcases q with _ | _ | _ | _ | _ | _ | _ | _ | _ | _ | _ | _ | _ | _ | _ | _ | _ | _ | _ | _ | _ | _ | _ | _ | _ | _ | q
              · refine wpOp_step rfl fun K hK => ?_
                go_simp
                exact hK _ _ ⟨_, x38, x39, x40, x41, x42, x43, x44, x45, x46, x47, x48, x49, x50, x51, x52, x53, x54, x55, x56, x57, x58, x59, x60, x61, x62, rfl, h.same 0 _ (.con (.pointer (some ⟨w.heap.size, 2, none⟩))) (by rw [HV.out]; rfl) rfl⟩
              · obtain rfl : x37 = .pointer (some ⟨w.heap.size, 2, none⟩) := h.get 0 (hw _ rfl ⟨0, .data⟩ (by simp) rfl) (.con (.pointer (some ⟨w.heap.size, 2, none⟩))) (by rw [HV.out]; rfl) _ rfl
                obtain ⟨g2, e0, e1, e2, e3, y0⟩ := HCJ.out w' h.1
                refine wpOp_step rfl fun K hK => ?_
                go_simp
                exact hK _ _ ⟨_, _, x39, x40, x41, x42, x43, x44, x45, x46, x47, x48, x49, x50, x51, x52, x53, x54, x55, x56, x57, x58, x59, x60, x61, x62, rfl, h.same 1 _ (.con (.slice (some ⟨b, off, none⟩) l.length c)) (by rw [HV.out]; rfl) rfl⟩
              · refine wpOp_step rfl fun K hK => ?_
                go_simp
                exact hK _ _ ⟨x37, x38, _, x40, x41, x42, x43, x44, x45, x46, x47, x48, x49, x50, x51, x52, x53, x54, x55, x56, x57, x58, x59, x60, x61, x62, rfl, h.same 2 _ (.con (.int .i64 (k : Int))) (by rw [HV.out]; rfl) rfl⟩
              · obtain rfl : x38 = .slice (some ⟨b, off, none⟩) l.length c := h.get 1 (hw _ rfl ⟨1, .data⟩ (by simp) rfl) (.con (.slice (some ⟨b, off, none⟩) l.length c)) (by rw [HV.out]; rfl) _ rfl
                obtain rfl : x39 = .int .i64 (k : Int) := h.get 2 (hw _ rfl ⟨2, .data⟩ (by simp) rfl) (.con (.int .i64 (k : Int))) (by rw [HV.out]; rfl) _ rfl
                obtain ⟨g2, e0, e1, e2, e3, y0⟩ := HCJ.out w' h.1
                refine wpOp_step rfl fun K hK => ?_
                go_simp
                exact hK _ _ ⟨x37, _, _, _, x41, x42, x43, x44, x45, x46, x47, x48, x49, x50, x51, x52, x53, x54, x55, x56, x57, x58, x59, x60, x61, x62, rfl, h.same 3 _ (.con (.pointer (some ⟨b, off + k * 4, none⟩))) (by rw [HV.out]; rfl) rfl⟩
              · obtain rfl : x40 = .pointer (some ⟨b, off + k * 4, none⟩) := h.get 3 (hw _ rfl ⟨3, .data⟩ (by simp) rfl) (.con (.pointer (some ⟨b, off + k * 4, none⟩))) (by rw [HV.out]; rfl) _ rfl
                obtain ⟨g2, e0, e1, e2, e3, y0⟩ := HCJ.out w' h.1
                refine wpOp_step rfl fun K hK => ?_
                go_simp
                exact hK _ _ ⟨x37, x38, x39, _, _, x42, x43, x44, x45, x46, x47, x48, x49, x50, x51, x52, x53, x54, x55, x56, x57, x58, x59, x60, x61, x62, rfl, h.same 4 _ (.con (.agg #[.string nm, .int .i64 vr, .int .i64 ln, .slice hh hs.length hc])) (by rw [HV.out]; rfl) rfl⟩
              · obtain rfl : x41 = .agg #[.string nm, .int .i64 vr, .int .i64 ln, .slice hh hs.length hc] := h.get 4 (hw _ rfl ⟨4, .data⟩ (by simp) rfl) (.con (.agg #[.string nm, .int .i64 vr, .int .i64 ln, .slice hh hs.length hc])) (by rw [HV.out]; rfl) _ rfl
                obtain ⟨g2, e0, e1, e2, e3, y0⟩ := HCJ.out w' h.1
                refine wpOp_step rfl fun K hK => ?_
                go_simp
                refine (HMP.out w' h.1).mono ?_
                rintro e w2 ⟨rfl, hb2⟩
                exact hK _ _ ⟨x37, x38, x39, x40, _, _, x43, x44, x45, x46, x47, x48, x49, x50, x51, x52, x53, x54, x55, x56, x57, x58, x59, x60, x61, x62, rfl, h.did hb2 5 _ (.con (.bool true)) (by rw [HV.out]; rfl) rfl⟩
              · obtain rfl : x42 = .bool true := h.get 5 (hw _ rfl ⟨5, .data⟩ (by simp) rfl) (.con (.bool true)) (by rw [HV.out]; rfl) _ rfl
                refine wpOp_step rfl fun K hK => ?_
                go_simp
                exact hK _ _ ⟨x37, x38, x39, x40, x41, _, _, x44, x45, x46, x47, x48, x49, x50, x51, x52, x53, x54, x55, x56, x57, x58, x59, x60, x61, x62, rfl, h.same 6 _ (.con (.bool false)) (by rw [HV.out]; rfl) rfl⟩
              · obtain rfl : x43 = .bool false := h.get 6 (hw _ rfl ⟨6, .data⟩ (by simp) rfl) (.con (.bool false)) (by rw [HV.out]; rfl) _ rfl
                refine wpOp_step rfl fun K hK => ?_
                go_simp
                exact hK _ _ ⟨x37, x38, x39, x40, x41, x42, _, _, x45, x46, x47, x48, x49, x50, x51, x52, x53, x54, x55, x56, x57, x58, x59, x60, x61, x62, rfl, h.same 7 _ (.con (.bool false)) (by rw [HV.out]; rfl) rfl⟩
              · obtain rfl : x44 = .bool false := h.get 7 (hw _ rfl ⟨7, .guard⟩ (by simp) rfl) (.con (.bool false)) (by rw [HV.out]; rfl) _ rfl
                refine wpOp_step rfl fun K hK => ?_
                go_simp
                exact hK _ _ ⟨x37, x38, x39, x40, x41, x42, x43, _, _, x46, x47, x48, x49, x50, x51, x52, x53, x54, x55, x56, x57, x58, x59, x60, x61, x62, rfl, h.same 8 _ (.con (.int .i64 (k : Int))) (by rw [HV.out]; rfl) rfl⟩
              · obtain rfl : x44 = .bool false := h.get 7 (hw _ rfl ⟨7, .guard⟩ (by simp) rfl) (.con (.bool false)) (by rw [HV.out]; rfl) _ rfl
                obtain rfl : x45 = .int .i64 (k : Int) := h.get 8 (hw _ rfl ⟨8, .data⟩ (by simp) rfl) (.con (.int .i64 (k : Int))) (by rw [HV.out]; rfl) _ rfl
                refine wpOp_step rfl fun K hK => ?_
                go_simp
                exact hK _ _ ⟨x37, x38, x39, x40, x41, x42, x43, _, _, _, x47, x48, x49, x50, x51, x52, x53, x54, x55, x56, x57, x58, x59, x60, x61, x62, rfl, h.same 9 _ (.con (.bool true)) (by rw [HV.out]; rfl) rfl⟩
              · obtain rfl : x44 = .bool false := h.get 7 (hw _ rfl ⟨7, .chain⟩ (by simp) rfl) (.con (.bool false)) (by rw [HV.out]; rfl) _ rfl
                obtain rfl : x46 = .bool true := h.get 9 (hw _ rfl ⟨9, .data⟩ (by simp) rfl) (.con (.bool true)) (by rw [HV.out]; rfl) _ rfl
                refine wpOp_step rfl fun K hK => ?_
                go_simp
                exact hK _ _ ⟨x37, x38, x39, x40, x41, x42, x43, _, x45, _, _, x48, x49, x50, x51, x52, x53, x54, x55, x56, x57, x58, x59, x60, x61, x62, rfl, h.same 10 _ (.con (.bool true)) (by rw [HV.out]; rfl) rfl⟩
              · obtain rfl : x47 = .bool true := h.get 10 (hw _ rfl ⟨10, .guard⟩ (by simp) rfl) (.con (.bool true)) (by rw [HV.out]; rfl) _ rfl
                refine wpOp_step rfl fun K hK => ?_
                go_simp
                exact hK _ _ ⟨x37, x38, x39, x40, x41, x42, x43, x44, x45, x46, _, _, x49, x50, x51, x52, x53, x54, x55, x56, x57, x58, x59, x60, x61, x62, rfl, h.same 11 _ (.con (.pointer (some ⟨w.heap.size, 2, none⟩))) (by rw [HV.out]; rfl) rfl⟩
              · obtain rfl : x47 = .bool true := h.get 10 (hw _ rfl ⟨10, .guard⟩ (by simp) rfl) (.con (.bool true)) (by rw [HV.out]; rfl) _ rfl
                obtain rfl : x48 = .pointer (some ⟨w.heap.size, 2, none⟩) := h.get 11 (hw _ rfl ⟨11, .data⟩ (by simp) rfl) (.con (.pointer (some ⟨w.heap.size, 2, none⟩))) (by rw [HV.out]; rfl) _ rfl
                obtain ⟨g2, e0, e1, e2, e3, y0⟩ := HCJ.out w' h.1
                refine wpOp_step rfl fun K hK => ?_
                go_simp
                exact hK _ _ ⟨x37, x38, x39, x40, x41, x42, x43, x44, x45, x46, _, _, _, x50, x51, x52, x53, x54, x55, x56, x57, x58, x59, x60, x61, x62, rfl, h.same 12 _ (.con (.slice (some ⟨b, off, none⟩) l.length c)) (by rw [HV.out]; rfl) rfl⟩
              · obtain rfl : x47 = .bool true := h.get 10 (hw _ rfl ⟨10, .guard⟩ (by simp) rfl) (.con (.bool true)) (by rw [HV.out]; rfl) _ rfl
                refine wpOp_step rfl fun K hK => ?_
                go_simp
                exact hK _ _ ⟨x37, x38, x39, x40, x41, x42, x43, x44, x45, x46, _, x48, x49, _, x51, x52, x53, x54, x55, x56, x57, x58, x59, x60, x61, x62, rfl, h.same 13 _ (.con (.int .i64 (k : Int))) (by rw [HV.out]; rfl) rfl⟩
              · obtain rfl : x47 = .bool true := h.get 10 (hw _ rfl ⟨10, .guard⟩ (by simp) rfl) (.con (.bool true)) (by rw [HV.out]; rfl) _ rfl
                obtain rfl : x50 = .int .i64 (k : Int) := h.get 13 (hw _ rfl ⟨13, .data⟩ (by simp) rfl) (.con (.int .i64 (k : Int))) (by rw [HV.out]; rfl) _ rfl
                refine wpOp_step rfl fun K hK => ?_
                go_simp
                exact hK _ _ ⟨x37, x38, x39, x40, x41, x42, x43, x44, x45, x46, _, x48, x49, _, _, x52, x53, x54, x55, x56, x57, x58, x59, x60, x61, x62, rfl, h.same 14 _ (.con (.int .i64 (j : Int))) (by rw [HV.out]; rfl) HWJ.out⟩
              · obtain rfl : x47 = .bool true := h.get 10 (hw _ rfl ⟨10, .guard⟩ (by simp) rfl) (.con (.bool true)) (by rw [HV.out]; rfl) _ rfl
                obtain rfl : x49 = .slice (some ⟨b, off, none⟩) l.length c := h.get 12 (hw _ rfl ⟨12, .data⟩ (by simp) rfl) (.con (.slice (some ⟨b, off, none⟩) l.length c)) (by rw [HV.out]; rfl) _ rfl
                obtain rfl : x51 = .int .i64 (j : Int) := h.get 14 (hw _ rfl ⟨14, .data⟩ (by simp) rfl) (.con (.int .i64 (j : Int))) (by rw [HV.out]; rfl) _ rfl
                obtain ⟨g2, e0, e1, e2, e3, y0⟩ := HCJ.out w' h.1
                refine wpOp_step rfl fun K hK => ?_
                go_simp
                exact hK _ _ ⟨x37, x38, x39, x40, x41, x42, x43, x44, x45, x46, _, x48, _, x50, _, _, x53, x54, x55, x56, x57, x58, x59, x60, x61, x62, rfl, h.same 15 _ (.con (.pointer (some ⟨b, off + j * 4, none⟩))) (by rw [HV.out]; rfl) rfl⟩
              · obtain rfl : x47 = .bool true := h.get 10 (hw _ rfl ⟨10, .guard⟩ (by simp) rfl) (.con (.bool true)) (by rw [HV.out]; rfl) _ rfl
                obtain rfl : x52 = .pointer (some ⟨b, off + j * 4, none⟩) := h.get 15 (hw _ rfl ⟨15, .data⟩ (by simp) rfl) (.con (.pointer (some ⟨b, off + j * 4, none⟩))) (by rw [HV.out]; rfl) _ rfl
                refine wpOp_step rfl fun K hK => ?_
                go_simp
                exact hK _ _ ⟨x37, x38, x39, x40, x41, x42, x43, x44, x45, x46, _, x48, x49, x50, x51, _, _, x54, x55, x56, x57, x58, x59, x60, x61, x62, rfl, h.same 16 _ (.con (.pointer (some ⟨b, off + j * 4, none⟩))) (by rw [HV.out]; rfl) rfl⟩
              · obtain rfl : x47 = .bool true := h.get 10 (hw _ rfl ⟨10, .guard⟩ (by simp) rfl) (.con (.bool true)) (by rw [HV.out]; rfl) _ rfl
                obtain rfl : x53 = .pointer (some ⟨b, off + j * 4, none⟩) := h.get 16 (hw _ rfl ⟨16, .data⟩ (by simp) rfl) (.con (.pointer (some ⟨b, off + j * 4, none⟩))) (by rw [HV.out]; rfl) _ rfl
                obtain ⟨g2, e0, e1, e2, e3, y0⟩ := HCJ.out w' h.1
                refine wpOp_step rfl fun K hK => ?_
                go_simp
                exact hK _ _ ⟨x37, x38, x39, x40, x41, x42, x43, x44, x45, x46, _, x48, x49, x50, x51, x52, _, _, x55, x56, x57, x58, x59, x60, x61, x62, rfl, h.same 17 _ (.con (.string pv)) (by rw [HV.out]; rfl) rfl⟩
              · obtain rfl : x47 = .bool true := h.get 10 (hw _ rfl ⟨10, .guard⟩ (by simp) rfl) (.con (.bool true)) (by rw [HV.out]; rfl) _ rfl
                refine wpOp_step rfl fun K hK => ?_
                go_simp
                exact hK _ _ ⟨x37, x38, x39, x40, x41, x42, x43, x44, x45, x46, _, x48, x49, x50, x51, x52, x53, x54, _, x56, x57, x58, x59, x60, x61, x62, rfl, h.same 18 _ (.con (.pointer (some ⟨w.heap.size, 2, none⟩))) (by rw [HV.out]; rfl) rfl⟩
              · obtain rfl : x47 = .bool true := h.get 10 (hw _ rfl ⟨10, .guard⟩ (by simp) rfl) (.con (.bool true)) (by rw [HV.out]; rfl) _ rfl
                obtain rfl : x55 = .pointer (some ⟨w.heap.size, 2, none⟩) := h.get 18 (hw _ rfl ⟨18, .data⟩ (by simp) rfl) (.con (.pointer (some ⟨w.heap.size, 2, none⟩))) (by rw [HV.out]; rfl) _ rfl
                obtain ⟨g2, e0, e1, e2, e3, y0⟩ := HCJ.out w' h.1
                refine wpOp_step rfl fun K hK => ?_
                go_simp
                exact hK _ _ ⟨x37, x38, x39, x40, x41, x42, x43, x44, x45, x46, _, x48, x49, x50, x51, x52, x53, x54, _, _, x57, x58, x59, x60, x61, x62, rfl, h.same 19 _ (.con (.slice (some ⟨b, off, none⟩) l.length c)) (by rw [HV.out]; rfl) rfl⟩
              · obtain rfl : x47 = .bool true := h.get 10 (hw _ rfl ⟨10, .guard⟩ (by simp) rfl) (.con (.bool true)) (by rw [HV.out]; rfl) _ rfl
                refine wpOp_step rfl fun K hK => ?_
                go_simp
                exact hK _ _ ⟨x37, x38, x39, x40, x41, x42, x43, x44, x45, x46, _, x48, x49, x50, x51, x52, x53, x54, x55, x56, _, x58, x59, x60, x61, x62, rfl, h.same 20 _ (.con (.int .i64 (k : Int))) (by rw [HV.out]; rfl) rfl⟩
              · obtain rfl : x47 = .bool true := h.get 10 (hw _ rfl ⟨10, .guard⟩ (by simp) rfl) (.con (.bool true)) (by rw [HV.out]; rfl) _ rfl
                obtain rfl : x56 = .slice (some ⟨b, off, none⟩) l.length c := h.get 19 (hw _ rfl ⟨19, .data⟩ (by simp) rfl) (.con (.slice (some ⟨b, off, none⟩) l.length c)) (by rw [HV.out]; rfl) _ rfl
                obtain rfl : x57 = .int .i64 (k : Int) := h.get 20 (hw _ rfl ⟨20, .data⟩ (by simp) rfl) (.con (.int .i64 (k : Int))) (by rw [HV.out]; rfl) _ rfl
                obtain ⟨g2, e0, e1, e2, e3, y0⟩ := HCJ.out w' h.1
                refine wpOp_step rfl fun K hK => ?_
                go_simp
                exact hK _ _ ⟨x37, x38, x39, x40, x41, x42, x43, x44, x45, x46, _, x48, x49, x50, x51, x52, x53, x54, x55, _, _, _, x59, x60, x61, x62, rfl, h.same 21 _ (.con (.pointer (some ⟨b, off + k * 4, none⟩))) (by rw [HV.out]; rfl) rfl⟩
              · obtain rfl : x47 = .bool true := h.get 10 (hw _ rfl ⟨10, .guard⟩ (by simp) rfl) (.con (.bool true)) (by rw [HV.out]; rfl) _ rfl
                obtain rfl : x58 = .pointer (some ⟨b, off + k * 4, none⟩) := h.get 21 (hw _ rfl ⟨21, .data⟩ (by simp) rfl) (.con (.pointer (some ⟨b, off + k * 4, none⟩))) (by rw [HV.out]; rfl) _ rfl
                refine wpOp_step rfl fun K hK => ?_
                go_simp
                exact hK _ _ ⟨x37, x38, x39, x40, x41, x42, x43, x44, x45, x46, _, x48, x49, x50, x51, x52, x53, x54, x55, x56, x57, _, _, x60, x61, x62, rfl, h.same 22 _ (.con (.pointer (some ⟨b, off + k * 4, none⟩))) (by rw [HV.out]; rfl) rfl⟩
              · obtain rfl : x47 = .bool true := h.get 10 (hw _ rfl ⟨10, .guard⟩ (by simp) rfl) (.con (.bool true)) (by rw [HV.out]; rfl) _ rfl
                obtain rfl : x59 = .pointer (some ⟨b, off + k * 4, none⟩) := h.get 22 (hw _ rfl ⟨22, .data⟩ (by simp) rfl) (.con (.pointer (some ⟨b, off + k * 4, none⟩))) (by rw [HV.out]; rfl) _ rfl
                obtain ⟨g2, e0, e1, e2, e3, y0⟩ := HCJ.out w' h.1
                refine wpOp_step rfl fun K hK => ?_
                go_simp
                exact hK _ _ ⟨x37, x38, x39, x40, x41, x42, x43, x44, x45, x46, _, x48, x49, x50, x51, x52, x53, x54, x55, x56, x57, x58, _, _, x61, x62, rfl, h.same 23 _ (.con (.string nm)) (by rw [HV.out]; rfl) rfl⟩
              · obtain rfl : x47 = .bool true := h.get 10 (hw _ rfl ⟨10, .guard⟩ (by simp) rfl) (.con (.bool true)) (by rw [HV.out]; rfl) _ rfl
                obtain rfl : x54 = .string pv := h.get 17 (hw _ rfl ⟨17, .data⟩ (by simp) rfl) (.con (.string pv)) (by rw [HV.out]; rfl) _ rfl
                obtain rfl : x60 = .string nm := h.get 23 (hw _ rfl ⟨23, .data⟩ (by simp) rfl) (.con (.string nm)) (by rw [HV.out]; rfl) _ rfl
                refine wpOp_step rfl fun K hK => ?_
                go_simp
                exact hK _ _ ⟨x37, x38, x39, x40, x41, x42, x43, x44, x45, x46, _, x48, x49, x50, x51, x52, x53, _, x55, x56, x57, x58, x59, _, _, x62, rfl, h.same 24 _ (.con (.bool true)) (by rw [HV.out]; rfl) rfl⟩
              · obtain rfl : x44 = .bool false := h.get 7 (hw _ rfl ⟨7, .guard⟩ (by simp) rfl) (.con (.bool false)) (by rw [HV.out]; rfl) _ rfl
                obtain rfl : x47 = .bool true := h.get 10 (hw _ rfl ⟨10, .data⟩ (by simp) rfl) (.con (.bool true)) (by rw [HV.out]; rfl) _ rfl
                obtain rfl : x61 = .bool true := h.get 24 (hw _ rfl ⟨24, .data⟩ (by simp) rfl) (.con (.bool true)) (by rw [HV.out]; rfl) _ rfl
                refine wpOp_step rfl fun K hK => ?_
                go_simp
                exact hK _ _ ⟨x37, x38, x39, x40, x41, x42, x43, _, x45, x46, _, x48, x49, x50, x51, x52, x53, x54, x55, x56, x57, x58, x59, x60, _, _, rfl, h.same 25 _ (.con (.bool true)) (by rw [HV.out]; rfl) rfl⟩
              · omega
            case last =>
              rintro d a' w' hall ⟨x37, x38, x39, x40, x41, x42, x43, x44, x45, x46, x47, x48, x49, x50, x51, x52, x53, x54, x55, x56, x57, x58, x59, x60, x61, x62, rfl, h⟩
              have hle := h.1
              obtain rfl : x44 = .bool false := h.get 7 (hall _ (by omega)) (.con (.bool false)) (by rw [HV.out]; rfl) _ rfl
              obtain rfl : x62 = .bool true := h.get 25 (hall _ (by omega)) (.con (.bool true)) (by rw [HV.out]; rfl) _ rfl
              have HLE := Lib.hid hle
              clear h hall hle HV
              go_wp2
              go_ret
              exact ⟨ret_bool HX.out.symm, HBW.out.trans (HLE.out.mono HBW.out.size)⟩
          · have HLS := Lib.hid hb
            go_upto_region 7 with fail
            clear q2
            obtain ⟨V, hV⟩ : ∃ V : List MP, V = [.con (.pointer (some ⟨w.heap.size, 2, none⟩)), .con (.slice (some ⟨b, off, none⟩) l.length c), .con (.int .i64 (k : Int)), .con (.pointer (some ⟨b, off + k * 4, none⟩)), .con (.agg #[.string nm, .int .i64 vr, .int .i64 ln, .slice hh hs.length hc]), .con (.bool true), .con (.bool false), .con (.bool false), .con (.int .i64 (k : Int)), .con (.bool true), .con (.bool true), .con (.pointer (some ⟨w.heap.size, 2, none⟩)), .con (.slice (some ⟨b, off, none⟩) l.length c), .con (.int .i64 (k : Int)), .con (.int .i64 (j : Int)), .con (.pointer (some ⟨b, off + j * 4, none⟩)), .con (.pointer (some ⟨b, off + j * 4, none⟩)), .con (.string pv), .con (.pointer (some ⟨w.heap.size, 2, none⟩)), .con (.slice (some ⟨b, off, none⟩) l.length c), .con (.int .i64 (k : Int)), .con (.pointer (some ⟨b, off + k * 4, none⟩)), .con (.pointer (some ⟨b, off + k * 4, none⟩)), .con (.string nm), .con (.bool false), .con (.bool false)] := ⟨_, rfl⟩
            have HV := Lib.hid hV
            clear hV
            refine wp_region_inv 26 (fun d a' w' => ∃ x37 x38 x39 x40 x41 x42 x43 x44 x45 x46 x47 x48 x49 x50 x51 x52 x53 x54 x55 x56 x57 x58 x59 x60 x61 x62, a' = ⟨#[Value.agg #[Value.int IntKind.i64 v, Value.int IntKind.i64 e, Value.slice (some { block := b, off := off }) l.length c], Value.pointer (some { block := w.heap.size, off := 0 }), u2, Value.string ss, Value.int IntKind.i64 0, Value.int IntKind.i64 (k : Int), Value.tuple #[Value.string ss, Value.int IntKind.i64 0], Value.pointer (some { block := w.heap.size, off := 1 }), Value.int IntKind.i64 e, Value.tuple #[Value.string ss, Value.int IntKind.i64 0], Value.string ss, Value.int IntKind.i64 0, Value.pointer (some { block := w.heap.size, off := 0 }), Value.int IntKind.i64 v, Value.bool false, Value.bool false, Value.pointer (some { block := w.heap.size, off := 0 }), Value.int IntKind.i64 v, Value.bool false, Value.bool false, Value.bool false, Value.int IntKind.i64 0, Value.bool false, Value.bool false, Value.bool false, Value.pointer (some { block := w.heap.size, off := 2 }), Value.slice (some { block := b, off := off }) l.length c, Value.int IntKind.i64 (l.length : Int), Value.bool false, Value.bool false, Value.int IntKind.i64 (k : Int), Value.pointer (some { block := w.heap.size, off := 2 }), Value.slice (some { block := b, off := off }) l.length c, Value.int IntKind.i64 (l.length : Int), Value.bool true, u35, u36, x37, x38, x39, x40, x41, x42, x43, x44, x45, x46, x47, x48, x49, x50, x51, x52, x53, x54, x55, x56, x57, x58, x59, x60, x61, x62, u63], []⟩ ∧ RegI wr V d w' [x37, x38, x39, x40, x41, x42, x43, x44, x45, x46, x47, x48, x49, x50, x51, x52, x53, x54, x55, x56, x57, x58, x59, x60, x61, x62]) (by kernel_rfl) (by kernel_rfl) ?first ?step ?last
            case first => exact ⟨_, _, _, _, _, _, _, _, _, _, _, _, _, _, _, _, _, _, _, _, _, _, _, _, _, _, rfl, RegI.first _ _ _ (by rw [HV.out]; rfl)⟩
            case step =>
              rintro d a' w' ⟨x37, x38, x39, x40, x41, x42, x43, x44, x45, x46, x47, x48, x49, x50, x51, x52, x53, x54, x55, x56, x57, x58, x59, x60, x61, x62, rfl, h⟩ q hq hn hw
              rcases q with _ | _ | _ | _ | _ | _ | _ | _ | _ | _ | _ | _ | _ | _ | _ | _ | _ | _ | _ | _ | _ | _ | _ | _ | _ | _ | q
              · refine wpOp_step rfl fun K hK => ?_
                go_simp
                exact hK _ _ ⟨_, x38, x39, x40, x41, x42, x43, x44, x45, x46, x47, x48, x49, x50, x51, x52, x53, x54, x55, x56, x57, x58, x59, x60, x61, x62, rfl, h.same 0 _ (.con (.pointer (some ⟨w.heap.size, 2, none⟩))) (by rw [HV.out]; rfl) rfl⟩
              · obtain rfl : x37 = .pointer (some ⟨w.heap.size, 2, none⟩) := h.get 0 (hw _ rfl ⟨0, .data⟩ (by simp) rfl) (.con (.pointer (some ⟨w.heap.size, 2, none⟩))) (by rw [HV.out]; rfl) _ rfl
                obtain ⟨g2, e0, e1, e2, e3, y0⟩ := HCJ.out w' h.1
                refine wpOp_step rfl fun K hK => ?_
                go_simp
                exact hK _ _ ⟨_, _, x39, x40, x41, x42, x43, x44, x45, x46, x47, x48, x49, x50, x51, x52, x53, x54, x55, x56, x57, x58, x59, x60, x61, x62, rfl, h.same 1 _ (.con (.slice (some ⟨b, off, none⟩) l.length c)) (by rw [HV.out]; rfl) rfl⟩
              · refine wpOp_step rfl fun K hK => ?_
                go_simp
                exact hK _ _ ⟨x37, x38, _, x40, x41, x42, x43, x44, x45, x46, x47, x48, x49, x50, x51, x52, x53, x54, x55, x56, x57, x58, x59, x60, x61, x62, rfl, h.same 2 _ (.con (.int .i64 (k : Int))) (by rw [HV.out]; rfl) rfl⟩
              · obtain rfl : x38 = .slice (some ⟨b, off, none⟩) l.length c := h.get 1 (hw _ rfl ⟨1, .data⟩ (by simp) rfl) (.con (.slice (some ⟨b, off, none⟩) l.length c)) (by rw [HV.out]; rfl) _ rfl
                obtain rfl : x39 = .int .i64 (k : Int) := h.get 2 (hw _ rfl ⟨2, .data⟩ (by simp) rfl) (.con (.int .i64 (k : Int))) (by rw [HV.out]; rfl) _ rfl
                obtain ⟨g2, e0, e1, e2, e3, y0⟩ := HCJ.out w' h.1
                refine wpOp_step rfl fun K hK => ?_
                go_simp
                exact hK _ _ ⟨x37, _, _, _, x41, x42, x43, x44, x45, x46, x47, x48, x49, x50, x51, x52, x53, x54, x55, x56, x57, x58, x59, x60, x61, x62, rfl, h.same 3 _ (.con (.pointer (some ⟨b, off + k * 4, none⟩))) (by rw [HV.out]; rfl) rfl⟩
              · obtain rfl : x40 = .pointer (some ⟨b, off + k * 4, none⟩) := h.get 3 (hw _ rfl ⟨3, .data⟩ (by simp) rfl) (.con (.pointer (some ⟨b, off + k * 4, none⟩))) (by rw [HV.out]; rfl) _ rfl
                obtain ⟨g2, e0, e1, e2, e3, y0⟩ := HCJ.out w' h.1
                refine wpOp_step rfl fun K hK => ?_
                go_simp
                exact hK _ _ ⟨x37, x38, x39, _, _, x42, x43, x44, x45, x46, x47, x48, x49, x50, x51, x52, x53, x54, x55, x56, x57, x58, x59, x60, x61, x62, rfl, h.same 4 _ (.con (.agg #[.string nm, .int .i64 vr, .int .i64 ln, .slice hh hs.length hc])) (by rw [HV.out]; rfl) rfl⟩
              · obtain rfl : x41 = .agg #[.string nm, .int .i64 vr, .int .i64 ln, .slice hh hs.length hc] := h.get 4 (hw _ rfl ⟨4, .data⟩ (by simp) rfl) (.con (.agg #[.string nm, .int .i64 vr, .int .i64 ln, .slice hh hs.length hc])) (by rw [HV.out]; rfl) _ rfl
                obtain ⟨g2, e0, e1, e2, e3, y0⟩ := HCJ.out w' h.1
                refine wpOp_step rfl fun K hK => ?_
                go_simp
                refine (HMP.out w' h.1).mono ?_
                rintro e w2 ⟨rfl, hb2⟩
                exact hK _ _ ⟨x37, x38, x39, x40, _, _, x43, x44, x45, x46, x47, x48, x49, x50, x51, x52, x53, x54, x55, x56, x57, x58, x59, x60, x61, x62, rfl, h.did hb2 5 _ (.con (.bool true)) (by rw [HV.out]; rfl) rfl⟩
              · obtain rfl : x42 = .bool true := h.get 5 (hw _ rfl ⟨5, .data⟩ (by simp) rfl) (.con (.bool true)) (by rw [HV.out]; rfl) _ rfl
                refine wpOp_step rfl fun K hK => ?_
                go_simp
                exact hK _ _ ⟨x37, x38, x39, x40, x41, _, _, x44, x45, x46, x47, x48, x49, x50, x51, x52, x53, x54, x55, x56, x57, x58, x59, x60, x61, x62, rfl, h.same 6 _ (.con (.bool false)) (by rw [HV.out]; rfl) rfl⟩
              · obtain rfl : x43 = .bool false := h.get 6 (hw _ rfl ⟨6, .data⟩ (by simp) rfl) (.con (.bool false)) (by rw [HV.out]; rfl) _ rfl
                refine wpOp_step rfl fun K hK => ?_
                go_simp
                exact hK _ _ ⟨x37, x38, x39, x40, x41, x42, _, _, x45, x46, x47, x48, x49, x50, x51, x52, x53, x54, x55, x56, x57, x58, x59, x60, x61, x62, rfl, h.same 7 _ (.con (.bool false)) (by rw [HV.out]; rfl) rfl⟩
              · obtain rfl : x44 = .bool false := h.get 7 (hw _ rfl ⟨7, .guard⟩ (by simp) rfl) (.con (.bool false)) (by rw [HV.out]; rfl) _ rfl
                refine wpOp_step rfl fun K hK => ?_
                go_simp
                exact hK _ _ ⟨x37, x38, x39, x40, x41, x42, x43, _, _, x46, x47, x48, x49, x50, x51, x52, x53, x54, x55, x56, x57, x58, x59, x60, x61, x62, rfl, h.same 8 _ (.con (.int .i64 (k : Int))) (by rw [HV.out]; rfl) rfl⟩
              · obtain rfl : x44 = .bool false := h.get 7 (hw _ rfl ⟨7, .guard⟩ (by simp) rfl) (.con (.bool false)) (by rw [HV.out]; rfl) _ rfl
                obtain rfl : x45 = .int .i64 (k : Int) := h.get 8 (hw _ rfl ⟨8, .data⟩ (by simp) rfl) (.con (.int .i64 (k : Int))) (by rw [HV.out]; rfl) _ rfl
                refine wpOp_step rfl fun K hK => ?_
                go_simp
                exact hK _ _ ⟨x37, x38, x39, x40, x41, x42, x43, _, _, _, x47, x48, x49, x50, x51, x52, x53, x54, x55, x56, x57, x58, x59, x60, x61, x62, rfl, h.same 9 _ (.con (.bool true)) (by rw [HV.out]; rfl) rfl⟩
              · obtain rfl : x44 = .bool false := h.get 7 (hw _ rfl ⟨7, .chain⟩ (by simp) rfl) (.con (.bool false)) (by rw [HV.out]; rfl) _ rfl
                obtain rfl : x46 = .bool true := h.get 9 (hw _ rfl ⟨9, .data⟩ (by simp) rfl) (.con (.bool true)) (by rw [HV.out]; rfl) _ rfl
                refine wpOp_step rfl fun K hK => ?_
                go_simp
                exact hK _ _ ⟨x37, x38, x39, x40, x41, x42, x43, _, x45, _, _, x48, x49, x50, x51, x52, x53, x54, x55, x56, x57, x58, x59, x60, x61, x62, rfl, h.same 10 _ (.con (.bool true)) (by rw [HV.out]; rfl) rfl⟩
              · obtain rfl : x47 = .bool true := h.get 10 (hw _ rfl ⟨10, .guard⟩ (by simp) rfl) (.con (.bool true)) (by rw [HV.out]; rfl) _ rfl
                refine wpOp_step rfl fun K hK => ?_
                go_simp
                exact hK _ _ ⟨x37, x38, x39, x40, x41, x42, x43, x44, x45, x46, _, _, x49, x50, x51, x52, x53, x54, x55, x56, x57, x58, x59, x60, x61, x62, rfl, h.same 11 _ (.con (.pointer (some ⟨w.heap.size, 2, none⟩))) (by rw [HV.out]; rfl) rfl⟩
              · obtain rfl : x47 = .bool true := h.get 10 (hw _ rfl ⟨10, .guard⟩ (by simp) rfl) (.con (.bool true)) (by rw [HV.out]; rfl) _ rfl
                obtain rfl : x48 = .pointer (some ⟨w.heap.size, 2, none⟩) := h.get 11 (hw _ rfl ⟨11, .data⟩ (by simp) rfl) (.con (.pointer (some ⟨w.heap.size, 2, none⟩))) (by rw [HV.out]; rfl) _ rfl
                obtain ⟨g2, e0, e1, e2, e3, y0⟩ := HCJ.out w' h.1
                refine wpOp_step rfl fun K hK => ?_
                go_simp
                exact hK _ _ ⟨x37, x38, x39, x40, x41, x42, x43, x44, x45, x46, _, _, _, x50, x51, x52, x53, x54, x55, x56, x57, x58, x59, x60, x61, x62, rfl, h.same 12 _ (.con (.slice (some ⟨b, off, none⟩) l.length c)) (by rw [HV.out]; rfl) rfl⟩
              · obtain rfl : x47 = .bool true := h.get 10 (hw _ rfl ⟨10, .guard⟩ (by simp) rfl) (.con (.bool true)) (by rw [HV.out]; rfl) _ rfl
                refine wpOp_step rfl fun K hK => ?_
                go_simp
                exact hK _ _ ⟨x37, x38, x39, x40, x41, x42, x43, x44, x45, x46, _, x48, x49, _, x51, x52, x53, x54, x55, x56, x57, x58, x59, x60, x61, x62, rfl, h.same 13 _ (.con (.int .i64 (k : Int))) (by rw [HV.out]; rfl) rfl⟩
              · obtain rfl : x47 = .bool true := h.get 10 (hw _ rfl ⟨10, .guard⟩ (by simp) rfl) (.con (.bool true)) (by rw [HV.out]; rfl) _ rfl
                obtain rfl : x50 = .int .i64 (k : Int) := h.get 13 (hw _ rfl ⟨13, .data⟩ (by simp) rfl) (.con (.int .i64 (k : Int))) (by rw [HV.out]; rfl) _ rfl
                refine wpOp_step rfl fun K hK => ?_
                go_simp
                exact hK _ _ ⟨x37, x38, x39, x40, x41, x42, x43, x44, x45, x46, _, x48, x49, _, _, x52, x53, x54, x55, x56, x57, x58, x59, x60, x61, x62, rfl, h.same 14 _ (.con (.int .i64 (j : Int))) (by rw [HV.out]; rfl) HWJ.out⟩
              · obtain rfl : x47 = .bool true := h.get 10 (hw _ rfl ⟨10, .guard⟩ (by simp) rfl) (.con (.bool true)) (by rw [HV.out]; rfl) _ rfl
                obtain rfl : x49 = .slice (some ⟨b, off, none⟩) l.length c := h.get 12 (hw _ rfl ⟨12, .data⟩ (by simp) rfl) (.con (.slice (some ⟨b, off, none⟩) l.length c)) (by rw [HV.out]; rfl) _ rfl
                obtain rfl : x51 = .int .i64 (j : Int) := h.get 14 (hw _ rfl ⟨14, .data⟩ (by simp) rfl) (.con (.int .i64 (j : Int))) (by rw [HV.out]; rfl) _ rfl
                obtain ⟨g2, e0, e1, e2, e3, y0⟩ := HCJ.out w' h.1
                refine wpOp_step rfl fun K hK => ?_
                go_simp
                exact hK _ _ ⟨x37, x38, x39, x40, x41, x42, x43, x44, x45, x46, _, x48, _, x50, _, _, x53, x54, x55, x56, x57, x58, x59, x60, x61, x62, rfl, h.same 15 _ (.con (.pointer (some ⟨b, off + j * 4, none⟩))) (by rw [HV.out]; rfl) rfl⟩
              · obtain rfl : x47 = .bool true := h.get 10 (hw _ rfl ⟨10, .guard⟩ (by simp) rfl) (.con (.bool true)) (by rw [HV.out]; rfl) _ rfl
                obtain rfl : x52 = .pointer (some ⟨b, off + j * 4, none⟩) := h.get 15 (hw _ rfl ⟨15, .data⟩ (by simp) rfl) (.con (.pointer (some ⟨b, off + j * 4, none⟩))) (by rw [HV.out]; rfl) _ rfl
                refine wpOp_step rfl fun K hK => ?_
                go_simp
                exact hK _ _ ⟨x37, x38, x39, x40, x41, x42, x43, x44, x45, x46, _, x48, x49, x50, x51, _, _, x54, x55, x56, x57, x58, x59, x60, x61, x62, rfl, h.same 16 _ (.con (.pointer (some ⟨b, off + j * 4, none⟩))) (by rw [HV.out]; rfl) rfl⟩
              · obtain rfl : x47 = .bool true := h.get 10 (hw _ rfl ⟨10, .guard⟩ (by simp) rfl) (.con (.bool true)) (by rw [HV.out]; rfl) _ rfl
                obtain rfl : x53 = .pointer (some ⟨b, off + j * 4, none⟩) := h.get 16 (hw _ rfl ⟨16, .data⟩ (by simp) rfl) (.con (.pointer (some ⟨b, off + j * 4, none⟩))) (by rw [HV.out]; rfl) _ rfl
                obtain ⟨g2, e0, e1, e2, e3, y0⟩ := HCJ.out w' h.1
                refine wpOp_step rfl fun K hK => ?_
                go_simp
                exact hK _ _ ⟨x37, x38, x39, x40, x41, x42, x43, x44, x45, x46, _, x48, x49, x50, x51, x52, _, _, x55, x56, x57, x58, x59, x60, x61, x62, rfl, h.same 17 _ (.con (.string pv)) (by rw [HV.out]; rfl) rfl⟩
              · obtain rfl : x47 = .bool true := h.get 10 (hw _ rfl ⟨10, .guard⟩ (by simp) rfl) (.con (.bool true)) (by rw [HV.out]; rfl) _ rfl
                refine wpOp_step rfl fun K hK => ?_
                go_simp
                exact hK _ _ ⟨x37, x38, x39, x40, x41, x42, x43, x44, x45, x46, _, x48, x49, x50, x51, x52, x53, x54, _, x56, x57, x58, x59, x60, x61, x62, rfl, h.same 18 _ (.con (.pointer (some ⟨w.heap.size, 2, none⟩))) (by rw [HV.out]; rfl) rfl⟩
              · obtain rfl : x47 = .bool true := h.get 10 (hw _ rfl ⟨10, .guard⟩ (by simp) rfl) (.con (.bool true)) (by rw [HV.out]; rfl) _ rfl
                obtain rfl : x55 = .pointer (some ⟨w.heap.size, 2, none⟩) := h.get 18 (hw _ rfl ⟨18, .data⟩ (by simp) rfl) (.con (.pointer (some ⟨w.heap.size, 2, none⟩))) (by rw [HV.out]; rfl) _ rfl
                obtain ⟨g2, e0, e1, e2, e3, y0⟩ := HCJ.out w' h.1
                refine wpOp_step rfl fun K hK => ?_
                go_simp
                exact hK _ _ ⟨x37, x38, x39, x40, x41, x42, x43, x44, x45, x46, _, x48, x49, x50, x51, x52, x53, x54, _, _, x57, x58, x59, x60, x61, x62, rfl, h.same 19 _ (.con (.slice (some ⟨b, off, none⟩) l.length c)) (by rw [HV.out]; rfl) rfl⟩
              · obtain rfl : x47 = .bool true := h.get 10 (hw _ rfl ⟨10, .guard⟩ (by simp) rfl) (.con (.bool true)) (by rw [HV.out]; rfl) _ rfl
                refine wpOp_step rfl fun K hK => ?_
                go_simp
                exact hK _ _ ⟨x37, x38, x39, x40, x41, x42, x43, x44, x45, x46, _, x48, x49, x50, x51, x52, x53, x54, x55, x56, _, x58, x59, x60, x61, x62, rfl, h.same 20 _ (.con (.int .i64 (k : Int))) (by rw [HV.out]; rfl) rfl⟩
              · obtain rfl : x47 = .bool true := h.get 10 (hw _ rfl ⟨10, .guard⟩ (by simp) rfl) (.con (.bool true)) (by rw [HV.out]; rfl) _ rfl
                obtain rfl : x56 = .slice (some ⟨b, off, none⟩) l.length c := h.get 19 (hw _ rfl ⟨19, .data⟩ (by simp) rfl) (.con (.slice (some ⟨b, off, none⟩) l.length c)) (by rw [HV.out]; rfl) _ rfl
                obtain rfl : x57 = .int .i64 (k : Int) := h.get 20 (hw _ rfl ⟨20, .data⟩ (by simp) rfl) (.con (.int .i64 (k : Int))) (by rw [HV.out]; rfl) _ rfl
                obtain ⟨g2, e0, e1, e2, e3, y0⟩ := HCJ.out w' h.1
                refine wpOp_step rfl fun K hK => ?_
                go_simp
                exact hK _ _ ⟨x37, x38, x39, x40, x41, x42, x43, x44, x45, x46, _, x48, x49, x50, x51, x52, x53, x54, x55, _, _, _, x59, x60, x61, x62, rfl, h.same 21 _ (.con (.pointer (some ⟨b, off + k * 4, none⟩))) (by rw [HV.out]; rfl) rfl⟩
              · obtain rfl : x47 = .bool true := h.get 10 (hw _ rfl ⟨10, .guard⟩ (by simp) rfl) (.con (.bool true)) (by rw [HV.out]; rfl) _ rfl
                obtain rfl : x58 = .pointer (some ⟨b, off + k * 4, none⟩) := h.get 21 (hw _ rfl ⟨21, .data⟩ (by simp) rfl) (.con (.pointer (some ⟨b, off + k * 4, none⟩))) (by rw [HV.out]; rfl) _ rfl
                refine wpOp_step rfl fun K hK => ?_
                go_simp
                exact hK _ _ ⟨x37, x38, x39, x40, x41, x42, x43, x44, x45, x46, _, x48, x49, x50, x51, x52, x53, x54, x55, x56, x57, _, _, x60, x61, x62, rfl, h.same 22 _ (.con (.pointer (some ⟨b, off + k * 4, none⟩))) (by rw [HV.out]; rfl) rfl⟩
              · obtain rfl : x47 = .bool true := h.get 10 (hw _ rfl ⟨10, .guard⟩ (by simp) rfl) (.con (.bool true)) (by rw [HV.out]; rfl) _ rfl
                obtain rfl : x59 = .pointer (some ⟨b, off + k * 4, none⟩) := h.get 22 (hw _ rfl ⟨22, .data⟩ (by simp) rfl) (.con (.pointer (some ⟨b, off + k * 4, none⟩))) (by rw [HV.out]; rfl) _ rfl
                obtain ⟨g2, e0, e1, e2, e3, y0⟩ := HCJ.out w' h.1
                refine wpOp_step rfl fun K hK => ?_
                go_simp
                exact hK _ _ ⟨x37, x38, x39, x40, x41, x42, x43, x44, x45, x46, _, x48, x49, x50, x51, x52, x53, x54, x55, x56, x57, x58, _, _, x61, x62, rfl, h.same 23 _ (.con (.string nm)) (by rw [HV.out]; rfl) rfl⟩
              · obtain rfl : x47 = .bool true := h.get 10 (hw _ rfl ⟨10, .guard⟩ (by simp) rfl) (.con (.bool true)) (by rw [HV.out]; rfl) _ rfl
                obtain rfl : x54 = .string pv := h.get 17 (hw _ rfl ⟨17, .data⟩ (by simp) rfl) (.con (.string pv)) (by rw [HV.out]; rfl) _ rfl
                obtain rfl : x60 = .string nm := h.get 23 (hw _ rfl ⟨23, .data⟩ (by simp) rfl) (.con (.string nm)) (by rw [HV.out]; rfl) _ rfl
                refine wpOp_step rfl fun K hK => ?_
                go_simp
                exact hK _ _ ⟨x37, x38, x39, x40, x41, x42, x43, x44, x45, x46, _, x48, x49, x50, x51, x52, x53, _, x55, x56, x57, x58, x59, _, _, x62, rfl, h.same 24 _ (.con (.bool false)) (by rw [HV.out]; rfl) rfl⟩
              · obtain rfl : x44 = .bool false := h.get 7 (hw _ rfl ⟨7, .guard⟩ (by simp) rfl) (.con (.bool false)) (by rw [HV.out]; rfl) _ rfl
                obtain rfl : x47 = .bool true := h.get 10 (hw _ rfl ⟨10, .data⟩ (by simp) rfl) (.con (.bool true)) (by rw [HV.out]; rfl) _ rfl
                obtain rfl : x61 = .bool false := h.get 24 (hw _ rfl ⟨24, .data⟩ (by simp) rfl) (.con (.bool false)) (by rw [HV.out]; rfl) _ rfl
                refine wpOp_step rfl fun K hK => ?_
                go_simp
                exact hK _ _ ⟨x37, x38, x39, x40, x41, x42, x43, _, x45, x46, _, x48, x49, x50, x51, x52, x53, x54, x55, x56, x57, x58, x59, x60, _, _, rfl, h.same 25 _ (.con (.bool false)) (by rw [HV.out]; rfl) rfl⟩
              · omega
            case last =>
              rintro d a' w' hall ⟨x37, x38, x39, x40, x41, x42, x43, x44, x45, x46, x47, x48, x49, x50, x51, x52, x53, x54, x55, x56, x57, x58, x59, x60, x61, x62, rfl, h⟩
              have hle := h.1
              obtain rfl : x44 = .bool false := h.get 7 (hall _ (by omega)) (.con (.bool false)) (by rw [HV.out]; rfl) _ rfl
              obtain rfl : x62 = .bool false := h.get 25 (hall _ (by omega)) (.con (.bool false)) (by rw [HV.out]; rfl) _ rfl
              have HLE := Lib.hid hle
              clear h hall hle HV
              go_wp2
              go_roundw
              case rel =>
                refine ⟨k + 1, by omega, by go_num, fun i hi hik => ?_, fun i h1 hi hik => ?_, HB.out.trans (HLE.out.mono HB.out.size)⟩
                · by_cases e : i = k
                  · subst e; exact HMK.out
                  · exact HAL.out i hi (by omega)
                · by_cases e : i = k
                  · subst e; simp only [show i - 1 = j by have := HJ.out; omega]; rw [← HPP.out, ← HPK.out]; exact HLS.out
                  · exact HRI.out i h1 hi (by omega)
              case measure => simp [intOf]; omega
    · have HX := Lib.hid (maySnap_all HV.out HEX.out HL.out (fun j hj => HAL.out j hj (by omega)) (fun j h1 hj => HRI.out j h1 hj (by omega)))
      go_wp2
      go_ret
      exact ⟨ret_bool HX.out.symm, HBW.out⟩
end Go.Proofs.YtgghgcilpfdbjaaGreatDoor
