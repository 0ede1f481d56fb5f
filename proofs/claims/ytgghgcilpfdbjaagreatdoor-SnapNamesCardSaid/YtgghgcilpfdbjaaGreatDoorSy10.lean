/- The contracts of legatelaw21.LongHashes and legatelaw23.LongPin: what is not long is few, and short. -/
import Derived.Test.YtgghgcilpfdbjaaGreatDoorSy09
import Derived.Test.YtgghgcilpfdbjaaGreatDoorSy02
import Derived.Test.YtgghgcilpfdbjaaGreatDoorSy01
import Derived.Test.YtgghgcilpfdbjaaGreatDoorSy08
import Derived.Test.YtgghgcilpfdbjaaGreatDoorSy00
import Derived.Deep.Cut
import Derived.WalkKit
import Derived.WalkSpells
import Derived.WalkLawsBesides

namespace Go.Proofs.YtgghgcilpfdbjaaGreatDoor
open Go.RowKit
set_option maxHeartbeats 4000000 in
set_option maxRecDepth 100000 in
theorem ref23Same (v e : Int) (l : List PinV) (a b : Option Addr) (c0 d0 : Nat) (w : World) (hA : PinsAt w 0 w.heap.size a l) (hB : PinsAt w 0 w.heap.size b l) (hf : ∀ p ∈ l, PinFits p) (hl : l.length ≤ 9223372036854775807) :
   Calls Tryz.prog 24 #[.agg #[.int .i64 v, .int .i64 e, .slice a l.length c0], .agg #[.int .i64 v, .int .i64 e, .slice b l.length d0]] w fun r w' => r = .returned (.bool true) ∧ Below w.heap.size w w' := by
 obtain ⟨W2, hW2⟩ : ∃ W2, W2 = (w.alloc (.cells #[.int .i64 v, .int .i64 e, .slice a l.length c0] 24)).alloc (.cells #[.int .i64 v, .int .i64 e, .slice b l.length d0] 24) := ⟨_, rfl⟩
 have hb2 : Below w.heap.size w W2 := by rw [hW2]; exact ((Below.refl _ _).alloc (Nat.le_refl _) _).alloc (by simp) _
 have hx : W2.heap[w.heap.size]? = some (.cells #[.int .i64 v, .int .i64 e, .slice a l.length c0] 24 (0, 0)) := by rw [hW2, Below.heap_alloc _ _ _ (by simp)]; exact heap_alloc_new w _
 have hy : W2.heap[w.heap.size + 1]? = some (.cells #[.int .i64 v, .int .i64 e, .slice b l.length d0] 24 (0, 0)) := by
   have := heap_alloc_new (w.alloc (.cells #[.int .i64 v, .int .i64 e, .slice a l.length c0] 24)) (.cells #[.int .i64 v, .int .i64 e, .slice b l.length d0] 24)
   rw [show (w.alloc (.cells #[.int .i64 v, .int .i64 e, .slice a l.length c0] 24)).heap.size = w.heap.size + 1 by simp, ← hW2] at this
   exact this
 have HC := Lib.hid (show ∀ w' : World, Below W2.heap.size W2 w' → w'.cell? ⟨w.heap.size, 0, none⟩ = some (.int .i64 v) ∧ w'.cell? ⟨w.heap.size, 1, none⟩ = some (.int .i64 e) ∧ w'.cell? ⟨w.heap.size, 2, none⟩ = some (.slice a l.length c0) ∧ w'.cell? ⟨w.heap.size + 1, 0, none⟩ = some (.int .i64 v) ∧ w'.cell? ⟨w.heap.size + 1, 1, none⟩ = some (.int .i64 e) ∧ w'.cell? ⟨w.heap.size + 1, 2, none⟩ = some (.slice b l.length d0) from fun w' h => by
   have x := (h.block _ (heap_lt hx)).trans hx
   have y := (h.block _ (heap_lt hy)).trans hy
   exact ⟨box_cell x rfl, box_cell x rfl, box_cell x rfl, box_cell y rfl, box_cell y rfl, box_cell y rfl⟩)
 have HA := Lib.hid (hA.below hb2 (Nat.le_refl _) (Nat.le_refl _) hb2.size)
 have HBb := Lib.hid (hB.below hb2 (Nat.le_refl _) (Nat.le_refl _) hb2.size)
 have HF := Lib.hid hf
 have HB2 := Lib.hid hb2
 have HW := Lib.hid hW2
 clear hA hB hf hb2 hx hy hW2
 obtain ⟨q0, q1, q2, q3, q4, q5⟩ := HC.out W2 (Below.refl _ _)
 go_enter Tryz.func24, Tryz.ntmps24
 go_upto_region 1 with fail
 rw [← HW.out]
 go_wp2
 clear q0 q1 q2 q3 q4 q5
 go_loopw [5] (fun i wr => ∃ k : Nat, k ≤ l.length ∧ i = .int .i64 k ∧ Below W2.heap.size W2 wr) (fun i _ => l.length - (intOf i).toNat)
 case atStart => exact ⟨0, by omega, rfl, Below.refl _ _⟩
 case round =>
   obtain ⟨k, hk, rfl, hb⟩ := hrel
   have HB := Lib.hid hb
   obtain ⟨q0, q1, q2, q3, q4, q5⟩ := HC.out wr HB.out
   by_cases hlt : k < l.length
   · obtain ⟨b1, o1, ha1, _, _, -⟩ := (HA.out.below hb (Nat.le_refl _) (Nat.le_refl _) hb.size).at k hlt
     obtain ⟨b2, o2, ha2, _, _, -⟩ := (HBb.out.below hb (Nat.le_refl _) (Nat.le_refl _) hb.size).at k hlt
     subst ha1 ha2
     obtain ⟨_, _, _, f4, _⟩ := HF.out l[k] (List.getElem_mem hlt)
     obtain ⟨p, hp⟩ : ∃ p, p = l[k] := ⟨_, rfl⟩
     rw [← hp] at f4
     obtain ⟨nm, vr, ln, hs⟩ := p
     have xx := (HA.out.below hb (Nat.le_refl _) (Nat.le_refl _) hb.size).at k hlt
     have yy := (HBb.out.below hb (Nat.le_refl _) (Nat.le_refl _) hb.size).at k hlt
     rw [← hp] at xx yy
     obtain ⟨b1', o1', ha1', _, hbl1, e0, e1, e2, hh, hc, e3, _, hk1⟩ := xx
     obtain ⟨b2', o2', ha2', _, hbl2, y0, y1, y2, gh, gc, y3, _, hk2⟩ := yy
     cases ha1'
     cases ha2'
     have HPP := Lib.hid (show ∀ w' : World, Below wr.heap.size wr w' → (w'.cell? ⟨w.heap.size, 2, none⟩ = some (.slice (some ⟨b1, o1, none⟩) l.length c0) ∧ w'.cell? ⟨w.heap.size + 1, 2, none⟩ = some (.slice (some ⟨b2, o2, none⟩) l.length d0)) ∧ w'.cell? ⟨b1, o1 + k * 4, none⟩ = some (.string nm) ∧ w'.cell? ⟨b1, o1 + k * 4 + 1, none⟩ = some (.int .i64 vr) ∧ w'.cell? ⟨b1, o1 + k * 4 + 2, none⟩ = some (.int .i64 ln) ∧ w'.cell? ⟨b1, o1 + k * 4 + 3, none⟩ = some (.slice hh hs.length hc) ∧ w'.cell? ⟨b2, o2 + k * 4, none⟩ = some (.string nm) ∧ w'.cell? ⟨b2, o2 + k * 4 + 1, none⟩ = some (.int .i64 vr) ∧ w'.cell? ⟨b2, o2 + k * 4 + 2, none⟩ = some (.int .i64 ln) ∧ w'.cell? ⟨b2, o2 + k * 4 + 3, none⟩ = some (.slice gh hs.length gc) from fun w' h => ⟨by
       have z := HC.out w' (HB.out.trans (h.mono HB.out.size))
       exact ⟨z.2.2.1, z.2.2.2.2.2⟩, by rw [h.cell hbl1]; exact e0, by rw [h.cell hbl1]; exact e1, by rw [h.cell hbl1]; exact e2, by rw [h.cell hbl1]; exact e3, by rw [h.cell hbl2]; exact y0, by rw [h.cell hbl2]; exact y1, by rw [h.cell hbl2]; exact y2, by rw [h.cell hbl2]; exact y3⟩)
     have HSP := Lib.hid (show ∀ w' : World, Below wr.heap.size wr w' → Calls Tryz.prog 20 #[.agg #[.string nm, .int .i64 vr, .int .i64 ln, .slice hh hs.length hc], .agg #[.string nm, .int .i64 vr, .int .i64 ln, .slice gh hs.length gc]] w' (fun e w'' => e = .returned (.bool true) ∧ Below w'.heap.size w' w'') from fun w' h => ref23SamePin nm vr ln hs hh gh hc gc w' (hk1.below h (Nat.le_refl _) (Nat.le_refl _) h.size) (hk2.below h (Nat.le_refl _) (Nat.le_refl _) h.size) (by unfold maxLen at f4; exact f4))
     clear e0 e1 e2 e3 y0 y1 y2 y3 hk1 hk2 f4 hp hb
     clear q0 q1 q3 q4
     go_upto_region 6 with fail
     clear q2 q5
     obtain ⟨V, hV⟩ : ∃ V : List MP, V = [.con (.pointer (some ⟨w.heap.size, 2, none⟩)), .con (.slice (some ⟨b1, o1, none⟩) l.length c0), .con (.int .i64 (k : Int)), .con (.pointer (some ⟨b1, o1 + k * 4, none⟩)), .con (.agg #[.string nm, .int .i64 vr, .int .i64 ln, .slice hh hs.length hc]), .con (.pointer (some ⟨w.heap.size + 1, 2, none⟩)), .con (.slice (some ⟨b2, o2, none⟩) l.length d0), .con (.int .i64 (k : Int)), .con (.pointer (some ⟨b2, o2 + k * 4, none⟩)), .con (.agg #[.string nm, .int .i64 vr, .int .i64 ln, .slice gh hs.length gc]), .con (.bool true)] := ⟨_, rfl⟩
     have HV := Lib.hid hV
     clear hV
     refine wp_region_inv 11 (fun d a' w' => ∃ x34 x35 x36 x37 x38 x39 x40 x41 x42 x43 x44, a' = ⟨#[Value.agg #[Value.int IntKind.i64 v, Value.int IntKind.i64 e, Value.slice (some { block := b1, off := o1 }) l.length c0], Value.agg #[Value.int IntKind.i64 v, Value.int IntKind.i64 e, Value.slice (some { block := b2, off := o2 }) l.length d0], Value.pointer (some { block := w.heap.size, off := 0 }), Value.pointer (some { block := w.heap.size + 1, off := 0 }), u4, Value.int IntKind.i64 (k : Int), Value.pointer (some { block := w.heap.size, off := 0 }), Value.int IntKind.i64 v, Value.pointer (some { block := w.heap.size + 1, off := 0 }), Value.int IntKind.i64 v, Value.bool false, Value.bool false, Value.pointer (some { block := w.heap.size, off := 1 }), Value.int IntKind.i64 e, Value.pointer (some { block := w.heap.size + 1, off := 1 }), Value.int IntKind.i64 e, Value.bool false, Value.bool false, Value.bool false, Value.pointer (some { block := w.heap.size, off := 2 }), Value.slice (some { block := b1, off := o1 }) l.length c0, Value.int IntKind.i64 (l.length : Int), Value.pointer (some { block := w.heap.size + 1, off := 2 }), Value.slice (some { block := b2, off := o2 }) l.length d0, Value.int IntKind.i64 (l.length : Int), Value.bool false, Value.bool false, Value.int IntKind.i64 (k : Int), Value.pointer (some { block := w.heap.size, off := 2 }), Value.slice (some { block := b1, off := o1 }) l.length c0, Value.int IntKind.i64 (l.length : Int), Value.bool true, u32, u33, x34, x35, x36, x37, x38, x39, x40, x41, x42, x43, x44, u45], []⟩ ∧ RegI wr V d w' [x34, x35, x36, x37, x38, x39, x40, x41, x42, x43, x44]) (by kernel_rfl) (by kernel_rfl) ?first ?step ?last
     case first => exact ⟨_, _, _, _, _, _, _, _, _, _, _, rfl, RegI.first _ _ _ (by rw [HV.out]; rfl)⟩
     case step =>
       rintro d a' w' ⟨x34, x35, x36, x37, x38, x39, x40, x41, x42, x43, x44, rfl, h⟩ q hq hn hw
       rcases q with _ | _ | _ | _ | _ | _ | _ | _ | _ | _ | _ | q
       · refine wpOp_step rfl fun K hK => ?_
         go_simp
         exact hK _ _ ⟨_, x35, x36, x37, x38, x39, x40, x41, x42, x43, x44, rfl, h.same 0 _ (.con (.pointer (some ⟨w.heap.size, 2, none⟩))) (by rw [HV.out]; rfl) rfl⟩
       · obtain rfl : x34 = .pointer (some ⟨w.heap.size, 2, none⟩) := h.get 0 (hw _ rfl ⟨0, .data⟩ (by simp) rfl) (.con (.pointer (some ⟨w.heap.size, 2, none⟩))) (by rw [HV.out]; rfl) _ rfl
         obtain ⟨⟨g2, g5⟩, e0, e1, e2, e3, y0, y1, y2, y3⟩ := HPP.out w' h.1
         refine wpOp_step rfl fun K hK => ?_
         go_simp
         exact hK _ _ ⟨_, _, x36, x37, x38, x39, x40, x41, x42, x43, x44, rfl, h.same 1 _ (.con (.slice (some ⟨b1, o1, none⟩) l.length c0)) (by rw [HV.out]; rfl) rfl⟩
       · refine wpOp_step rfl fun K hK => ?_
         go_simp
         exact hK _ _ ⟨x34, x35, _, x37, x38, x39, x40, x41, x42, x43, x44, rfl, h.same 2 _ (.con (.int .i64 (k : Int))) (by rw [HV.out]; rfl) rfl⟩
       · obtain rfl : x35 = .slice (some ⟨b1, o1, none⟩) l.length c0 := h.get 1 (hw _ rfl ⟨1, .data⟩ (by simp) rfl) (.con (.slice (some ⟨b1, o1, none⟩) l.length c0)) (by rw [HV.out]; rfl) _ rfl
         obtain rfl : x36 = .int .i64 (k : Int) := h.get 2 (hw _ rfl ⟨2, .data⟩ (by simp) rfl) (.con (.int .i64 (k : Int))) (by rw [HV.out]; rfl) _ rfl
         obtain ⟨⟨g2, g5⟩, e0, e1, e2, e3, y0, y1, y2, y3⟩ := HPP.out w' h.1
         refine wpOp_step rfl fun K hK => ?_
         go_simp
         exact hK _ _ ⟨x34, _, _, _, x38, x39, x40, x41, x42, x43, x44, rfl, h.same 3 _ (.con (.pointer (some ⟨b1, o1 + k * 4, none⟩))) (by rw [HV.out]; rfl) rfl⟩
       · obtain rfl : x37 = .pointer (some ⟨b1, o1 + k * 4, none⟩) := h.get 3 (hw _ rfl ⟨3, .data⟩ (by simp) rfl) (.con (.pointer (some ⟨b1, o1 + k * 4, none⟩))) (by rw [HV.out]; rfl) _ rfl
         obtain ⟨⟨g2, g5⟩, e0, e1, e2, e3, y0, y1, y2, y3⟩ := HPP.out w' h.1
         refine wpOp_step rfl fun K hK => ?_
         go_simp
         exact hK _ _ ⟨x34, x35, x36, _, _, x39, x40, x41, x42, x43, x44, rfl, h.same 4 _ (.con (.agg #[.string nm, .int .i64 vr, .int .i64 ln, .slice hh hs.length hc])) (by rw [HV.out]; rfl) rfl⟩
       · refine wpOp_step rfl fun K hK => ?_
         go_simp
         exact hK _ _ ⟨x34, x35, x36, x37, x38, _, x40, x41, x42, x43, x44, rfl, h.same 5 _ (.con (.pointer (some ⟨w.heap.size + 1, 2, none⟩))) (by rw [HV.out]; rfl) rfl⟩
       · obtain rfl : x39 = .pointer (some ⟨w.heap.size + 1, 2, none⟩) := h.get 5 (hw _ rfl ⟨5, .data⟩ (by simp) rfl) (.con (.pointer (some ⟨w.heap.size + 1, 2, none⟩))) (by rw [HV.out]; rfl) _ rfl
         obtain ⟨⟨g2, g5⟩, e0, e1, e2, e3, y0, y1, y2, y3⟩ := HPP.out w' h.1
         refine wpOp_step rfl fun K hK => ?_
         go_simp
         exact hK _ _ ⟨x34, x35, x36, x37, x38, _, _, x41, x42, x43, x44, rfl, h.same 6 _ (.con (.slice (some ⟨b2, o2, none⟩) l.length d0)) (by rw [HV.out]; rfl) rfl⟩
       · refine wpOp_step rfl fun K hK => ?_
         go_simp
         exact hK _ _ ⟨x34, x35, x36, x37, x38, x39, x40, _, x42, x43, x44, rfl, h.same 7 _ (.con (.int .i64 (k : Int))) (by rw [HV.out]; rfl) rfl⟩
       · obtain rfl : x40 = .slice (some ⟨b2, o2, none⟩) l.length d0 := h.get 6 (hw _ rfl ⟨6, .data⟩ (by simp) rfl) (.con (.slice (some ⟨b2, o2, none⟩) l.length d0)) (by rw [HV.out]; rfl) _ rfl
         obtain rfl : x41 = .int .i64 (k : Int) := h.get 7 (hw _ rfl ⟨7, .data⟩ (by simp) rfl) (.con (.int .i64 (k : Int))) (by rw [HV.out]; rfl) _ rfl
         obtain ⟨⟨g2, g5⟩, e0, e1, e2, e3, y0, y1, y2, y3⟩ := HPP.out w' h.1
         refine wpOp_step rfl fun K hK => ?_
         go_simp
         exact hK _ _ ⟨x34, x35, x36, x37, x38, x39, _, _, _, x43, x44, rfl, h.same 8 _ (.con (.pointer (some ⟨b2, o2 + k * 4, none⟩))) (by rw [HV.out]; rfl) rfl⟩
       · obtain rfl : x42 = .pointer (some ⟨b2, o2 + k * 4, none⟩) := h.get 8 (hw _ rfl ⟨8, .data⟩ (by simp) rfl) (.con (.pointer (some ⟨b2, o2 + k * 4, none⟩))) (by rw [HV.out]; rfl) _ rfl
         obtain ⟨⟨g2, g5⟩, e0, e1, e2, e3, y0, y1, y2, y3⟩ := HPP.out w' h.1
         refine wpOp_step rfl fun K hK => ?_
         go_simp
         exact hK _ _ ⟨x34, x35, x36, x37, x38, x39, x40, x41, _, _, x44, rfl, h.same 9 _ (.con (.agg #[.string nm, .int .i64 vr, .int .i64 ln, .slice gh hs.length gc])) (by rw [HV.out]; rfl) rfl⟩
       · obtain rfl : x38 = .agg #[.string nm, .int .i64 vr, .int .i64 ln, .slice hh hs.length hc] := h.get 4 (hw _ rfl ⟨4, .data⟩ (by simp) rfl) (.con (.agg #[.string nm, .int .i64 vr, .int .i64 ln, .slice hh hs.length hc])) (by rw [HV.out]; rfl) _ rfl
         obtain rfl : x43 = .agg #[.string nm, .int .i64 vr, .int .i64 ln, .slice gh hs.length gc] := h.get 9 (hw _ rfl ⟨9, .data⟩ (by simp) rfl) (.con (.agg #[.string nm, .int .i64 vr, .int .i64 ln, .slice gh hs.length gc])) (by rw [HV.out]; rfl) _ rfl
         obtain ⟨⟨g2, g5⟩, e0, e1, e2, e3, y0, y1, y2, y3⟩ := HPP.out w' h.1
         refine wpOp_step rfl fun K hK => ?_
         go_simp
         refine (HSP.out w' h.1).mono ?_
         rintro e w2 ⟨rfl, hb2⟩
         exact hK _ _ ⟨x34, x35, x36, x37, _, x39, x40, x41, x42, _, _, rfl, h.did hb2 10 _ (.con (.bool true)) (by rw [HV.out]; rfl) rfl⟩
       · omega
     case last =>
       rintro d a' w' hall ⟨x34, x35, x36, x37, x38, x39, x40, x41, x42, x43, x44, rfl, h⟩
       have hle := h.1
       obtain rfl : x44 = .bool true := h.get 10 (hall _ (by omega)) (.con (.bool true)) (by rw [HV.out]; rfl) _ rfl
       have HLE := Lib.hid hle
       clear h hall hle HV
       go_wp2
       go_roundw
       case rel => exact ⟨k + 1, by omega, by go_num, HB.out.trans (HLE.out.mono HB.out.size)⟩
       case measure => simp [intOf]; omega
   · clear hb
     go_wp2
     go_ret
     exact ⟨rfl, HB2.out.trans (HB.out.mono HB2.out.size)⟩
end Go.Proofs.YtgghgcilpfdbjaaGreatDoor
