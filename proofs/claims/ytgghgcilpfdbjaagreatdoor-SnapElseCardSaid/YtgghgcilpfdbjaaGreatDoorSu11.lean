/- The contracts of legateref04.Len, legateref08.Text, legateref08.rise. -/
import Derived.Test.YtgghgcilpfdbjaaGreatDoorSu10
import Derived.Test.YtgghgcilpfdbjaaGreatDoorSu02
import Derived.Test.YtgghgcilpfdbjaaGreatDoorSu01
import Derived.Test.YtgghgcilpfdbjaaGreatDoorSu09
import Derived.Test.YtgghgcilpfdbjaaGreatDoorSu00
import Derived.Deep.Cut
import Derived.WalkKit
import Derived.WalkSpells
import Derived.WalkLawsBesides
import Derived.Test.YtgghgcilpfdbjaaGreatDoorSu08
import Derived.Laws.RangeString
import Derived.Test.YtgghgcilpfdbjaaGreatDoorSu07

namespace Go.Proofs.YtgghgcilpfdbjaaGreatDoor
open Go.RowKit
set_option maxHeartbeats 4000000 in
set_option maxRecDepth 100000 in
theorem ref23Same (v e : Int) (l : List PinV) (a b : Option Addr) (c0 d0 : Nat) (w : World) (hA : PinsAt w 0 w.heap.size a l) (hB : PinsAt w 0 w.heap.size b l) (hf : ∀ p ∈ l, PinFits p) (hl : l.length ≤ 9223372036854775807) :
   Calls Tryz.prog 24 #[.agg #[.int .i64 v, .int .i64 e, .slice a l.length c0], .agg #[.int .i64 v, .int .i64 e, .slice b l.length d0]] w fun r w' => r = .returned (.bool true) ∧ Below w.heap.size w w' := by
 obtain ⟨W2, hW2⟩ : ∃ W2, W2 = (w.alloc (.cells #[.int .i64 v, .int .i64 e, .slice a l.length c0] 24)).alloc (.cells #[.int .i64 v, .int .i64 e, .slice b l.length d0] 24) := ⟨_, rfl⟩
 have hb2 : Below w.heap.size w W2 := by rw [hW2]; exact ((Below.refl _ _).alloc (Nat.le_refl _) _).alloc (by simp) _
 have hx : W2.heap[w.heap.size]? = some (.cells #[.int .i64 v, .int .i64 e, .slice a l.length c0] 24 (0, 0)) := by rw [hW2, Below.heap_alloc _ _ _ (by simp)]; exact heap_alloc_new w _
 have hy : W2.heap[w.heap.size + 1]? = some (.cells #[.int .i64 v, .int .i64 e, .slice b l.length d0] 24 (0, 0)) := by
   have := heap_alloc_new (w.alloc (.cells #[.int .i64 v, .int .i64 e, .slice a l.length c0] 24)) (.cells #[.int .i64 v, .int .i64 e, .slice b l.length d0] 24)
   rw [show (w.alloc (.cells #[.int .i64 v, .int .i64 e, .slice a l.length c0] 24)).heap.size = w.heap.size + 1 by simp, ← hW2] at this
   exact this
 have HC := Lib.hid (show ∀ w' : World, Below W2.heap.size W2 w' → w'.cell? ⟨w.heap.size, 0, none⟩ = some (.int .i64 v) ∧ w'.cell? ⟨w.heap.size, 1, none⟩ = some (.int .i64 e) ∧ w'.cell? ⟨w.heap.size, 2, none⟩ = some (.slice a l.length c0) ∧ w'.cell? ⟨w.heap.size + 1, 0, none⟩ = some (.int .i64 v) ∧ w'.cell? ⟨w.heap.size + 1, 1, none⟩ = some (.int .i64 e) ∧ w'.cell? ⟨w.heap.size + 1, 2, none⟩ = some (.slice b l.length d0) from fun w' h => by
   have x := (h.block _ (heap_lt hx)).trans hx
   have y := (h.block _ (heap_lt hy)).trans hy
   exact ⟨box_cell x rfl, box_cell x rfl, box_cell x rfl, box_cell y rfl, box_cell y rfl, box_cell y rfl⟩)
 have HA := Lib.hid (hA.below hb2 (Nat.le_refl _) (Nat.le_refl _) hb2.size)
 have HBb := Lib.hid (hB.below hb2 (Nat.le_refl _) (Nat.le_refl _) hb2.size)
 have HF := Lib.hid hf
 have HB2 := Lib.hid hb2
 have HW := Lib.hid hW2
 clear hA hB hf hb2 hx hy hW2
 obtain ⟨q0, q1, q2, q3, q4, q5⟩ := HC.out W2 (Below.refl _ _)
 go_enter Tryz.func24, Tryz.ntmps24
 go_upto_region 1 with fail
 rw [← HW.out]
 go_wp2
 clear q0 q1 q2 q3 q4 q5
 go_loopw [5] (fun i wr => ∃ k : Nat, k ≤ l.length ∧ i = .int .i64 k ∧ Below W2.heap.size W2 wr) (fun i _ => l.length - (intOf i).toNat)
 case atStart => exact ⟨0, by omega, rfl, Below.refl _ _⟩
 case round =>
   obtain ⟨k, hk, rfl, hb⟩ := hrel
   have HB := Lib.hid hb
   obtain ⟨q0, q1, q2, q3, q4, q5⟩ := HC.out wr HB.out
   by_cases hlt : k < l.length
   · obtain ⟨b1, o1, ha1, _, _, -⟩ := (HA.out.below hb (Nat.le_refl _) (Nat.le_refl _) hb.size).at k hlt
     obtain ⟨b2, o2, ha2, _, _, -⟩ := (HBb.out.below hb (Nat.le_refl _) (Nat.le_refl _) hb.size).at k hlt
     subst ha1 ha2
     obtain ⟨_, _, _, f4, _⟩ := HF.out l[k] (List.getElem_mem hlt)
     obtain ⟨p, hp⟩ : ∃ p, p = l[k] := ⟨_, rfl⟩
     rw [← hp] at f4
     obtain ⟨nm, vr, ln, hs⟩ := p
     have xx := (HA.out.below hb (Nat.le_refl _) (Nat.le_refl _) hb.size).at k hlt
     have yy := (HBb.out.below hb (Nat.le_refl _) (Nat.le_refl _) hb.size).at k hlt
     rw [← hp] at xx yy
     obtain ⟨b1', o1', ha1', _, hbl1, e0, e1, e2, hh, hc, e3, _, hk1⟩ := xx
     obtain ⟨b2', o2', ha2', _, hbl2, y0, y1, y2, gh, gc, y3, _, hk2⟩ := yy
     cases ha1'
     cases ha2'
     have HPP := Lib.hid (show ∀ w' : World, Below wr.heap.size wr w' → (w'.cell? ⟨w.heap.size, 2, none⟩ = some (.slice (some ⟨b1, o1, none⟩) l.length c0) ∧ w'.cell? ⟨w.heap.size + 1, 2, none⟩ = some (.slice (some ⟨b2, o2, none⟩) l.length d0)) ∧ w'.cell? ⟨b1, o1 + k * 4, none⟩ = some (.string nm) ∧ w'.cell? ⟨b1, o1 + k * 4 + 1, none⟩ = some (.int .i64 vr) ∧ w'.cell? ⟨b1, o1 + k * 4 + 2, none⟩ = some (.int .i64 ln) ∧ w'.cell? ⟨b1, o1 + k * 4 + 3, none⟩ = some (.slice hh hs.length hc) ∧ w'.cell? ⟨b2, o2 + k * 4, none⟩ = some (.string nm) ∧ w'.cell? ⟨b2, o2 + k * 4 + 1, none⟩ = some (.int .i64 vr) ∧ w'.cell? ⟨b2, o2 + k * 4 + 2, none⟩ = some (.int .i64 ln) ∧ w'.cell? ⟨b2, o2 + k * 4 + 3, none⟩ = some (.slice gh hs.length gc) from fun w' h => ⟨by
       have z := HC.out w' (HB.out.trans (h.mono HB.out.size))
       exact ⟨z.2.2.1, z.2.2.2.2.2⟩, by rw [h.cell hbl1]; exact e0, by rw [h.cell hbl1]; exact e1, by rw [h.cell hbl1]; exact e2, by rw [h.cell hbl1]; exact e3, by rw [h.cell hbl2]; exact y0, by rw [h.cell hbl2]; exact y1, by rw [h.cell hbl2]; exact y2, by rw [h.cell hbl2]; exact y3⟩)
     have HSP := Lib.hid (show ∀ w' : World, Below wr.heap.size wr w' → Calls Tryz.prog 20 #[.agg #[.string nm, .int .i64 vr, .int .i64 ln, .slice hh hs.length hc], .agg #[.string nm, .int .i64 vr, .int .i64 ln, .slice gh hs.length gc]] w' (fun e w'' => e = .returned (.bool true) ∧ Below w'.heap.size w' w'') from fun w' h => ref23SamePin nm vr ln hs hh gh hc gc w' (hk1.below h (Nat.le_refl _) (Nat.le_refl _) h.size) (hk2.below h (Nat.le_refl _) (Nat.le_refl _) h.size) (by unfold maxLen at f4; exact f4))
     clear e0 e1 e2 e3 y0 y1 y2 y3 hk1 hk2 f4 hp hb
     clear q0 q1 q3 q4
     go_upto_region 6 with fail
     clear q2 q5
     obtain ⟨V, hV⟩ : ∃ V : List MP, V = [.con (.pointer (some ⟨w.heap.size, 2, none⟩)), .con (.slice (some ⟨b1, o1, none⟩) l.length c0), .con (.int .i64 (k : Int)), .con (.pointer (some ⟨b1, o1 + k * 4, none⟩)), .con (.agg #[.string nm, .int .i64 vr, .int .i64 ln, .slice hh hs.length hc]), .con (.pointer (some ⟨w.heap.size + 1, 2, none⟩)), .con (.slice (some ⟨b2, o2, none⟩) l.length d0), .con (.int .i64 (k : Int)), .con (.pointer (some ⟨b2, o2 + k * 4, none⟩)), .con (.agg #[.string nm, .int .i64 vr, .int .i64 ln, .slice gh hs.length gc]), .con (.bool true)] := ⟨_, rfl⟩
     have HV := Lib.hid hV
     clear hV
     refine wp_region_inv 11 (fun d a' w' => ∃ x34 x35 x36 x37 x38 x39 x40 x41 x42 x43 x44, a' = ⟨#[Value.agg #[Value.int IntKind.i64 v, Value.int IntKind.i64 e, Value.slice (some { block := b1, off := o1 }) l.length c0], Value.agg #[Value.int IntKind.i64 v, Value.int IntKind.i64 e, Value.slice (some { block := b2, off := o2 }) l.length d0], Value.pointer (some { block := w.heap.size, off := 0 }), Value.pointer (some { block := w.heap.size + 1, off := 0 }), u4, Value.int IntKind.i64 (k : Int), Value.pointer (some { block := w.heap.size, off := 0 }), Value.int IntKind.i64 v, Value.pointer (some { block := w.heap.size + 1, off := 0 }), Value.int IntKind.i64 v, Value.bool false, Value.bool false, Value.pointer (some { block := w.heap.size, off := 1 }), Value.int IntKind.i64 e, Value.pointer (some { block := w.heap.size + 1, off := 1 }), Value.int IntKind.i64 e, Value.bool false, Value.bool false, Value.bool false, Value.pointer (some { block := w.heap.size, off := 2 }), Value.slice (some { block := b1, off := o1 }) l.length c0, Value.int IntKind.i64 (l.length : Int), Value.pointer (some { block := w.heap.size + 1, off := 2 }), Value.slice (some { block := b2, off := o2 }) l.length d0, Value.int IntKind.i64 (l.length : Int), Value.bool false, Value.bool false, Value.int IntKind.i64 (k : Int), Value.pointer (some { block := w.heap.size, off := 2 }), Value.slice (some { block := b1, off := o1 }) l.length c0, Value.int IntKind.i64 (l.length : Int), Value.bool true, u32, u33, x34, x35, x36, x37, x38, x39, x40, x41, x42, x43, x44, u45], []⟩ ∧ RegI wr V d w' [x34, x35, x36, x37, x38, x39, x40, x41, x42, x43, x44]) (by kernel_rfl) (by kernel_rfl) ?first ?step ?last
     case first => exact ⟨_, _, _, _, _, _, _, _, _, _, _, rfl, RegI.first _ _ _ (by rw [HV.out]; rfl)⟩
     case step =>
       rintro d a' w' ⟨x34, x35, x36, x37, x38, x39, x40, x41, x42, x43, x44, rfl, h⟩ q hq hn hw
       rcases q with _ | _ | _ | _ | _ | _ | _ | _ | _ | _ | _ | q
       · refine wpOp_step rfl fun K hK => ?_
         go_simp
         exact hK _ _ ⟨_, x35, x36, x37, x38, x39, x40, x41, x42, x43, x44, rfl, h.same 0 _ (.con (.pointer (some ⟨w.heap.size, 2, none⟩))) (by rw [HV.out]; rfl) rfl⟩
       · obtain rfl : x34 = .pointer (some ⟨w.heap.size, 2, none⟩) := h.get 0 (hw _ rfl ⟨0, .data⟩ (by simp) rfl) (.con (.pointer (some ⟨w.heap.size, 2, none⟩))) (by rw [HV.out]; rfl) _ rfl
         obtain ⟨⟨g2, g5⟩, e0, e1, e2, e3, y0, y1, y2, y3⟩ := HPP.out w' h.1
         refine wpOp_step rfl fun K hK => ?_
         go_simp
         exact hK _ _ ⟨_, _, x36, x37, x38, x39, x40, x41, x42, x43, x44, rfl, h.same 1 _ (.con (.slice (some ⟨b1, o1, none⟩) l.length c0)) (by rw [HV.out]; rfl) rfl⟩
       · refine wpOp_step rfl fun K hK => ?_
         go_simp
         exact hK _ _ ⟨x34, x35, _, x37, x38, x39, x40, x41, x42, x43, x44, rfl, h.same 2 _ (.con (.int .i64 (k : Int))) (by rw [HV.out]; rfl) rfl⟩
       · obtain rfl : x35 = .slice (some ⟨b1, o1, none⟩) l.length c0 := h.get 1 (hw _ rfl ⟨1, .data⟩ (by simp) rfl) (.con (.slice (some ⟨b1, o1, none⟩) l.length c0)) (by rw [HV.out]; rfl) _ rfl
         obtain rfl : x36 = .int .i64 (k : Int) := h.get 2 (hw _ rfl ⟨2, .data⟩ (by simp) rfl) (.con (.int .i64 (k : Int))) (by rw [HV.out]; rfl) _ rfl
         obtain ⟨⟨g2, g5⟩, e0, e1, e2, e3, y0, y1, y2, y3⟩ := HPP.out w' h.1
         refine wpOp_step rfl fun K hK => ?_
         go_simp
         exact hK _ _ ⟨x34, _, _, _, x38, x39, x40, x41, x42, x43, x44, rfl, h.same 3 _ (.con (.pointer (some ⟨b1, o1 + k * 4, none⟩))) (by rw [HV.out]; rfl) rfl⟩
       · obtain rfl : x37 = .pointer (some ⟨b1, o1 + k * 4, none⟩) := h.get 3 (hw _ rfl ⟨3, .data⟩ (by simp) rfl) (.con (.pointer (some ⟨b1, o1 + k * 4, none⟩))) (by rw [HV.out]; rfl) _ rfl
         obtain ⟨⟨g2, g5⟩, e0, e1, e2, e3, y0, y1, y2, y3⟩ := HPP.out w' h.1
         refine wpOp_step rfl fun K hK => ?_
         go_simp
         exact hK _ _ ⟨x34, x35, x36, _, _, x39, x40, x41, x42, x43, x44, rfl, h.same 4 _ (.con (.agg #[.string nm, .int .i64 vr, .int .i64 ln, .slice hh hs.length hc])) (by rw [HV.out]; rfl) rfl⟩
       · refine wpOp_step rfl fun K hK => ?_
         go_simp
         exact hK _ _ ⟨x34, x35, x36, x37, x38, _, x40, x41, x42, x43, x44, rfl, h.same 5 _ (.con (.pointer (some ⟨w.heap.size + 1, 2, none⟩))) (by rw [HV.out]; rfl) rfl⟩
       · obtain rfl : x39 = .pointer (some ⟨w.heap.size + 1, 2, none⟩) := h.get 5 (hw _ rfl ⟨5, .data⟩ (by simp) rfl) (.con (.pointer (some ⟨w.heap.size + 1, 2, none⟩))) (by rw [HV.out]; rfl) _ rfl
         obtain ⟨⟨g2, g5⟩, e0, e1, e2, e3, y0, y1, y2, y3⟩ := HPP.out w' h.1
         refine wpOp_step rfl fun K hK => ?_
         go_simp
         exact hK _ _ ⟨x34, x35, x36, x37, x38, _, _, x41, x42, x43, x44, rfl, h.same 6 _ (.con (.slice (some ⟨b2, o2, none⟩) l.length d0)) (by rw [HV.out]; rfl) rfl⟩
       · refine wpOp_step rfl fun K hK => ?_
         go_simp
         exact hK _ _ ⟨x34, x35, x36, x37, x38, x39, x40, _, x42, x43, x44, rfl, h.same 7 _ (.con (.int .i64 (k : Int))) (by rw [HV.out]; rfl) rfl⟩
       · obtain rfl : x40 = .slice (some ⟨b2, o2, none⟩) l.length d0 := h.get 6 (hw _ rfl ⟨6, .data⟩ (by simp) rfl) (.con (.slice (some ⟨b2, o2, none⟩) l.length d0)) (by rw [HV.out]; rfl) _ rfl
         obtain rfl : x41 = .int .i64 (k : Int) := h.get 7 (hw _ rfl ⟨7, .data⟩ (by simp) rfl) (.con (.int .i64 (k : Int))) (by rw [HV.out]; rfl) _ rfl
         obtain ⟨⟨g2, g5⟩, e0, e1, e2, e3, y0, y1, y2, y3⟩ := HPP.out w' h.1
         refine wpOp_step rfl fun K hK => ?_
         go_simp
         exact hK _ _ ⟨x34, x35, x36, x37, x38, x39, _, _, _, x43, x44, rfl, h.same 8 _ (.con (.pointer (some ⟨b2, o2 + k * 4, none⟩))) (by rw [HV.out]; rfl) rfl⟩
       · obtain rfl : x42 = .pointer (some ⟨b2, o2 + k * 4, none⟩) := h.get 8 (hw _ rfl ⟨8, .data⟩ (by simp) rfl) (.con (.pointer (some ⟨b2, o2 + k * 4, none⟩))) (by rw [HV.out]; rfl) _ rfl
         obtain ⟨⟨g2, g5⟩, e0, e1, e2, e3, y0, y1, y2, y3⟩ := HPP.out w' h.1
         refine wpOp_step rfl fun K hK => ?_
         go_simp
         exact hK _ _ ⟨x34, x35, x36, x37, x38, x39, x40, x41, _, _, x44, rfl, h.same 9 _ (.con (.agg #[.string nm, .int .i64 vr, .int .i64 ln, .slice gh hs.length gc])) (by rw [HV.out]; rfl) rfl⟩
       · obtain rfl : x38 = .agg #[.string nm, .int .i64 vr, .int .i64 ln, .slice hh hs.length hc] := h.get 4 (hw _ rfl ⟨4, .data⟩ (by simp) rfl) (.con (.agg #[.string nm, .int .i64 vr, .int .i64 ln, .slice hh hs.length hc])) (by rw [HV.out]; rfl) _ rfl
         obtain rfl : x43 = .agg #[.string nm, .int .i64 vr, .int .i64 ln, .slice gh hs.length gc] := h.get 9 (hw _ rfl ⟨9, .data⟩ (by simp) rfl) (.con (.agg #[.string nm, .int .i64 vr, .int .i64 ln, .slice gh hs.length gc])) (by rw [HV.out]; rfl) _ rfl
         obtain ⟨⟨g2, g5⟩, e0, e1, e2, e3, y0, y1, y2, y3⟩ := HPP.out w' h.1
         refine wpOp_step rfl fun K hK => ?_
         go_simp
         refine (HSP.out w' h.1).mono ?_
         rintro e w2 ⟨rfl, hb2⟩
         exact hK _ _ ⟨x34, x35, x36, x37, _, x39, x40, x41, x42, _, _, rfl, h.did hb2 10 _ (.con (.bool true)) (by rw [HV.out]; rfl) rfl⟩
       · omega
     case last =>
       rintro d a' w' hall ⟨x34, x35, x36, x37, x38, x39, x40, x41, x42, x43, x44, rfl, h⟩
       have hle := h.1
       obtain rfl : x44 = .bool true := h.get 10 (hall _ (by omega)) (.con (.bool true)) (by rw [HV.out]; rfl) _ rfl
       have HLE := Lib.hid hle
       clear h hall hle HV
       go_wp2
       go_roundw
       case rel => exact ⟨k + 1, by omega, by go_num, HB.out.trans (HLE.out.mono HB.out.size)⟩
       case measure => simp [intOf]; omega
   · clear hb
     go_wp2
     go_ret
     exact ⟨rfl, HB2.out.trans (HB.out.mono HB2.out.size)⟩
def LongHPost (l : List Key2) (w : World) (e : Ending) (w' : World) : Prop := ∃ b : Bool, e = .returned (.bool b) ∧ (b = false → l.length ≤ 500 ∧ ∀ k ∈ l, k.1.size ≤ 5000 ∧ k.2.size ≤ 5000) ∧ Below w.heap.size w w'
set_option maxHeartbeats 2000000 in
set_option maxRecDepth 100000 in
theorem lawLongHashes (l : List Key2) (a : Option Addr) (c : Nat) (w : World) (hK : KeysAt w 0 w.heap.size a l) (hl : l.length ≤ 9223372036854775807) :
   Calls Tryz.prog 56 #[.slice a l.length c] w (LongHPost l w) := by
 have HK := Lib.hid hK
 clear hK
 go_enter Tryz.func56, Tryz.ntmps56
 go_wp2
 go_loopw [3, 4] (fun n i wr => ∃ k m : Nat, k ≤ l.length ∧ i = .int .i64 k ∧ n = .int .i64 (m : Int) ∧ m ≤ 20000 ∧ (m < 5000 → 10 * k ≤ m ∧ ∀ j (h : j < l.length), j < k → l[j].1.size ≤ 5000 ∧ l[j].2.size ≤ 5000) ∧ (k = 0 → m = 0) ∧ Below w.heap.size w wr) (fun _ i _ => l.length - (intOf i).toNat)
 case atStart => exact ⟨0, 0, by omega, rfl, rfl, by omega, fun _ => ⟨by omega, fun j _ h => by omega⟩, fun _ => rfl, Below.refl _ _⟩
 case round =>
   obtain ⟨k, m, hk, rfl, rfl, hm, hal, h0, hb⟩ := hrel
   have HAL := Lib.hid hal
   have HB := Lib.hid hb
   by_cases hlt : k < l.length
   · by_cases h5 : m < 5000
     · obtain ⟨b1, o1, ha1, _, _, e0, e1⟩ := (HK.out.below hb (Nat.le_refl _) (Nat.le_refl _) hb.size).at k hlt
       subst ha1
       obtain ⟨s0, hs0⟩ : ∃ s0, s0 = l[k].1 := ⟨_, rfl⟩
       obtain ⟨s1, hs1⟩ : ∃ s1, s1 = l[k].2 := ⟨_, rfl⟩
       rw [← hs0] at e0
       rw [← hs1] at e1
       have HS := Lib.hid (And.intro hs0 hs1)
       obtain ⟨t0, ht0⟩ : ∃ t0 : Nat, t0 = min 5000 s0.size := ⟨_, rfl⟩
       obtain ⟨t1, ht1⟩ : ∃ t1 : Nat, t1 = min 5000 s1.size := ⟨_, rfl⟩
       have m0 : min (5000 : Int) (s0.size : Int) = (t0 : Int) := by omega
       have m1 : min (5000 : Int) (s1.size : Int) = (t1 : Int) := by omega
       have b0 : t0 ≤ 5000 := by omega
       have b1' : t1 ≤ 5000 := by omega
       have hm5 : (m : Int) < 5000 := by omega
       have HTT := Lib.hid (And.intro ht0 ht1)
       have HA2 := Lib.hid (hal h5)
       clear hs0 hs1 ht0 ht1 hal hb h0
       go_wp2
       go_quiet (fail)
       go_wp2
       go_roundw
       case rel =>
         refine ⟨k + 1, m + 10 + t0 + t1, by omega, by go_num, by go_num, by omega, fun hlt5 => ?_, fun h => by omega, Below.drewN HB.out _⟩
         have h1 := HTT.out.1
         have h2 := HTT.out.2
         refine ⟨by have := HA2.out.1; omega, fun j hj hjk => ?_⟩
         by_cases e : j = k
         · subst e
           rw [← HS.out.1, ← HS.out.2]
           omega
         · exact HA2.out.2 j hj (by omega)
       case measure => simp [intOf]; omega
     · have hm5 : ¬ (m : Int) < 5000 := by omega
       have hm6 : (5000 : Int) ≤ m := by omega
       clear hal hb h0
       go_wp2
       go_ret
       exact ⟨true, rfl, (fun h => by cases h), HB.out⟩
   · have hke : k = l.length := by omega
     by_cases h5 : m < 5000
     · have HF := Lib.hid (show l.length ≤ 500 ∧ ∀ x ∈ l, x.1.size ≤ 5000 ∧ x.2.size ≤ 5000 from by
         obtain ⟨g1, g2⟩ := hal h5
         refine ⟨by omega, fun x hx => ?_⟩
         obtain ⟨j, hj, rfl⟩ := List.getElem_of_mem hx
         exact g2 j hj (by omega))
       have hm6 : ¬ (5000 : Int) ≤ m := by omega
       clear hal hb h0 hke
       go_wp2
       go_ret
       exact ⟨false, ret_bool (by simp <;> omega), fun _ => HF.out, HB.out⟩
     · have hm6 : (5000 : Int) ≤ m := by omega
       clear hal hb h0 hke
       go_wp2
       go_ret
       exact ⟨true, ret_bool (by simp <;> omega), (fun h => by cases h), HB.out⟩
def LongPPost (nm : ByteArray) (hs : List Key2) (w : World) (e : Ending) (w' : World) : Prop := ∃ b : Bool, e = .returned (.bool b) ∧ (b = false → nm.size ≤ 1000 ∧ hs.length ≤ 500 ∧ ∀ k ∈ hs, k.1.size ≤ 5000 ∧ k.2.size ≤ 5000) ∧ Below w.heap.size w w'
set_option maxHeartbeats 1000000 in
set_option maxRecDepth 100000 in
theorem lawLongPin (nm : ByteArray) (vr ln : Int) (hs : List Key2) (a : Option Addr) (c : Nat) (w : World) (hA : KeysAt w 0 w.heap.size a hs) (hl : hs.length ≤ 9223372036854775807) :
   Calls Tryz.prog 25 #[.agg #[.string nm, .int .i64 vr, .int .i64 ln, .slice a hs.length c]] w (LongPPost nm hs w) := by
 obtain ⟨W2, hW2⟩ : ∃ W2, W2 = w.alloc (.cells #[.string nm, .int .i64 vr, .int .i64 ln, .slice a hs.length c] 36) := ⟨_, rfl⟩
 have hb2 : Below w.heap.size w W2 := by rw [hW2]; exact (Below.refl _ _).alloc (Nat.le_refl _) _
 have hx : W2.heap[w.heap.size]? = some (.cells #[.string nm, .int .i64 vr, .int .i64 ln, .slice a hs.length c] 36 (0, 0)) := by rw [hW2]; exact heap_alloc_new w _
 have v0 : W2.cell? ⟨w.heap.size, 0, none⟩ = some (.string nm) := box_cell hx rfl
 have v3 : W2.cell? ⟨w.heap.size, 3, none⟩ = some (.slice a hs.length c) := box_cell hx rfl
 have HL := Lib.hid (lawLongHashes hs a c W2 (hA.below hb2 (Nat.le_refl _) (Nat.le_refl _) hb2.size) hl)
 have HB := Lib.hid hb2
 have HW := Lib.hid hW2
 clear hA hb2 hx hW2
 by_cases h1 : 1000 < nm.size
 · go_enter Tryz.func25, Tryz.ntmps25
   go_upto_region 1 with fail
   rw [← HW.out]
   go_wp2
   go_ret
   exact ⟨true, rfl, (fun h => by cases h), HB.out⟩
 · have HN := Lib.hid (show nm.size ≤ 1000 by omega)
   go_enter Tryz.func25, Tryz.ntmps25
   go_upto_region 1 with fail
   rw [← HW.out]
   go_wp2_with fail
   refine HL.out.mono ?_
   rintro e w3 ⟨b, rfl, hf, hb⟩
   have HF := Lib.hid hf
   have HBB := Lib.hid (HB.out.trans (hb.mono HB.out.size))
   clear hb hf
   go_wp2
   go_ret
   exact ⟨b, ret_bool (by rw [decide_eq_false (show ¬ (1000 : Int) < (nm.size : Int) by have := HN.out; omega)]; rfl), fun h => ⟨HN.out, HF.out h⟩, HBB.out⟩
abbrev PinC := PinV × Option Addr × Nat
def encQ (q : PinC) : List Value := [.string q.1.name, .int .i64 q.1.ver, .int .i64 q.1.len, .slice q.2.1 q.1.hs.length q.2.2]
theorem encQ_len (q : PinC) : (encQ q).length = 4 := rfl
theorem flatQ_len (L : List PinC) : (L.flatMap encQ).length = L.length * 4 := by
 induction L with
 | nil => rfl
 | cons v r ih => rw [List.flatMap_cons, List.length_append, ih, encQ_len]; simp; omega
theorem flatQ_get (L : List PinC) (i c : Nat) (hi : i < L.length) (hc : c < 4) : (L.flatMap encQ)[i * 4 + c]? = some ((encQ L[i])[c]'(by rw [encQ_len]; exact hc)) := by
 induction L generalizing i with
 | nil => simp at hi
 | cons v r ih =>
   rw [List.flatMap_cons]
   rcases i with _ | i
   · rw [List.getElem?_append_left (by rw [encQ_len]; omega)]
     simp
   · rw [List.getElem?_append_right (by rw [encQ_len]; omega), encQ_len]
     have := ih i (by simpa using hi)
     rw [show (i + 1) * 4 + c - 4 = i * 4 + c by omega]
     simpa using this
def CellsQ (w : World) (a : Option Addr) (L : List PinC) : Prop := L = [] ∨ ∃ b off, a = some ⟨b, off, none⟩ ∧ b < w.heap.size ∧ ∀ j u, (L.flatMap encQ)[j]? = some u → w.cell? ⟨b, off + j, none⟩ = some u
theorem CellsQ.below {w w' : World} {a : Option Addr} {L : List PinC} (h : CellsQ w a L) (hb : Below w.heap.size w w') : CellsQ w' a L := by
 rcases h with h | ⟨b, off, ha, hb', hr⟩
 · exact .inl h
 · exact .inr ⟨b, off, ha, Nat.lt_of_lt_of_le hb' hb.size, fun j u hj => by rw [hb.cell hb']; exact hr j u hj⟩
theorem flatQ_split (L : List PinC) (i : Nat) : L.flatMap encQ = (L.take i).flatMap encQ ++ (L.drop i).flatMap encQ := by rw [← List.flatMap_append, List.take_append_drop]
theorem CellsQ.news {w : World} {a : Option Addr} {L : List PinC} (h : CellsQ w a L) : 0 < L.length → ∃ ad, a = some ad ∧ ∀ j u, (L.flatMap encQ)[j]? = some u → w.cell? (ad.add j) = some u := fun h0 => by
 rcases h with h | ⟨b, off, ha, _, hr⟩
 · subst h; simp at h0
 · refine ⟨_, ha, fun j u hj => ?_⟩
   rw [show (⟨b, off, none⟩ : Addr).add j = ⟨b, off + j, none⟩ by unfold Addr.add; split <;> simp_all]
   exact hr j u hj
theorem CellsQ.first {w : World} {a : Option Addr} {L : List PinC} (h : CellsQ w a L) (i : Nat) : CellsQ w a (L.take i) := by
 rcases h with h | ⟨b, off, ha, hb, hr⟩
 · subst h; exact .inl (by simp)
 · refine .inr ⟨b, off, ha, hb, fun j u hj => hr j u ?_⟩
   rw [flatQ_split L i, List.getElem?_append_left (List.getElem?_eq_some_iff.1 hj).1]
   exact hj
theorem CellsQ.behind {w : World} {a : Option Addr} {L : List PinC} (h : CellsQ w a L) (i c : Nat) (hc : L.length ≤ c) (hl : i ≤ L.length) :
   ∃ a' c', sliced a i L.length c 4 = .slice a' (L.length - i) c' ∧ CellsQ w a' (L.drop i) := by
 refine ⟨if c = i then a else a.map (·.add (i * 4)), c - i, by simp [sliced], ?_⟩
 by_cases h0 : i = L.length
 · subst h0; exact .inl (by simp)
 · rcases h with h | ⟨b, off, rfl, hb, hr⟩
   · subst h; simp at hl; simp at h0; omega
   · refine .inr ⟨b, off + i * 4, ?_, hb, fun j u hj => ?_⟩
     · rw [if_neg (by omega)]
       simp only [Option.map_some, Option.some.injEq]
       unfold Addr.add; split <;> simp_all
     · have hlen : ((L.take i).flatMap encQ).length = i * 4 := by rw [flatQ_len, List.length_take, Nat.min_eq_left hl]
       have := hr (i * 4 + j) u (by rw [flatQ_split L i, List.getElem?_append_right (by omega), hlen, show i * 4 + j - i * 4 = j by omega]; exact hj)
       rw [show off + i * 4 + j = off + (i * 4 + j) by omega]
       exact this
def ConQ (wb : World) (V : List (Option Value)) (d : Nat → Prop) (w' : World) (xs : List Value) : Prop :=
 Below wb.heap.size wb w' ∧ xs.length = V.length ∧ ∀ (j : Nat) (v x : Value), V[j]? = some (some v) → xs[j]? = some x → d j → x = v
theorem ConQ.first (wb : World) (V : List (Option Value)) (xs : List Value) (h : xs.length = V.length) : ConQ wb V (fun _ => False) wb.drew xs := ⟨(Below.refl _ _).drew, h, fun _ _ _ _ _ hd => hd.elim⟩
theorem ConQ.get {wb w' : World} {V : List (Option Value)} {d : Nat → Prop} {xs : List Value} (h : ConQ wb V d w' xs) (j : Nat) (hd : d j) (v : Value) (hV : V[j]? = some (some v)) (x : Value) (hx : xs[j]? = some x) : x = v := h.2.2 j v x hV hx hd
theorem ConQ.did {wb w' w'' : World} {V : List (Option Value)} {d : Nat → Prop} {xs : List Value} (h : ConQ wb V d w' xs) (hb : Below wb.heap.size wb w'') (j : Nat) (y : Value) (o : Option Value) (hV : V[j]? = some o) (hy : ∀ v, o = some v → y = v) : ConQ wb V (fun i => i = j ∨ d i) w'' (xs.set j y) := by
 refine ⟨hb, by rw [List.length_set]; exact h.2.1, fun i v x hm hx hd => ?_⟩
 by_cases e : i = j
 · subst e
   rw [hV] at hm
   have hl : i < xs.length := by rw [h.2.1]; exact (List.getElem?_eq_some_iff.1 hV).1
   rw [List.getElem?_set_self hl] at hx
   cases hx
   exact hy v (Option.some.inj hm)
 · rw [List.getElem?_set_ne (Ne.symm e)] at hx
   exact h.2.2 i v x hm hx (hd.resolve_left e)
theorem ConQ.same {wb w' : World} {V : List (Option Value)} {d : Nat → Prop} {xs : List Value} (h : ConQ wb V d w' xs) (j : Nat) (y v : Value) (hV : V[j]? = some (some v)) (hy : y = v) : ConQ wb V (fun i => i = j ∨ d i) w' (xs.set j y) :=
 h.did h.1 j y (some v) hV fun v' e => by cases e; exact hy
structure Two (H T S p0 p1 p2 n1 n2 : Nat) (L1 L2 : List Value) (d : Nat → Prop) (w' : World) (y0 y1 y2 : Value) : Prop where
 o1 : d p1 → d p0
 o2 : d p2 → d p1
 own0 : d p0 → ¬ d p1 → w'.ownsRow H T S y0 0 []
 own1 : d p1 → ¬ d p2 → w'.ownsRow H T S y1 n1 L1
 own2 : d p2 → w'.ownsRow H T S y2 (n1 + n2) (L1 ++ L2)
section
variable {H T S p0 p1 p2 n1 n2 : Nat} {L1 L2 : List Value} {d : Nat → Prop} {w' w2 : World} {y0 y1 y2 v : Value}
theorem Two.first (w' : World) (y0 y1 y2 : Value) : Two H T S p0 p1 p2 n1 n2 L1 L2 (fun _ => False) w' y0 y1 y2 := ⟨fun h => h.elim, fun h => h.elim, fun h => h.elim, fun h => h.elim, fun h => h.elim⟩
theorem Two.same (h : Two H T S p0 p1 p2 n1 n2 L1 L2 d w' y0 y1 y2) (k : Nat) (h0 : k ≠ p0) (h1 : k ≠ p1) (h2 : k ≠ p2) : Two H T S p0 p1 p2 n1 n2 L1 L2 (fun j => j = k ∨ d j) w' y0 y1 y2 := by
 have e : ∀ q, q ≠ k → ((q = k ∨ d q) ↔ d q) := fun q hq => ⟨fun h => h.resolve_left hq, .inr⟩
 have e0 := e p0 (Ne.symm h0); have e1 := e p1 (Ne.symm h1); have e2 := e p2 (Ne.symm h2)
 exact ⟨by rw [e0, e1]; exact h.o1, by rw [e1, e2]; exact h.o2, by rw [e0, e1]; exact h.own0, by rw [e1, e2]; exact h.own1, by rw [e2]; exact h.own2⟩
theorem Two.s0 (h : Two H T S p0 p1 p2 n1 n2 L1 L2 d w' y0 y1 y2) (q1 : p1 ≠ p0) (q2 : p2 ≠ p0) (hH : H ≤ w'.heap.size) (hn : ¬ d p0) :
   Two H T S p0 p1 p2 n1 n2 L1 L2 (fun j => j = p0 ∨ d j) (w'.alloc (.cells #[] T)) (.slice (some ⟨w'.heap.size, 0, none⟩) 0 0) y1 y2 := by
 have n5 : ¬ d p1 := fun h5 => hn (h.o1 h5)
 have n8 : ¬ d p2 := fun h8 => n5 (h.o2 h8)
 exact ⟨fun _ => .inl rfl, fun h8 => (n8 (h8.resolve_left q2)).elim, fun _ _ => World.ownsRow_made w' #[] 0 hH (Nat.zero_le _) (by simp), fun h5 => (n5 (h5.resolve_left q1)).elim, fun h8 => (n8 (h8.resolve_left q2)).elim⟩
theorem Two.s1 (h : Two H T S p0 p1 p2 n1 n2 L1 L2 d w' y0 y1 y2) (q2 : p2 ≠ p1) (h0 : d p0) (hn : ¬ d p1) (ho : w2.ownsRow H T S v n1 L1) :
   Two H T S p0 p1 p2 n1 n2 L1 L2 (fun j => j = p1 ∨ d j) w2 y0 v y2 := by
 have n8 : ¬ d p2 := fun h8 => hn (h.o2 h8)
 exact ⟨fun _ => .inr h0, fun h8 => (n8 (h8.resolve_left q2)).elim, fun _ b => (b (.inl rfl)).elim, fun _ _ => ho, fun h8 => (n8 (h8.resolve_left q2)).elim⟩
theorem Two.s2 (h : Two H T S p0 p1 p2 n1 n2 L1 L2 d w' y0 y1 y2) (h1 : d p1) (ho : w2.ownsRow H T S v (n1 + n2) (L1 ++ L2)) :
   Two H T S p0 p1 p2 n1 n2 L1 L2 (fun j => j = p2 ∨ d j) w2 y0 y1 v :=
 ⟨fun _ => .inr (h.o1 h1), fun _ => .inr h1, fun _ b => (b (.inr h1)).elim, fun _ b => (b (.inl rfl)).elim, fun _ => ho⟩
end
theorem utfOk_ascii (s : ByteArray) (h : ∀ k (hk : k < s.size), s[k].toNat < 128) : ∀ f pos, utfOk s f pos = true
 | 0, _ => rfl
 | f + 1, pos => by
   unfold utfOk
   split
   · next hp =>
     have hd := decode_ascii s pos hp (h pos hp)
     have : utfBad s pos = false := by
       unfold utfBad; rw [hd]
       have := h pos hp
       have e : ((s[pos].toNat, 1) : Nat × Nat).1 = s[pos].toNat := rfl
       rw [e, beq_eq_false_iff_ne.2 (by omega)]; rfl
     rw [this]
     exact utfOk_ascii s h f _
   · rfl
theorem utfV_ascii (s : ByteArray) (h : ∀ c ∈ s.data.toList, c.toNat < 128) : utfV s = true :=
 utfOk_ascii s (fun k hk => by rw [← toList_get s k hk]; exact h _ (List.getElem_mem _)) _ _
def plainC (c : UInt8) : Prop := c.toNat < 128 ∧ c.toNat ≠ 34 ∧ c.toNat ≠ 92
theorem plain_hex {c : UInt8} (h : isHex c = true) : plainC c := by
 unfold isHex at h; unfold plainC; simp at h; omega
theorem plain_name {c : UInt8} (h : nameC c = true) : plainC c := by
 unfold nameC at h; unfold plainC; simp at h; omega
theorem role_plain {l : List UInt8} (h : roleOk l = true) : (∀ c ∈ l, plainC c) ∧ 1 ≤ l.length ∧ l.length ≤ 64 := by
 unfold roleOk at h
 simp only [Bool.and_eq_true, decide_eq_true_eq] at h
 exact ⟨fun c hc => plain_name (List.all_eq_true.1 h.2 c hc), h.1.1⟩
theorem pub_plain {l : List UInt8} (h : pubOk l = true) : (∀ c ∈ l, plainC c) ∧ 2 ≤ l.length ∧ l.length ≤ 128 := by
 unfold pubOk allHex at h
 simp only [Bool.and_eq_true, decide_eq_true_eq] at h
 exact ⟨fun c hc => plain_hex (List.all_eq_true.1 h.2 c hc), h.1.1, h.1.2.1⟩
theorem txtOk_plain {s : ByteArray} (h : ∀ c ∈ s.data.toList, plainC c) (hl : s.size ≤ 4096) : txtOk s = true := by
 unfold txtOk; rw [utfV_ascii s fun c hc => (h c hc).1]; simpa using hl
theorem role_txt {s : ByteArray} (h : roleOk s.data.toList = true) : txtOk s = true := by
 have h3 := role_plain h
 rw [toList_length] at h3
 exact txtOk_plain h3.1 (by omega)
theorem pub_txt {s : ByteArray} (h : pubOk s.data.toList = true) : txtOk s = true := by
 have h3 := pub_plain h
 rw [toList_length] at h3
 exact txtOk_plain h3.1 (by omega)
theorem decode_fit (s : ByteArray) (pos : Nat) (h : pos < s.size) : pos + (Utf8.decode s pos).2 ≤ s.size := by
 unfold Utf8.decode; dsimp only
 repeat' split
 all_goals (first | (show pos + 1 ≤ s.size; omega) | (rename_i g _; simp at g; show _ ≤ _; omega))
set_option maxHeartbeats 400000 in
theorem refLen (s : ByteArray) (w : World) (hs : s.size ≤ 4611686018427387904) :
   Calls Tryz.prog 151 #[.string s] w (LenPost s w) := by
 go_enter Tryz.func151, Tryz.ntmps151
 go_wp2
 go_loopw [4, 5, 6, 7, 8] (fun v4 v5 _ _ _ wr => ∃ (pos n f : Nat), n ≤ pos ∧ pos ≤ s.size ∧ v4 = .int .i64 n ∧ v5 = .int .i64 pos ∧ utfOk s f pos = utfV s ∧ s.size + 1 ≤ f + pos ∧ Below w.heap.size w wr) (fun _ v5 _ _ _ _ => s.size - (intOf v5).toNat)
 case atStart => exact ⟨0, 0, s.size + 1, by omega, by omega, rfl, rfl, rfl, by omega, Below.refl _ _⟩
 case round =>
   obtain ⟨pos, n, f, hn, hn', rfl, rfl, hok, hf, hbel⟩ := hrel
   have HB := Lib.hid hbel
   clear hbel
   by_cases hlt : pos < s.size
   · obtain ⟨f, rfl⟩ : ∃ g, f = g + 1 := ⟨f - 1, by omega⟩
     have hdp := decode_pos s pos
     have hdl := decode_fit s pos hlt
     have hun : utfOk s (f + 1) pos = if utfBad s pos then false else utfOk s f (pos + (Utf8.decode s pos).2) := by rw [utfOk, if_pos hlt]
     rw [hun] at hok
     have HOK := Lib.hid hok
     clear hok hun
     have HN := Lib.hid (refNext s pos wr hs hlt)
     go_wp2_with fail
     refine HN.out.mono ?_
     clear HN
     rintro e w1 ⟨r, sz, er, rfl, hcase, hb1⟩
     have HB1 := Lib.hid (HB.out.trans (hb1.mono HB.out.size))
     clear hb1
     rcases hcase with ⟨h1, rfl, rfl⟩ | ⟨h1, h2⟩
     · have HF := Lib.hid (show utfOk s f (pos + (Utf8.decode s pos).2) = utfV s by rw [← HOK.out, h1]; rfl)
       have hsz : pos + (Utf8.decode s pos).2 ≤ s.size := by omega
       clear h1
       generalize (Utf8.decode s pos).2 = d at *
       go_wp2
       go_roundw
       case rel => exact ⟨pos + d, n + 1, f, by omega, by omega, by go_num, by go_num, HF.out, by omega, HB1.out⟩
       case measure => simp [intOf]; omega
     · have HF := Lib.hid (show utfV s = false by rw [← HOK.out, h1]; rfl)
       have h3 : (er != 0) = true := by simpa using h2
       have h4 : (er == 0) = false := by simpa using h2
       clear h1 h2
       go_wp2
       go_ret2
       exact ⟨0, by rw [HF.out] <;> rfl, HB1.out⟩
   · have HF := Lib.hid (show utfV s = true by
       rw [← hok]; cases f with
       | zero => rfl
       | succ f => rw [utfOk, if_neg hlt])
     clear hok
     go_wp2
     go_ret2
     exact ⟨n, by rw [HF.out] <;> rfl, HB.out⟩
set_option maxHeartbeats 400000 in
theorem refText (s : ByteArray) (w : World) (hs : s.size ≤ 4611686018427387904) :
   Calls Tryz.prog 126 #[.string s] w fun e w' => e = .returned (.bool (txtOk s)) ∧ Below w.heap.size w w' := by
 have HL := Lib.hid (refLen s w hs)
 unfold LenPost at HL
 unfold txtOk
 cases hv : utfV s
 · rw [hv] at HL
   rw [Bool.and_false]
   clear hv
   go_enter Tryz.func126, Tryz.ntmps126
   go_wp2_with fail
   refine HL.out.mono ?_
   rintro e w1 ⟨n, rfl, hb⟩
   have HB := Lib.hid hb
   clear hb
   go_wp2
   go_ret
   exact ⟨rfl, HB.out⟩
 · rw [hv] at HL
   rw [Bool.and_true]
   clear hv
   by_cases h4 : s.size ≤ 4096
   · rw [decide_eq_true h4]
     have h5 : (s.size : Int) ≤ 4096 := by omega
     go_enter Tryz.func126, Tryz.ntmps126
     go_wp2_with fail
     refine HL.out.mono ?_
     rintro e w1 ⟨n, rfl, hb⟩
     have HB := Lib.hid hb
     clear hb
     go_wp2
     go_ret
     exact ⟨rfl, HB.out⟩
   · rw [decide_eq_false h4]
     have h5 : ¬ (s.size : Int) ≤ 4096 := by omega
     have h6 : decide ((s.size : Int) ≤ 4096) = false := decide_eq_false h5
     go_enter Tryz.func126, Tryz.ntmps126
     go_wp2_with fail
     refine HL.out.mono ?_
     rintro e w1 ⟨n, rfl, hb⟩
     have HB := Lib.hid hb
     clear hb
     go_wp2
     go_ret
     exact ⟨rfl, HB.out⟩
end Go.Proofs.YtgghgcilpfdbjaaGreatDoor
