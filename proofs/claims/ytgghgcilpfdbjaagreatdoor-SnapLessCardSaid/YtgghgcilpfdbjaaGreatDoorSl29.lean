/- The law SnapLess: the call returns true. Printed by genless.py. -/
import Derived.Test.YtgghgcilpfdbjaaGreatDoorSl27
import Derived.Test.YtgghgcilpfdbjaaGreatDoorSl28
import Derived.Test.YtgghgcilpfdbjaaGreatDoorSl10
import Derived.Test.YtgghgcilpfdbjaaGreatDoorSl09
import Derived.Test.YtgghgcilpfdbjaaGreatDoorSl02

namespace Go.Proofs.YtgghgcilpfdbjaaGreatDoor
open Go.RowKit Go.Shelf Go.Sort

set_option maxHeartbeats 8000000 in
set_option maxRecDepth 100000 in
theorem lawLess (v e : Int) (l : List PinV) (a : Option Addr) (c : Nat) (which : Int) (w : World) (hlc : l.length ≤ c) (hP : PinsAt w 0 w.heap.size a l) (hl : l.length ≤ 9223372036854775807) (hf : ∀ p ∈ l, PinFits p) (hT : TabW w) (hP10 : Pow10 w) :
    Calls Tryz.prog 9 #[.agg #[.int .i64 v, .int .i64 e, .slice a l.length c], .int .i64 which] w fun r w' => r = .returned (.bool true) ∧ Below w.heap.size w w' := by
  obtain ⟨W2, hW2⟩ : ∃ W2, W2 = w.alloc (.cells #[.int .i64 v, .int .i64 e, .slice a l.length c] 24) := ⟨_, rfl⟩
  have hb2 : Below w.heap.size w W2 := by rw [hW2]; exact (Below.refl _ _).alloc (Nat.le_refl _) _
  have hx : W2.heap[w.heap.size]? = some (.cells #[.int .i64 v, .int .i64 e, .slice a l.length c] 24 (0, 0)) := by rw [hW2]; exact heap_alloc_new w _
  obtain ⟨W3, hW3⟩ : ∃ W3, W3 = W2.alloc (.cells #[.int .i64 v, .int .i64 e, .slice a l.length c] 24) := ⟨_, rfl⟩
  have hb3 : Below W2.heap.size W2 W3 := by rw [hW3]; exact (Below.refl _ _).alloc (Nat.le_refl _) _
  have hx3 : W3.heap[W2.heap.size]? = some (.cells #[.int .i64 v, .int .i64 e, .slice a l.length c] 24 (0, 0)) := by rw [hW3]; exact heap_alloc_new W2 _
  have HPA := Lib.hid (show ∀ w' : World, Below W2.heap.size W2 w' → PinsAt w' 0 w'.heap.size a l from fun w' h => hP.below (hb2.trans (h.mono hb2.size)) (Nat.le_refl _) (Nat.zero_le _) (Nat.le_trans hb2.size h.size))
  have HTW := Lib.hid (show ∀ w' : World, Below W2.heap.size W2 w' → TabW w' ∧ Pow10 w' from fun w' h => ⟨hT.below (hb2.trans (h.mono hb2.size)), hP10.below (hb2.trans (h.mono hb2.size))⟩)
  have HC := Lib.hid (show ∀ w' : World, Below W2.heap.size W2 w' → w'.cell? ⟨w.heap.size, 0, none⟩ = some (.int .i64 v) ∧ w'.cell? ⟨w.heap.size, 1, none⟩ = some (.int .i64 e) ∧ w'.cell? ⟨w.heap.size, 2, none⟩ = some (.slice a l.length c) from fun w' h => by
    have x := (h.block _ (heap_lt hx)).trans hx
    exact ⟨box_cell x rfl, box_cell x rfl, box_cell x rfl⟩)
  have HLG := Lib.hid (lawLong1 l v e a c W2.heap.size 1 W3 (HPA.out W3 hb3) hf hl hx3)
  have HAW := Lib.hid (show ∀ w' : World, Below W2.heap.size W2 w' → Calls Tryz.prog 14 #[] w' (fun e w'' => e = .returned (.bool true) ∧ Below w'.heap.size w' w'') from fun w' h => lawAwake23 w' (HTW.out w' h).1 (HTW.out w' h).2)
  have HF := Lib.hid hf
  have HB2 := Lib.hid hb2
  have HB3 := Lib.hid hb3
  have HW3 := Lib.hid hW3
  have HW2 := Lib.hid hW2
  clear hW2 hW3 hb2 hb3 hx hx3 hP hT hP10 hf
  obtain ⟨q0, q1, q2⟩ := HC.out W2 (Below.refl _ _)
  go_enter Tryz.func9, Tryz.ntmps9
  go_upto_region 1 with fail
  rw [← HW2.out]
  go_wp2_with fail
  rw [← HW3.out]
  refine HLG.out.mono ?_
  clear HLG q0 q1 q2 HW2 HW3
  rintro r w4 ⟨b, rfl, hsh, hb4⟩
  have HB4 := Lib.hid (HB3.out.trans (hb4.mono HB3.out.size))
  have HSH := Lib.hid hsh
  clear hsh hb4
  cases b with
  | true =>
    go_wp2_with fail
    refine (HAW.out w4 HB4.out).mono ?_
    rintro r w5 ⟨rfl, hb5⟩
    have HB5 := Lib.hid (HB4.out.trans (hb5.mono HB4.out.size))
    clear hb5
    go_wp2
    go_ret
    exact ⟨rfl, HB2.out.trans (HB5.out.mono HB2.out.size)⟩
  | false =>
    obtain ⟨hl6, hps⟩ := HSH.out rfl
    have HPS := Lib.hid hps
    clear hps HSH
    obtain ⟨q0, q1, q2⟩ := HC.out w4 HB4.out
    have HM := Lib.hid (snapMay v e l a c w4 (HPA.out w4 HB4.out) hl HF.out (HTW.out w4 HB4.out).1 (HTW.out w4 HB4.out).2)
    obtain ⟨mb, hmb⟩ : ∃ mb, mb = maySnap ⟨v, e, l⟩ := ⟨_, rfl⟩
    rw [← hmb] at HM
    have HMB := Lib.hid hmb
    clear hmb
    go_wp2_with fail
    refine HM.out.mono ?_
    clear HM q0 q1 q2
    rintro r w5 ⟨rfl, hb5⟩
    have HB5 := Lib.hid (HB4.out.trans (hb5.mono HB4.out.size))
    clear hb5
    cases mb with
    | false =>
      go_wp2_with fail
      refine (HAW.out w5 HB5.out).mono ?_
      rintro r w6 ⟨rfl, hb6⟩
      have HB6 := Lib.hid (HB5.out.trans (hb6.mono HB5.out.size))
      clear hb6
      go_wp2
      go_ret
      exact ⟨rfl, HB2.out.trans (HB6.out.mono HB2.out.size)⟩
    | true =>
      obtain ⟨q0, q1, q2⟩ := HC.out w5 HB5.out
      by_cases hn0 : l.length = 0
      · have hd : ((l.length : Int) == 0) = true := by simp [hn0]
        go_wp2_with fail
        refine (HAW.out w5 HB5.out).mono ?_
        rintro r w6 ⟨rfl, hb6⟩
        have HB6 := Lib.hid (HB5.out.trans (hb6.mono HB5.out.size))
        clear hb6
        go_wp2
        go_ret
        exact ⟨rfl, HB2.out.trans (HB6.out.mono HB2.out.size)⟩
      have hd : ((l.length : Int) == 0) = false := beq_eq_false_iff_ne.2 (by omega)
      go_wp2_with fail
      refine (HAW.out w5 HB5.out).mono ?_
      rintro r w6 ⟨rfl, hb6⟩
      have HB6 := Lib.hid (HB5.out.trans (hb6.mono HB5.out.size))
      clear hb6 HB5 HB4 HB3 hd q0 q1 q2
      have hm := HMB.out.symm
      obtain ⟨q0, q1, q2⟩ := HC.out w6 HB6.out
      obtain ⟨k, hk, hw1, hw2⟩ := ix_at which l.length (Nat.pos_of_ne_zero hn0) hl
      go_upto_region 5 with fail
      obtain ⟨W7, hW7⟩ : ∃ W7, W7 = w6.alloc (.cells #[.int .i64 v, .int .i64 e, .slice a l.length c] 24) := ⟨_, rfl⟩
      have hb7 : Below w6.heap.size w6 W7 := by rw [hW7]; exact (Below.refl _ _).alloc (Nat.le_refl _) _
      have hx7 : W7.heap[w6.heap.size]? = some (.cells #[.int .i64 v, .int .i64 e, .slice a l.length c] 24 (0, 0)) := by rw [hW7]; exact heap_alloc_new w6 _
      rw [← hW7]
      have HB7 := Lib.hid (HB6.out.trans (hb7.mono HB6.out.size))
      have HX7 := Lib.hid hx7
      have HC7 := Lib.hid (show ∀ w' : World, Below W7.heap.size W7 w' → w'.cell? ⟨w.heap.size, 2, none⟩ = some (.slice a l.length c) ∧ w'.cell? ⟨w.heap.size, 0, none⟩ = some (.int .i64 v) ∧ w'.cell? ⟨w.heap.size, 1, none⟩ = some (.int .i64 e) from fun w' h => by
        obtain ⟨z0, z1, z2⟩ := HC.out w' (HB7.out.trans (h.mono HB7.out.size))
        exact ⟨z2, z0, z1⟩)
      have hr7 : W7.rowIs w6.heap.size 24 3 (pick3 (.int .i64 v) (.int .i64 e) (.slice a l.length c)) := by rw [hW7]; exact rowIs_box3 _ _ _ _ _
      have HR7 := Lib.hid hr7
      have HB67 := Lib.hid hb7
      obtain ⟨L, hL1, hL2, hL3⟩ := pins_cells (HPA.out w6 HB6.out) (Nat.le_refl _)
      have hLl : L.length = l.length := by have := congrArg List.length hL1; simpa using this
      obtain ⟨a2, c2, hs2, hq2⟩ := hL3.behind (k + 1) c (by omega) (by omega)
      rw [hLl] at hs2
      have HSL := Lib.hid hs2
      have HCQ := Lib.hid (show ∀ w' : World, Below W7.heap.size W7 w' → CellsQ w' a (L.take k) ∧ CellsQ w' a2 (L.drop (k + 1)) from fun w' h => ⟨(hL3.first k).below (hb7.trans (h.mono hb7.size)), hq2.below (hb7.trans (h.mono hb7.size))⟩)
      have HL1 := Lib.hid hL1
      have HL2 := Lib.hid hL2
      have HM := Lib.hid hm
      obtain ⟨i1, hi1, hy0, hy1, hy2⟩ := info_parts infoPin
      have hkc : k ≤ c := by omega
      have hw49 : IntKind.i64.wrap ((k : Int) + 1) = (k : Int) + 1 := IntWalk.i64_in _ (by omega)
      clear hW7 hb7 hx7 hr7 hL1 hL2 hL3 hs2 hq2 hm q0 q1 q2 hw1 hw2
      obtain ⟨V, hV⟩ : ∃ V : List (Option Value), V = [none, some (.pointer (some ⟨w.heap.size, 2, none⟩)), some (.slice a l.length c), some (.int .i64 (k : Int)), some (.slice a k c), none, some (.pointer (some ⟨w.heap.size, 2, none⟩)), some (.slice a l.length c), some (.int .i64 (k : Int)), some (.int .i64 ((k : Int) + 1)), some (.slice a2 (l.length - (k + 1)) c2), none, some (.pointer (some ⟨w6.heap.size, 2, none⟩))] := ⟨_, rfl⟩
      have HV := Lib.hid hV
      clear hV
      refine wp_region_inv 13 (fun d a' w' => ∃ x40 x41 x42 x43 x44 x45 x46 x47 x48 x49 x50 x51 x52, a' = ⟨#[Value.agg #[Value.int IntKind.i64 v, Value.int IntKind.i64 e, Value.slice a l.length c], Value.int IntKind.i64 which, Value.pointer (some { block := w.heap.size, off := 0 }), undef, Value.bool false, Value.int IntKind.i64 (k : Int), Value.pointer (some { block := w6.heap.size, off := 0 }), undef, undef, undef, undef, undef, Value.agg #[Value.int IntKind.i64 v, Value.int IntKind.i64 e, Value.slice a l.length c], Value.slice (some { block := W2.heap.size, off := 0 }) 1 1, Value.bool false, Value.bool false, Value.agg #[Value.int IntKind.i64 v, Value.int IntKind.i64 e, Value.slice a l.length c], Value.bool true, Value.bool false, Value.bool false, Value.bool false, Value.pointer (some { block := w.heap.size, off := 2 }), Value.slice a l.length c, Value.int IntKind.i64 (l.length : Int), Value.bool false, Value.bool false, Value.bool false, Value.bool true, Value.bool false, Value.bool false, undef, Value.int IntKind.i64 which, Value.int IntKind.u64 (IntKind.u64.wrap which), Value.pointer (some { block := w.heap.size, off := 2 }), Value.slice a l.length c, Value.int IntKind.i64 (l.length : Int), Value.int IntKind.u64 (l.length : Int), Value.int IntKind.u64 ((IntKind.u64.wrap which).tmod (l.length : Int)), Value.int IntKind.i64 (k : Int), Value.agg #[Value.int IntKind.i64 v, Value.int IntKind.i64 e, Value.slice a l.length c], x40, x41, x42, x43, x44, x45, x46, x47, x48, x49, x50, x51, x52, undef, undef, undef, undef, undef, undef, undef, undef, undef, undef, undef, undef, undef, undef, undef, undef, undef, undef, undef, undef, undef, undef, undef, undef, undef, undef, undef, undef, undef, undef, undef, undef, undef, undef, undef, undef, undef, undef, undef, undef, undef, undef, undef, undef, undef, undef, undef, undef, undef, undef, undef, undef, undef], []⟩ ∧ ConQ W7 V d w' [x40, x41, x42, x43, x44, x45, x46, x47, x48, x49, x50, x51, x52] ∧ Two W7.heap.size 36 4 0 5 11 k (l.length - (k + 1)) ((L.take k).flatMap encQ) ((L.drop (k + 1)).flatMap encQ) d w' x40 x45 x51) (by kernel_rfl) (by kernel_rfl) ?first ?step ?last
      case first => exact ⟨_, _, _, _, _, _, _, _, _, _, _, _, _, rfl, ConQ.first _ _ _ (by rw [HV.out]; rfl), Two.first _ _ _ _⟩
      case step =>
        rintro d a' w' ⟨x40, x41, x42, x43, x44, x45, x46, x47, x48, x49, x50, x51, x52, rfl, h, ht⟩ q hq hn hw
        have hsz := h.1.size
        rcases q with _ | _ | _ | _ | _ | _ | _ | _ | _ | _ | _ | _ | _ | q
        · refine wpOp_step rfl fun K hK => ?_
          go_simp
          exact hK _ _ ⟨_, x41, x42, x43, x44, x45, x46, x47, x48, x49, x50, x51, x52, rfl, h.did (h.1.alloc h.1.size _) 0 _ none (by rw [HV.out]; rfl) (fun _ e => by cases e), ht.s0 (by decide) (by decide) h.1.size hn⟩
        · refine wpOp_step rfl fun K hK => ?_
          go_simp
          exact hK _ _ ⟨x40, _, x42, x43, x44, x45, x46, x47, x48, x49, x50, x51, x52, rfl, h.same 1 _ _ (by rw [HV.out]; rfl) rfl, ht.same 1 (by decide) (by decide) (by decide)⟩
        · obtain rfl : x41 = .pointer (some ⟨w.heap.size, 2, none⟩) := h.get 1 (hw _ rfl ⟨1, .data⟩ (by simp) rfl) (.pointer (some ⟨w.heap.size, 2, none⟩)) (by rw [HV.out]; rfl) _ rfl
          obtain ⟨q2, -⟩ := HC7.out w' h.1
          refine wpOp_step rfl fun K hK => ?_
          go_simp
          exact hK _ _ ⟨x40, _, _, x43, x44, x45, x46, x47, x48, x49, x50, x51, x52, rfl, h.same 2 _ _ (by rw [HV.out]; rfl) rfl, ht.same 2 (by decide) (by decide) (by decide)⟩
        · refine wpOp_step rfl fun K hK => ?_
          go_simp
          exact hK _ _ ⟨x40, x41, x42, _, x44, x45, x46, x47, x48, x49, x50, x51, x52, rfl, h.same 3 _ _ (by rw [HV.out]; rfl) rfl, ht.same 3 (by decide) (by decide) (by decide)⟩
        · obtain rfl : x42 = .slice a l.length c := h.get 2 (hw _ rfl ⟨2, .data⟩ (by simp) rfl) (.slice a l.length c) (by rw [HV.out]; rfl) _ rfl
          obtain rfl : x43 = .int .i64 (k : Int) := h.get 3 (hw _ rfl ⟨3, .data⟩ (by simp) rfl) (.int .i64 (k : Int)) (by rw [HV.out]; rfl) _ rfl
          refine wpOp_step rfl fun K hK => ?_
          go_simp
          exact hK _ _ ⟨x40, x41, _, _, _, x45, x46, x47, x48, x49, x50, x51, x52, rfl, h.same 4 _ _ (by rw [HV.out]; rfl) rfl, ht.same 4 (by decide) (by decide) (by decide)⟩
        · obtain rfl : x44 = .slice a k c := h.get 4 (hw _ rfl ⟨4, .data⟩ (by simp) rfl) (.slice a k c) (by rw [HV.out]; rfl) _ rfl
          have hd40 : d 0 := hw _ rfl ⟨0, .data⟩ (by simp) rfl
          refine wpOp_step rfl fun K hK => ?_
          have ho := ht.own0 hd40 hn
          refine wp_append_any (.tmp 40) (.tmp 44) 22 rfl W7.heap.size 36 i1 _ 4 56 Tryz.underlying22 hi1 hy0 hy1 hy2 rfl (by omega) x40 0 [] rfl ho a k c ((L.take k).flatMap encQ) rfl (by rw [flatQ_len]; simp only [List.length_take]; omega) (fun h0 => (HCQ.out w' h.1).1.news (by simp only [List.length_take]; omega)) (fun u hu => encQ_one _ u hu) (by unfold maxLen; omega) (by omega) hsz _ rfl ?_
          intro a5 c5 w5 ho5 hg5 hat5
          simp only [Nat.zero_add, List.nil_append] at ho5 ⊢
          exact hK _ _ ⟨x40, x41, x42, x43, _, _, x46, x47, x48, x49, x50, x51, x52, rfl, h.did (below_grown h.1 hsz hg5 (fun b hb => (ho.lt b hb).1)) 5 _ none (by rw [HV.out]; rfl) (fun _ e => by cases e), ht.s1 (by decide) hd40 hn ho5⟩
        · refine wpOp_step rfl fun K hK => ?_
          go_simp
          exact hK _ _ ⟨x40, x41, x42, x43, x44, x45, _, x47, x48, x49, x50, x51, x52, rfl, h.same 6 _ _ (by rw [HV.out]; rfl) rfl, ht.same 6 (by decide) (by decide) (by decide)⟩
        · obtain rfl : x46 = .pointer (some ⟨w.heap.size, 2, none⟩) := h.get 6 (hw _ rfl ⟨6, .data⟩ (by simp) rfl) (.pointer (some ⟨w.heap.size, 2, none⟩)) (by rw [HV.out]; rfl) _ rfl
          obtain ⟨q2, -⟩ := HC7.out w' h.1
          refine wpOp_step rfl fun K hK => ?_
          go_simp
          exact hK _ _ ⟨x40, x41, x42, x43, x44, x45, _, _, x48, x49, x50, x51, x52, rfl, h.same 7 _ _ (by rw [HV.out]; rfl) rfl, ht.same 7 (by decide) (by decide) (by decide)⟩
        · refine wpOp_step rfl fun K hK => ?_
          go_simp
          exact hK _ _ ⟨x40, x41, x42, x43, x44, x45, x46, x47, _, x49, x50, x51, x52, rfl, h.same 8 _ _ (by rw [HV.out]; rfl) rfl, ht.same 8 (by decide) (by decide) (by decide)⟩
        · obtain rfl : x48 = .int .i64 (k : Int) := h.get 8 (hw _ rfl ⟨8, .data⟩ (by simp) rfl) (.int .i64 (k : Int)) (by rw [HV.out]; rfl) _ rfl
          refine wpOp_step rfl fun K hK => ?_
          go_simp
          exact hK _ _ ⟨x40, x41, x42, x43, x44, x45, x46, x47, _, _, x50, x51, x52, rfl, h.same 9 _ _ (by rw [HV.out]; rfl) rfl, ht.same 9 (by decide) (by decide) (by decide)⟩
        · obtain rfl : x47 = .slice a l.length c := h.get 7 (hw _ rfl ⟨7, .data⟩ (by simp) rfl) (.slice a l.length c) (by rw [HV.out]; rfl) _ rfl
          obtain rfl : x49 = .int .i64 ((k : Int) + 1) := h.get 9 (hw _ rfl ⟨9, .data⟩ (by simp) rfl) (.int .i64 ((k : Int) + 1)) (by rw [HV.out]; rfl) _ rfl
          refine wpOp_step rfl fun K hK => ?_
          go_simp
          rw [if_pos (by omega)]
          rw [show Value.slice (if c = k + 1 then a else Option.map (fun x => x.add ((k + 1) * 4)) a) (l.length - (k + 1)) (c - (k + 1)) = .slice a2 (l.length - (k + 1)) c2 from HSL.out]
          exact hK _ _ ⟨x40, x41, x42, x43, x44, x45, x46, _, x48, _, _, x51, x52, rfl, h.same 10 _ _ (by rw [HV.out]; rfl) rfl, ht.same 10 (by decide) (by decide) (by decide)⟩
        · obtain rfl : x50 = .slice a2 (l.length - (k + 1)) c2 := h.get 10 (hw _ rfl ⟨10, .data⟩ (by simp) rfl) (.slice a2 (l.length - (k + 1)) c2) (by rw [HV.out]; rfl) _ rfl
          have hd45 : d 5 := hw _ rfl ⟨5, .data⟩ (by simp) rfl
          refine wpOp_step rfl fun K hK => ?_
          have ho := ht.own1 hd45 hn
          refine wp_append_any (.tmp 45) (.tmp 50) 22 rfl W7.heap.size 36 i1 _ 4 56 Tryz.underlying22 hi1 hy0 hy1 hy2 rfl (by omega) x45 k ((L.take k).flatMap encQ) rfl ho a2 (l.length - (k + 1)) c2 ((L.drop (k + 1)).flatMap encQ) rfl (by rw [flatQ_len]; simp only [List.length_drop]; omega) (fun h0 => (HCQ.out w' h.1).2.news (by simp only [List.length_drop]; omega)) (fun u hu => encQ_one _ u hu) (by unfold maxLen; omega) (by omega) hsz _ rfl ?_
          intro a5 c5 w5 ho5 hg5 hat5
          exact hK _ _ ⟨x40, x41, x42, x43, x44, x45, x46, x47, x48, x49, _, _, x52, rfl, h.did (below_grown h.1 hsz hg5 (fun b hb => (ho.lt b hb).1)) 11 _ none (by rw [HV.out]; rfl) (fun _ e => by cases e), ht.s2 hd45 ho5⟩
        · refine wpOp_step rfl fun K hK => ?_
          go_simp
          exact hK _ _ ⟨x40, x41, x42, x43, x44, x45, x46, x47, x48, x49, x50, x51, _, rfl, h.same 12 _ _ (by rw [HV.out]; rfl) rfl, ht.same 12 (by decide) (by decide) (by decide)⟩
        · omega
      case last =>
        rintro d a' w' hall ⟨x40, x41, x42, x43, x44, x45, x46, x47, x48, x49, x50, x51, x52, rfl, h, ht⟩
        obtain rfl : x52 = .pointer (some ⟨w6.heap.size, 2, none⟩) := h.get 12 (hall _ (by omega)) (.pointer (some ⟨w6.heap.size, 2, none⟩)) (by rw [HV.out]; rfl) _ rfl
        have ho9 := ht.own2 (hall _ (by omega))
        have HB79 := Lib.hid h.1
        clear h ht hall HV
        obtain ⟨a9, c9, rfl⟩ := owns_slice ho9
        obtain ⟨M, hM⟩ : ∃ M, M = l.eraseIdx k := ⟨_, rfl⟩
        obtain ⟨Lx, hLx⟩ : ∃ Lx, Lx = L.take k ++ L.drop (k + 1) := ⟨_, rfl⟩
        have hLxm : Lx.map (·.1) = M := by rw [hLx, List.map_append, List.map_take, List.map_drop, HL1.out, erase_eq, hM]
        have hLxl : Lx.length = M.length := by rw [← hLxm, List.length_map]
        have hnM : k + (l.length - (k + 1)) = M.length := by rw [hM, List.length_eraseIdx, if_pos hk]; omega
        rw [← List.flatMap_append, ← hLx] at ho9
        rw [hnM] at ho9 ⊢
        have hres := below_row HB79.out HR7.out (heap_lt HX7.out)
        obtain ⟨W10, hW10⟩ : ∃ W10, W10 = w'.setCell ⟨w6.heap.size, 2, none⟩ (.slice a9 M.length c9) := ⟨_, rfl⟩
        have hx10 : W10.heap[w6.heap.size]? = some (.cells #[.int .i64 v, .int .i64 e, .slice a9 M.length c9] 24 (0, 0)) := by
          rw [hW10]
          exact row3_heap ((hres.set 2 (.slice a9 M.length c9)).congr fun j hj => by rcases j with _ | _ | _ | j <;> first | rfl | omega)
        have hz67 : w6.heap.size < W7.heap.size := heap_lt HX7.out
        have ho10 : W10.ownsRow W7.heap.size 36 4 (.slice a9 M.length c9) M.length (Lx.flatMap encQ) := by rw [hW10]; exact owns_touch ho9 (touch_put _) (fun b hb e => by omega)
        have hb610 : Below w6.heap.size w6 W10 := by rw [hW10]; exact (HB67.out.trans (HB79.out.mono HB67.out.size)).setCell (Nat.le_refl _) _
        have hp10 : PinsAt W10 0 W10.heap.size a9 M := by
          rw [← hLxm]
          rw [← hLxl] at ho10
          exact ownsQ_pins ho10 (fun q hq => by
            have hq2 := HL2.out q (by rw [hLx] at hq; exact (List.mem_append.1 hq).elim List.mem_of_mem_take List.mem_of_mem_drop)
            exact ⟨hq2.1, hq2.2.below hb610 (Nat.le_refl _) (Nat.le_refl _) (Nat.le_refl _)⟩) hb610.size
        have HB10 := Lib.hid (show Below W2.heap.size W2 W10 from HB6.out.trans (hb610.mono HB6.out.size))
        have HPM := Lib.hid (show ∀ w' : World, Below W10.heap.size W10 w' → PinsAt w' 0 w'.heap.size a9 M from fun w' h => hp10.below h (Nat.le_refl _) (Nat.zero_le _) h.size)
        have HC10 := Lib.hid (show ∀ w' : World, Below W10.heap.size W10 w' → (w'.cell? ⟨w.heap.size, 0, none⟩ = some (.int .i64 v) ∧ w'.cell? ⟨w.heap.size, 1, none⟩ = some (.int .i64 e) ∧ w'.cell? ⟨w.heap.size, 2, none⟩ = some (.slice a l.length c)) ∧ w'.cell? ⟨w6.heap.size, 0, none⟩ = some (.int .i64 v) ∧ w'.cell? ⟨w6.heap.size, 1, none⟩ = some (.int .i64 e) ∧ w'.cell? ⟨w6.heap.size, 2, none⟩ = some (.slice a9 M.length c9) from fun w' h => by
          have x := (h.block _ (heap_lt hx10)).trans hx10
          exact ⟨HC.out w' (HB10.out.trans (h.mono HB10.out.size)), box_cell x rfl, box_cell x rfl, box_cell x rfl⟩)
        have HPA2 := Lib.hid (show ∀ w' : World, Below W10.heap.size W10 w' → PinsAt w' 0 w'.heap.size a l from fun w' h => HPA.out w' (HB10.out.trans (h.mono HB10.out.size)))
        have hMl : M.length ≤ 600 := by rw [hM, List.length_eraseIdx, if_pos hk]; omega
        have HFM := Lib.hid (show ∀ p ∈ M, PinFits p from fun p hp => HF.out p (by rw [hM] at hp; exact List.mem_of_mem_eraseIdx hp))
        have HPSM := Lib.hid (show ∀ p ∈ M, PinShort p from fun p hp => HPS.out p (by rw [hM] at hp; exact List.mem_of_mem_eraseIdx hp))
        have HMM := Lib.hid (show maySnap ⟨v, e, M⟩ = true by rw [hM]; exact less_may HM.out k)
        have HLP := Lib.hid (show ∀ i (hi : i < l.length), roleErr l[i].name = 0 ∧ pinOf M (roleStr l[i].name) = (if i = k then none else some l[i]) from fun i hi => ⟨by
          have h1 : (roleOf l[i].name).isSome = true := role_str HM.out i hi
          unfold roleErr
          rw [if_pos h1], by rw [hM]; exact less_pin HM.out k i hi⟩)
        have HMC := Lib.hid (snapMay v e M a9 c9 W10 (HPM.out W10 (Below.refl _ _)) (by omega) HFM.out (HTW.out W10 HB10.out).1 (HTW.out W10 HB10.out).2)
        rw [HMM.out] at HMC
        have HNS := Lib.hid (show SnapV.mk v e l ≠ ⟨v, e, M⟩ from fun h => by rw [hM] at h; exact erase_ne l k hk (by injection h))
        have t2 := hres.cell (i := 2) (by decide)
        have s2 := hres.frozen 2
        simp only [pick3] at t2
        clear hres ho9 ho10 hx10 hb610 hp10 hLxm hLxl hnM hM hLx hz67
        go_upto_region 6 with fail
        rw [← hW10]
        clear hW10 t2 s2
        obtain ⟨⟨q0, q1, q2⟩, y0, y1, y2⟩ := HC10.out W10 (Below.refl _ _)
        go_wp2_with fail
        refine HMC.out.mono ?_
        clear HMC q0 q1 q2 y0 y1 y2
        rintro r w11 ⟨rfl, hb11⟩
        have HB11 := Lib.hid hb11
        obtain ⟨⟨q0, q1, q2⟩, y0, y1, y2⟩ := HC10.out w11 hb11
        have HSC := Lib.hid (snapSame v e l v e M a a9 c c9 w11 (HPA2.out w11 hb11) (HPM.out w11 hb11) HF.out HFM.out hl (by omega))
        clear hb11
        go_wp2_with fail
        refine HSC.out.mono ?_
        clear HSC q0 q1 q2 y0 y1 y2
        rintro r w12 ⟨b, rfl, hbe, hb12⟩
        obtain rfl : b = false := by
          cases b with
          | false => rfl
          | true => exact absurd (hbe.1 rfl) HNS.out
        have HB12 := Lib.hid (HB11.out.trans (hb12.mono HB11.out.size))
        clear hb12 hbe
        go_wp2
        go_loopw [7, 8, 9, 10, 11] (fun i _ _ _ _ wr => ∃ j : Nat, j ≤ l.length ∧ i = .int .i64 j ∧ Below W10.heap.size W10 wr) (fun i _ _ _ _ _ => l.length - (intOf i).toNat)
        case atStart => exact ⟨0, by omega, rfl, HB12.out⟩
        case round =>
          obtain ⟨j, hj, rfl, hb⟩ := hrel
          have HB := Lib.hid hb
          clear HB12 HB11
          obtain ⟨⟨q0, q1, q2⟩, y0, y1, y2⟩ := HC10.out wr HB.out
          by_cases hlt : j < l.length
          · obtain ⟨b1, o1, ha1, _, hbl1, e0, e1, e2, hha, hca, e3, _, hk1⟩ := (HPA2.out wr hb).at j hlt
            subst ha1
            have hmem : l[j] ∈ l := List.getElem_mem hlt
            have HLK := Lib.hid (HLP.out j hlt)
            have HPK := Lib.hid (HPS.out l[j] hmem)
            have HPN := Lib.hid (show ∀ w' : World, Below wr.heap.size wr w' → KeysAt w' 0 w'.heap.size hha l[j].hs from fun w' h => hk1.below h (Nat.le_refl _) (Nat.le_refl _) h.size)
            have HCP := Lib.hid (show ∀ w' : World, Below wr.heap.size wr w' → w'.cell? ⟨b1, o1 + j * 4, none⟩ = some (.string l[j].name) ∧ w'.cell? ⟨b1, o1 + j * 4 + 1, none⟩ = some (.int .i64 l[j].ver) ∧ w'.cell? ⟨b1, o1 + j * 4 + 2, none⟩ = some (.int .i64 l[j].len) ∧ w'.cell? ⟨b1, o1 + j * 4 + 3, none⟩ = some (.slice hha l[j].hs.length hca) from fun w' h => ⟨by rw [h.cell hbl1]; exact e0, by rw [h.cell hbl1]; exact e1, by rw [h.cell hbl1]; exact e2, by rw [h.cell hbl1]; exact e3⟩)
            obtain ⟨p, hp⟩ : ∃ p, p = l[j] := ⟨_, rfl⟩
            rw [← hp] at HLK HPK HPN HCP e0 e1 e2 e3 hk1
            obtain ⟨nm, vr, ln, hs⟩ := p
            dsimp only at HLK HPK HPN HCP e0 e1 e2 e3 hk1
            obtain ⟨rr, hrr⟩ : ∃ rr, rr = roleStr nm := ⟨_, rfl⟩
            have HRR := Lib.hid hrr
            have HRC := Lib.hid (show ∀ w' : World, Calls Tryz.prog 40 #[.string nm] w' (fun e w'' => e = .returned (.tuple #[.string rr, .int .i64 0]) ∧ w'' = w') from fun w' => by
              have h := nameRoleOf nm w' (by have := HPK.out.1; dsimp only at this; omega)
              rw [HLK.out.1, ← HRR.out] at h
              exact h)
            have HPC := Lib.hid (show ∀ w' : World, Below W10.heap.size W10 w' → Calls Tryz.prog 17 #[.agg #[.int .i64 v, .int .i64 e, .slice a9 M.length c9], .string rr] w' (PinPost M rr w') from fun w' h =>
              snapPin v e M rr a9 c9 w' (HPM.out w' h) (by omega) (by rw [HRR.out]; have h1 := HPK.out.1; have := role_size nm; dsimp only at h1; omega) (fun p hp => by have := (HPSM.out p hp).2.1; omega))
            clear hrr hp hmem e1 e2 e3 hk1 hb
            go_wp2_with fail
            refine (HRC.out wr).mono ?_
            rintro r w1 ⟨rfl, hw1⟩
            subst hw1
            clear e0 HRC
            go_wp2_with fail
            refine (HPC.out w1 HB.out).mono ?_
            clear HPC q0 q1 q2 y0 y1 y2
            rintro r w7 ⟨ha, hc, rfl, hk7, hb7⟩
            rw [HRR.out, HLK.out.2] at hk7 ⊢
            have HB7 := Lib.hid (HB.out.trans (hb7.mono HB.out.size))
            by_cases hjk : j = k
            · have hne : ((j : Int) != (k : Int)) = false := by simp [hjk]
              rw [if_pos hjk] at hk7 ⊢
              dsimp only [Option.getD_none, Option.isSome_none, pinZ]
              clear hk7 hjk
              go_upto_region 13 with fail
              obtain ⟨W8, hW8⟩ : ∃ W8, W8 = w7.alloc (.cells #[.string { data := #[] }, .int .i64 0, .int .i64 0, .slice ha 0 hc] 36) := ⟨_, rfl⟩
              have HB8 := Lib.hid (show Below W10.heap.size W10 W8 by rw [hW8]; exact HB7.out.alloc HB7.out.size _)
              rw [← hW8]
              clear hW8 hb7
              obtain ⟨V, hV⟩ : ∃ V : List MP, V = [.con (.int .i64 0), .con (.bool false), .con (.bool false), .con (.bool false), .con (.int .i64 j), .con (.int .i64 k), .con (.bool false), .con (.bool false), .con (.bool false), .con (.bool false), .con (.bool false), .con (.bool false), .any, .any, .any, .any, .any, .any, .any, .any, .con (.bool false)] := ⟨_, rfl⟩
              have HV := Lib.hid hV
              clear hV
              refine wp_region_inv 21 (fun d a' w' => ∃ x84 x85 x86 x87 x88 x89 x90 x91 x92 x93 x94 x95 x96 x97 x98 x99 x100 x101 x102 x103 x104, a' = ⟨#[Value.agg #[Value.int IntKind.i64 v, Value.int IntKind.i64 e, Value.slice (some { block := b1, off := o1 }) l.length c], Value.int IntKind.i64 which, Value.pointer (some { block := w.heap.size, off := 0 }), undef, u4, Value.int IntKind.i64 (k : Int), Value.pointer (some { block := w6.heap.size, off := 0 }), Value.int IntKind.i64 (j : Int), Value.string (roleStr nm), Value.int IntKind.i64 0, Value.pointer (some { block := w7.heap.size, off := 0 }), Value.bool false, Value.agg #[Value.int IntKind.i64 v, Value.int IntKind.i64 e, Value.slice (some { block := b1, off := o1 }) l.length c], Value.slice (some { block := W2.heap.size, off := 0 }) 1 1, Value.bool false, Value.bool false, Value.agg #[Value.int IntKind.i64 v, Value.int IntKind.i64 e, Value.slice (some { block := b1, off := o1 }) l.length c], Value.bool true, Value.bool false, Value.bool false, Value.bool false, Value.pointer (some { block := w.heap.size, off := 2 }), Value.slice (some { block := b1, off := o1 }) l.length c, Value.int IntKind.i64 (l.length : Int), Value.bool false, Value.bool false, Value.bool false, Value.bool true, Value.bool false, Value.bool false, undef, Value.int IntKind.i64 which, Value.int IntKind.u64 (IntKind.u64.wrap which), Value.pointer (some { block := w.heap.size, off := 2 }), Value.slice (some { block := b1, off := o1 }) l.length c, Value.int IntKind.i64 (l.length : Int), Value.int IntKind.u64 (l.length : Int), Value.int IntKind.u64 ((IntKind.u64.wrap which).tmod (l.length : Int)), Value.int IntKind.i64 (k : Int), Value.agg #[Value.int IntKind.i64 v, Value.int IntKind.i64 e, Value.slice (some { block := b1, off := o1 }) l.length c], x40, x41, x42, x43, x44, x45, x46, x47, x48, x49, x50, Value.slice a9 M.length c9, Value.pointer (some { block := w6.heap.size, off := 2 }), Value.agg #[Value.int IntKind.i64 v, Value.int IntKind.i64 e, Value.slice a9 M.length c9], Value.bool true, Value.bool false, Value.bool false, Value.agg #[Value.int IntKind.i64 v, Value.int IntKind.i64 e, Value.slice (some { block := b1, off := o1 }) l.length c], Value.agg #[Value.int IntKind.i64 v, Value.int IntKind.i64 e, Value.slice a9 M.length c9], Value.bool false, Value.bool false, Value.int IntKind.i64 (j : Int), Value.pointer (some { block := w.heap.size, off := 2 }), Value.slice (some { block := b1, off := o1 }) l.length c, Value.int IntKind.i64 (l.length : Int), Value.bool true, u66, u67, Value.tuple #[Value.string (roleStr nm), Value.int IntKind.i64 0], Value.pointer (some { block := w.heap.size, off := 2 }), Value.slice (some { block := b1, off := o1 }) l.length c, Value.int IntKind.i64 (j : Int), Value.pointer (some { block := b1, off := o1 + j * 4 }), Value.pointer (some { block := b1, off := o1 + j * 4 }), Value.string nm, Value.tuple #[Value.string (roleStr nm), Value.int IntKind.i64 0], Value.string (roleStr nm), Value.int IntKind.i64 0, Value.tuple #[Value.agg #[Value.string { data := #[] }, Value.int IntKind.i64 0, Value.int IntKind.i64 0, Value.slice ha ([] : List Key2).length hc], Value.bool false], Value.agg #[Value.int IntKind.i64 v, Value.int IntKind.i64 e, Value.slice a9 M.length c9], Value.string (roleStr nm), Value.tuple #[Value.agg #[Value.string { data := #[] }, Value.int IntKind.i64 0, Value.int IntKind.i64 0, Value.slice ha ([] : List Key2).length hc], Value.bool false], Value.agg #[Value.string { data := #[] }, Value.int IntKind.i64 0, Value.int IntKind.i64 0, Value.slice ha 0 hc], Value.bool false, x84, x85, x86, x87, x88, x89, x90, x91, x92, x93, x94, x95, x96, x97, x98, x99, x100, x101, x102, x103, x104, u105], []⟩ ∧ RegI W8 V d w' [x84, x85, x86, x87, x88, x89, x90, x91, x92, x93, x94, x95, x96, x97, x98, x99, x100, x101, x102, x103, x104]) (by kernel_rfl) (by kernel_rfl) ?first ?step ?last
              case first => exact ⟨_, _, _, _, _, _, _, _, _, _, _, _, _, _, _, _, _, _, _, _, _, rfl, RegI.first _ _ _ (by rw [HV.out]; rfl)⟩
              case step =>
                rintro d a' w' ⟨x84, x85, x86, x87, x88, x89, x90, x91, x92, x93, x94, x95, x96, x97, x98, x99, x100, x101, x102, x103, x104, rfl, h⟩ q hq hn hw
                rcases q with _ | _ | _ | _ | _ | _ | _ | _ | _ | _ | _ | _ | _ | _ | _ | _ | _ | _ | _ | _ | _ | q
                · refine wpOp_step rfl fun K hK => ?_
                  go_simp
                  exact hK _ _ ⟨_, x85, x86, x87, x88, x89, x90, x91, x92, x93, x94, x95, x96, x97, x98, x99, x100, x101, x102, x103, x104, rfl, h.same 0 _ (.con (.int .i64 0)) (by rw [HV.out]; rfl) rfl⟩
                · obtain rfl : x84 = .int .i64 0 := h.get 0 (hw _ rfl ⟨0, .data⟩ (by simp) rfl) (.con (.int .i64 0)) (by rw [HV.out]; rfl) _ rfl
                  refine wpOp_step rfl fun K hK => ?_
                  go_simp
                  exact hK _ _ ⟨_, _, x86, x87, x88, x89, x90, x91, x92, x93, x94, x95, x96, x97, x98, x99, x100, x101, x102, x103, x104, rfl, h.same 1 _ (.con (.bool false)) (by rw [HV.out]; rfl) rfl⟩
                · obtain rfl : x85 = .bool false := h.get 1 (hw _ rfl ⟨1, .data⟩ (by simp) rfl) (.con (.bool false)) (by rw [HV.out]; rfl) _ rfl
                  refine wpOp_step rfl fun K hK => ?_
                  go_simp
                  exact hK _ _ ⟨x84, _, _, x87, x88, x89, x90, x91, x92, x93, x94, x95, x96, x97, x98, x99, x100, x101, x102, x103, x104, rfl, h.same 2 _ (.con (.bool false)) (by rw [HV.out]; rfl) rfl⟩
                · obtain rfl : x86 = .bool false := h.get 2 (hw _ rfl ⟨2, .guard⟩ (by simp) rfl) (.con (.bool false)) (by rw [HV.out]; rfl) _ rfl
                  refine wpOp_step rfl fun K hK => ?_
                  go_simp
                  exact hK _ _ ⟨x84, x85, _, _, x88, x89, x90, x91, x92, x93, x94, x95, x96, x97, x98, x99, x100, x101, x102, x103, x104, rfl, h.same 3 _ (.con (.bool false)) (by rw [HV.out]; rfl) rfl⟩
                · obtain rfl : x86 = .bool false := h.get 2 (hw _ rfl ⟨2, .guard⟩ (by simp) rfl) (.con (.bool false)) (by rw [HV.out]; rfl) _ rfl
                  refine wpOp_step rfl fun K hK => ?_
                  go_simp
                  exact hK _ _ ⟨x84, x85, _, x87, _, x89, x90, x91, x92, x93, x94, x95, x96, x97, x98, x99, x100, x101, x102, x103, x104, rfl, h.same 4 _ (.con (.int .i64 j)) (by rw [HV.out]; rfl) rfl⟩
                · obtain rfl : x86 = .bool false := h.get 2 (hw _ rfl ⟨2, .guard⟩ (by simp) rfl) (.con (.bool false)) (by rw [HV.out]; rfl) _ rfl
                  refine wpOp_step rfl fun K hK => ?_
                  go_simp
                  exact hK _ _ ⟨x84, x85, _, x87, x88, _, x90, x91, x92, x93, x94, x95, x96, x97, x98, x99, x100, x101, x102, x103, x104, rfl, h.same 5 _ (.con (.int .i64 k)) (by rw [HV.out]; rfl) rfl⟩
                · obtain rfl : x86 = .bool false := h.get 2 (hw _ rfl ⟨2, .guard⟩ (by simp) rfl) (.con (.bool false)) (by rw [HV.out]; rfl) _ rfl
                  obtain rfl : x88 = .int .i64 j := h.get 4 (hw _ rfl ⟨4, .data⟩ (by simp) rfl) (.con (.int .i64 j)) (by rw [HV.out]; rfl) _ rfl
                  obtain rfl : x89 = .int .i64 k := h.get 5 (hw _ rfl ⟨5, .data⟩ (by simp) rfl) (.con (.int .i64 k)) (by rw [HV.out]; rfl) _ rfl
                  refine wpOp_step rfl fun K hK => ?_
                  go_simp
                  exact hK _ _ ⟨x84, x85, _, x87, _, _, _, x91, x92, x93, x94, x95, x96, x97, x98, x99, x100, x101, x102, x103, x104, rfl, h.same 6 _ (.con (.bool false)) (by rw [HV.out]; rfl) rfl⟩
                · obtain rfl : x86 = .bool false := h.get 2 (hw _ rfl ⟨2, .guard⟩ (by simp) rfl) (.con (.bool false)) (by rw [HV.out]; rfl) _ rfl
                  obtain rfl : x87 = .bool false := h.get 3 (hw _ rfl ⟨3, .data⟩ (by simp) rfl) (.con (.bool false)) (by rw [HV.out]; rfl) _ rfl
                  obtain rfl : x90 = .bool false := h.get 6 (hw _ rfl ⟨6, .data⟩ (by simp) rfl) (.con (.bool false)) (by rw [HV.out]; rfl) _ rfl
                  refine wpOp_step rfl fun K hK => ?_
                  go_simp
                  exact hK _ _ ⟨x84, x85, _, _, x88, x89, _, _, x92, x93, x94, x95, x96, x97, x98, x99, x100, x101, x102, x103, x104, rfl, h.same 7 _ (.con (.bool false)) (by rw [HV.out]; rfl) rfl⟩
                · obtain rfl : x86 = .bool false := h.get 2 (hw _ rfl ⟨2, .data⟩ (by simp) rfl) (.con (.bool false)) (by rw [HV.out]; rfl) _ rfl
                  obtain rfl : x91 = .bool false := h.get 7 (hw _ rfl ⟨7, .data⟩ (by simp) rfl) (.con (.bool false)) (by rw [HV.out]; rfl) _ rfl
                  refine wpOp_step rfl fun K hK => ?_
                  go_simp
                  exact hK _ _ ⟨x84, x85, _, x87, x88, x89, x90, _, _, x93, x94, x95, x96, x97, x98, x99, x100, x101, x102, x103, x104, rfl, h.same 8 _ (.con (.bool false)) (by rw [HV.out]; rfl) rfl⟩
                · obtain rfl : x92 = .bool false := h.get 8 (hw _ rfl ⟨8, .data⟩ (by simp) rfl) (.con (.bool false)) (by rw [HV.out]; rfl) _ rfl
                  refine wpOp_step rfl fun K hK => ?_
                  go_simp
                  exact hK _ _ ⟨x84, x85, x86, x87, x88, x89, x90, x91, _, _, x94, x95, x96, x97, x98, x99, x100, x101, x102, x103, x104, rfl, h.same 9 _ (.con (.bool false)) (by rw [HV.out]; rfl) rfl⟩
                · obtain rfl : x93 = .bool false := h.get 9 (hw _ rfl ⟨9, .guard⟩ (by simp) rfl) (.con (.bool false)) (by rw [HV.out]; rfl) _ rfl
                  refine wpOp_step rfl fun K hK => ?_
                  go_simp
                  exact hK _ _ ⟨x84, x85, x86, x87, x88, x89, x90, x91, x92, _, _, x95, x96, x97, x98, x99, x100, x101, x102, x103, x104, rfl, h.same 10 _ (.con (.bool false)) (by rw [HV.out]; rfl) rfl⟩
                · obtain rfl : x93 = .bool false := h.get 9 (hw _ rfl ⟨9, .chain⟩ (by simp) rfl) (.con (.bool false)) (by rw [HV.out]; rfl) _ rfl
                  obtain rfl : x94 = .bool false := h.get 10 (hw _ rfl ⟨10, .data⟩ (by simp) rfl) (.con (.bool false)) (by rw [HV.out]; rfl) _ rfl
                  refine wpOp_step rfl fun K hK => ?_
                  go_simp
                  exact hK _ _ ⟨x84, x85, x86, x87, x88, x89, x90, x91, x92, _, _, _, x96, x97, x98, x99, x100, x101, x102, x103, x104, rfl, h.same 11 _ (.con (.bool false)) (by rw [HV.out]; rfl) rfl⟩
                · obtain rfl : x95 = .bool false := h.get 11 (hw _ rfl ⟨11, .guard⟩ (by simp) rfl) (.con (.bool false)) (by rw [HV.out]; rfl) _ rfl
                  refine wpOp_step rfl fun K hK => ?_
                  go_simp
                  exact hK _ _ ⟨x84, x85, x86, x87, x88, x89, x90, x91, x92, x93, x94, _, _, x97, x98, x99, x100, x101, x102, x103, x104, rfl, h.same 12 _ .any (by rw [HV.out]; rfl) trivial⟩
                · obtain rfl : x95 = .bool false := h.get 11 (hw _ rfl ⟨11, .guard⟩ (by simp) rfl) (.con (.bool false)) (by rw [HV.out]; rfl) _ rfl
                  refine wpOp_step rfl fun K hK => ?_
                  go_simp
                  exact hK _ _ ⟨x84, x85, x86, x87, x88, x89, x90, x91, x92, x93, x94, _, x96, _, x98, x99, x100, x101, x102, x103, x104, rfl, h.same 13 _ .any (by rw [HV.out]; rfl) trivial⟩
                · obtain rfl : x95 = .bool false := h.get 11 (hw _ rfl ⟨11, .guard⟩ (by simp) rfl) (.con (.bool false)) (by rw [HV.out]; rfl) _ rfl
                  refine wpOp_step rfl fun K hK => ?_
                  go_simp
                  exact hK _ _ ⟨x84, x85, x86, x87, x88, x89, x90, x91, x92, x93, x94, _, x96, x97, _, x99, x100, x101, x102, x103, x104, rfl, h.same 14 _ .any (by rw [HV.out]; rfl) trivial⟩
                · obtain rfl : x95 = .bool false := h.get 11 (hw _ rfl ⟨11, .guard⟩ (by simp) rfl) (.con (.bool false)) (by rw [HV.out]; rfl) _ rfl
                  refine wpOp_step rfl fun K hK => ?_
                  go_simp
                  exact hK _ _ ⟨x84, x85, x86, x87, x88, x89, x90, x91, x92, x93, x94, _, x96, x97, x98, _, x100, x101, x102, x103, x104, rfl, h.same 15 _ .any (by rw [HV.out]; rfl) trivial⟩
                · obtain rfl : x95 = .bool false := h.get 11 (hw _ rfl ⟨11, .guard⟩ (by simp) rfl) (.con (.bool false)) (by rw [HV.out]; rfl) _ rfl
                  refine wpOp_step rfl fun K hK => ?_
                  go_simp
                  exact hK _ _ ⟨x84, x85, x86, x87, x88, x89, x90, x91, x92, x93, x94, _, x96, x97, x98, x99, _, x101, x102, x103, x104, rfl, h.same 16 _ .any (by rw [HV.out]; rfl) trivial⟩
                · obtain rfl : x95 = .bool false := h.get 11 (hw _ rfl ⟨11, .guard⟩ (by simp) rfl) (.con (.bool false)) (by rw [HV.out]; rfl) _ rfl
                  refine wpOp_step rfl fun K hK => ?_
                  go_simp
                  exact hK _ _ ⟨x84, x85, x86, x87, x88, x89, x90, x91, x92, x93, x94, _, x96, x97, x98, x99, x100, _, x102, x103, x104, rfl, h.same 17 _ .any (by rw [HV.out]; rfl) trivial⟩
                · obtain rfl : x95 = .bool false := h.get 11 (hw _ rfl ⟨11, .chain⟩ (by simp) rfl) (.con (.bool false)) (by rw [HV.out]; rfl) _ rfl
                  refine wpOp_step rfl fun K hK => ?_
                  go_simp
                  exact hK _ _ ⟨x84, x85, x86, x87, x88, x89, x90, x91, x92, x93, x94, _, x96, x97, x98, x99, x100, x101, _, x103, x104, rfl, h.same 18 _ .any (by rw [HV.out]; rfl) trivial⟩
                · obtain rfl : x95 = .bool false := h.get 11 (hw _ rfl ⟨11, .guard⟩ (by simp) rfl) (.con (.bool false)) (by rw [HV.out]; rfl) _ rfl
                  refine wpOp_step rfl fun K hK => ?_
                  go_simp
                  exact hK _ _ ⟨x84, x85, x86, x87, x88, x89, x90, x91, x92, x93, x94, _, x96, x97, x98, x99, x100, x101, x102, _, x104, rfl, h.same 19 _ .any (by rw [HV.out]; rfl) trivial⟩
                · obtain rfl : x93 = .bool false := h.get 9 (hw _ rfl ⟨9, .guard⟩ (by simp) rfl) (.con (.bool false)) (by rw [HV.out]; rfl) _ rfl
                  obtain rfl : x95 = .bool false := h.get 11 (hw _ rfl ⟨11, .data⟩ (by simp) rfl) (.con (.bool false)) (by rw [HV.out]; rfl) _ rfl
                  refine wpOp_step rfl fun K hK => ?_
                  go_simp
                  exact hK _ _ ⟨x84, x85, x86, x87, x88, x89, x90, x91, x92, _, x94, _, x96, x97, x98, x99, x100, x101, x102, x103, _, rfl, h.same 20 _ (.con (.bool false)) (by rw [HV.out]; rfl) rfl⟩
                · omega
              case last =>
                rintro d a' w' hall ⟨x84, x85, x86, x87, x88, x89, x90, x91, x92, x93, x94, x95, x96, x97, x98, x99, x100, x101, x102, x103, x104, rfl, h⟩
                have hle := h.1
                obtain rfl : x93 = .bool false := h.get 9 (hall _ (by omega)) (.con (.bool false)) (by rw [HV.out]; rfl) _ rfl
                obtain rfl : x104 = .bool false := h.get 20 (hall _ (by omega)) (.con (.bool false)) (by rw [HV.out]; rfl) _ rfl
                have HLE := Lib.hid hle
                clear h hall hle HV
                have HB9 := Lib.hid (HB8.out.trans (HLE.out.mono HB8.out.size))
                go_wp2_with fail
                exact ⟨⟨j + 1, by omega, by go_num, HB9.out⟩, by simp [intOf]; omega⟩
            · have hne : ((j : Int) != (k : Int)) = true := bne_iff_ne.2 (by omega)
              rw [if_neg hjk] at hk7 ⊢
              dsimp only [Option.getD_some, Option.isSome_some] at hk7 ⊢
              clear hjk
              go_upto_region 13 with fail
              obtain ⟨W8, hW8⟩ : ∃ W8, W8 = w7.alloc (.cells #[.string nm, .int .i64 vr, .int .i64 ln, .slice ha hs.length hc] 36) := ⟨_, rfl⟩
              have hx8 : W8.heap[w7.heap.size]? = some (.cells #[.string nm, .int .i64 vr, .int .i64 ln, .slice ha hs.length hc] 36 (0, 0)) := by rw [hW8]; exact heap_alloc_new w7 _
              have hb78 : Below w7.heap.size w7 W8 := by rw [hW8]; exact (Below.refl _ _).alloc (Nat.le_refl _) _
              have HB8 := Lib.hid (show Below W10.heap.size W10 W8 by rw [hW8]; exact HB7.out.alloc HB7.out.size _)
              have HB18 := Lib.hid (show Below w1.heap.size w1 W8 from hb7.trans (hb78.mono hb7.size))
              have HC8 := Lib.hid (show ∀ w' : World, Below W8.heap.size W8 w' → w'.cell? ⟨w.heap.size, 2, none⟩ = some (.slice (some ⟨b1, o1, none⟩) l.length c) ∧ w'.cell? ⟨w7.heap.size, 0, none⟩ = some (.string nm) ∧ w'.cell? ⟨w7.heap.size, 1, none⟩ = some (.int .i64 vr) ∧ w'.cell? ⟨w7.heap.size, 2, none⟩ = some (.int .i64 ln) ∧ w'.cell? ⟨w7.heap.size, 3, none⟩ = some (.slice ha hs.length hc) ∧ w'.cell? ⟨b1, o1 + j * 4, none⟩ = some (.string nm) ∧ w'.cell? ⟨b1, o1 + j * 4 + 1, none⟩ = some (.int .i64 vr) ∧ w'.cell? ⟨b1, o1 + j * 4 + 2, none⟩ = some (.int .i64 ln) ∧ w'.cell? ⟨b1, o1 + j * 4 + 3, none⟩ = some (.slice hha hs.length hca) from fun w' h => by
                have x := (h.block _ (heap_lt hx8)).trans hx8
                obtain ⟨z0, z1, z2, z3⟩ := HCP.out w' (HB18.out.trans (h.mono HB18.out.size))
                exact ⟨(HC10.out w' (HB8.out.trans (h.mono HB8.out.size))).1.2.2, box_cell x rfl, box_cell x rfl, box_cell x rfl, box_cell x rfl, z0, z1, z2, z3⟩)
              have HSP := Lib.hid (show ∀ w' : World, Below W8.heap.size W8 w' → Calls Tryz.prog 20 #[.agg #[.string nm, .int .i64 vr, .int .i64 ln, .slice ha hs.length hc], .agg #[.string nm, .int .i64 vr, .int .i64 ln, .slice hha hs.length hca]] w' (fun e w'' => e = .returned (.bool true) ∧ Below w'.heap.size w' w'') from fun w' h =>
                ref23SamePin nm vr ln hs ha hha hc hca w' (hk7.below (hb78.trans (h.mono hb78.size)) (Nat.le_refl _) (Nat.le_refl _) (Nat.le_trans hb78.size h.size)) (HPN.out w' (HB18.out.trans (h.mono HB18.out.size))) (by have := HPK.out.2.1; dsimp only at this; omega))
              rw [← hW8]
              clear hW8 hx8 hb78 hk7 hb7 HPN HCP
              obtain ⟨V, hV⟩ : ∃ V : List MP, V = [.con (.int .i64 0), .con (.bool false), .con (.bool false), .con (.bool true), .con (.int .i64 j), .con (.int .i64 k), .con (.bool true), .con (.bool false), .con (.bool false), .con (.bool false), .con (.bool true), .con (.bool true), .con (.agg #[.string nm, .int .i64 vr, .int .i64 ln, .slice ha hs.length hc]), .con (.pointer (some ⟨w.heap.size, 2, none⟩)), .con (.slice (some ⟨b1, o1, none⟩) l.length c), .con (.int .i64 j), .con (.pointer (some ⟨b1, o1 + j * 4, none⟩)), .con (.agg #[.string nm, .int .i64 vr, .int .i64 ln, .slice hha hs.length hca]), .con (.bool true), .con (.bool false), .con (.bool false)] := ⟨_, rfl⟩
              have HV := Lib.hid hV
              clear hV
              refine wp_region_inv 21 (fun d a' w' => ∃ x84 x85 x86 x87 x88 x89 x90 x91 x92 x93 x94 x95 x96 x97 x98 x99 x100 x101 x102 x103 x104, a' = ⟨#[Value.agg #[Value.int IntKind.i64 v, Value.int IntKind.i64 e, Value.slice (some { block := b1, off := o1 }) l.length c], Value.int IntKind.i64 which, Value.pointer (some { block := w.heap.size, off := 0 }), undef, u4, Value.int IntKind.i64 (k : Int), Value.pointer (some { block := w6.heap.size, off := 0 }), Value.int IntKind.i64 (j : Int), Value.string (roleStr nm), Value.int IntKind.i64 0, Value.pointer (some { block := w7.heap.size, off := 0 }), Value.bool true, Value.agg #[Value.int IntKind.i64 v, Value.int IntKind.i64 e, Value.slice (some { block := b1, off := o1 }) l.length c], Value.slice (some { block := W2.heap.size, off := 0 }) 1 1, Value.bool false, Value.bool false, Value.agg #[Value.int IntKind.i64 v, Value.int IntKind.i64 e, Value.slice (some { block := b1, off := o1 }) l.length c], Value.bool true, Value.bool false, Value.bool false, Value.bool false, Value.pointer (some { block := w.heap.size, off := 2 }), Value.slice (some { block := b1, off := o1 }) l.length c, Value.int IntKind.i64 (l.length : Int), Value.bool false, Value.bool false, Value.bool false, Value.bool true, Value.bool false, Value.bool false, undef, Value.int IntKind.i64 which, Value.int IntKind.u64 (IntKind.u64.wrap which), Value.pointer (some { block := w.heap.size, off := 2 }), Value.slice (some { block := b1, off := o1 }) l.length c, Value.int IntKind.i64 (l.length : Int), Value.int IntKind.u64 (l.length : Int), Value.int IntKind.u64 ((IntKind.u64.wrap which).tmod (l.length : Int)), Value.int IntKind.i64 (k : Int), Value.agg #[Value.int IntKind.i64 v, Value.int IntKind.i64 e, Value.slice (some { block := b1, off := o1 }) l.length c], x40, x41, x42, x43, x44, x45, x46, x47, x48, x49, x50, Value.slice a9 M.length c9, Value.pointer (some { block := w6.heap.size, off := 2 }), Value.agg #[Value.int IntKind.i64 v, Value.int IntKind.i64 e, Value.slice a9 M.length c9], Value.bool true, Value.bool false, Value.bool false, Value.agg #[Value.int IntKind.i64 v, Value.int IntKind.i64 e, Value.slice (some { block := b1, off := o1 }) l.length c], Value.agg #[Value.int IntKind.i64 v, Value.int IntKind.i64 e, Value.slice a9 M.length c9], Value.bool false, Value.bool false, Value.int IntKind.i64 (j : Int), Value.pointer (some { block := w.heap.size, off := 2 }), Value.slice (some { block := b1, off := o1 }) l.length c, Value.int IntKind.i64 (l.length : Int), Value.bool true, u66, u67, Value.tuple #[Value.string (roleStr nm), Value.int IntKind.i64 0], Value.pointer (some { block := w.heap.size, off := 2 }), Value.slice (some { block := b1, off := o1 }) l.length c, Value.int IntKind.i64 (j : Int), Value.pointer (some { block := b1, off := o1 + j * 4 }), Value.pointer (some { block := b1, off := o1 + j * 4 }), Value.string nm, Value.tuple #[Value.string (roleStr nm), Value.int IntKind.i64 0], Value.string (roleStr nm), Value.int IntKind.i64 0, Value.tuple #[Value.agg #[Value.string nm, Value.int IntKind.i64 vr, Value.int IntKind.i64 ln, Value.slice ha hs.length hc], Value.bool true], Value.agg #[Value.int IntKind.i64 v, Value.int IntKind.i64 e, Value.slice a9 M.length c9], Value.string (roleStr nm), Value.tuple #[Value.agg #[Value.string nm, Value.int IntKind.i64 vr, Value.int IntKind.i64 ln, Value.slice ha hs.length hc], Value.bool true], Value.agg #[Value.string nm, Value.int IntKind.i64 vr, Value.int IntKind.i64 ln, Value.slice ha hs.length hc], Value.bool true, x84, x85, x86, x87, x88, x89, x90, x91, x92, x93, x94, x95, x96, x97, x98, x99, x100, x101, x102, x103, x104, u105], []⟩ ∧ RegI W8 V d w' [x84, x85, x86, x87, x88, x89, x90, x91, x92, x93, x94, x95, x96, x97, x98, x99, x100, x101, x102, x103, x104]) (by kernel_rfl) (by kernel_rfl) ?first ?step ?last
              case first => exact ⟨_, _, _, _, _, _, _, _, _, _, _, _, _, _, _, _, _, _, _, _, _, rfl, RegI.first _ _ _ (by rw [HV.out]; rfl)⟩
              case step =>
                rintro d a' w' ⟨x84, x85, x86, x87, x88, x89, x90, x91, x92, x93, x94, x95, x96, x97, x98, x99, x100, x101, x102, x103, x104, rfl, h⟩ q hq hn hw
                rcases q with _ | _ | _ | _ | _ | _ | _ | _ | _ | _ | _ | _ | _ | _ | _ | _ | _ | _ | _ | _ | _ | q
                · refine wpOp_step rfl fun K hK => ?_
                  go_simp
                  exact hK _ _ ⟨_, x85, x86, x87, x88, x89, x90, x91, x92, x93, x94, x95, x96, x97, x98, x99, x100, x101, x102, x103, x104, rfl, h.same 0 _ (.con (.int .i64 0)) (by rw [HV.out]; rfl) rfl⟩
                · obtain rfl : x84 = .int .i64 0 := h.get 0 (hw _ rfl ⟨0, .data⟩ (by simp) rfl) (.con (.int .i64 0)) (by rw [HV.out]; rfl) _ rfl
                  refine wpOp_step rfl fun K hK => ?_
                  go_simp
                  exact hK _ _ ⟨_, _, x86, x87, x88, x89, x90, x91, x92, x93, x94, x95, x96, x97, x98, x99, x100, x101, x102, x103, x104, rfl, h.same 1 _ (.con (.bool false)) (by rw [HV.out]; rfl) rfl⟩
                · obtain rfl : x85 = .bool false := h.get 1 (hw _ rfl ⟨1, .data⟩ (by simp) rfl) (.con (.bool false)) (by rw [HV.out]; rfl) _ rfl
                  refine wpOp_step rfl fun K hK => ?_
                  go_simp
                  exact hK _ _ ⟨x84, _, _, x87, x88, x89, x90, x91, x92, x93, x94, x95, x96, x97, x98, x99, x100, x101, x102, x103, x104, rfl, h.same 2 _ (.con (.bool false)) (by rw [HV.out]; rfl) rfl⟩
                · obtain rfl : x86 = .bool false := h.get 2 (hw _ rfl ⟨2, .guard⟩ (by simp) rfl) (.con (.bool false)) (by rw [HV.out]; rfl) _ rfl
                  refine wpOp_step rfl fun K hK => ?_
                  go_simp
                  exact hK _ _ ⟨x84, x85, _, _, x88, x89, x90, x91, x92, x93, x94, x95, x96, x97, x98, x99, x100, x101, x102, x103, x104, rfl, h.same 3 _ (.con (.bool true)) (by rw [HV.out]; rfl) rfl⟩
                · obtain rfl : x86 = .bool false := h.get 2 (hw _ rfl ⟨2, .guard⟩ (by simp) rfl) (.con (.bool false)) (by rw [HV.out]; rfl) _ rfl
                  refine wpOp_step rfl fun K hK => ?_
                  go_simp
                  exact hK _ _ ⟨x84, x85, _, x87, _, x89, x90, x91, x92, x93, x94, x95, x96, x97, x98, x99, x100, x101, x102, x103, x104, rfl, h.same 4 _ (.con (.int .i64 j)) (by rw [HV.out]; rfl) rfl⟩
                · obtain rfl : x86 = .bool false := h.get 2 (hw _ rfl ⟨2, .guard⟩ (by simp) rfl) (.con (.bool false)) (by rw [HV.out]; rfl) _ rfl
                  refine wpOp_step rfl fun K hK => ?_
                  go_simp
                  exact hK _ _ ⟨x84, x85, _, x87, x88, _, x90, x91, x92, x93, x94, x95, x96, x97, x98, x99, x100, x101, x102, x103, x104, rfl, h.same 5 _ (.con (.int .i64 k)) (by rw [HV.out]; rfl) rfl⟩
                · obtain rfl : x86 = .bool false := h.get 2 (hw _ rfl ⟨2, .guard⟩ (by simp) rfl) (.con (.bool false)) (by rw [HV.out]; rfl) _ rfl
                  obtain rfl : x88 = .int .i64 j := h.get 4 (hw _ rfl ⟨4, .data⟩ (by simp) rfl) (.con (.int .i64 j)) (by rw [HV.out]; rfl) _ rfl
                  obtain rfl : x89 = .int .i64 k := h.get 5 (hw _ rfl ⟨5, .data⟩ (by simp) rfl) (.con (.int .i64 k)) (by rw [HV.out]; rfl) _ rfl
                  refine wpOp_step rfl fun K hK => ?_
                  go_simp
                  exact hK _ _ ⟨x84, x85, _, x87, _, _, _, x91, x92, x93, x94, x95, x96, x97, x98, x99, x100, x101, x102, x103, x104, rfl, h.same 6 _ (.con (.bool true)) (by rw [HV.out]; rfl) rfl⟩
                · obtain rfl : x86 = .bool false := h.get 2 (hw _ rfl ⟨2, .guard⟩ (by simp) rfl) (.con (.bool false)) (by rw [HV.out]; rfl) _ rfl
                  obtain rfl : x87 = .bool true := h.get 3 (hw _ rfl ⟨3, .data⟩ (by simp) rfl) (.con (.bool true)) (by rw [HV.out]; rfl) _ rfl
                  obtain rfl : x90 = .bool true := h.get 6 (hw _ rfl ⟨6, .data⟩ (by simp) rfl) (.con (.bool true)) (by rw [HV.out]; rfl) _ rfl
                  refine wpOp_step rfl fun K hK => ?_
                  go_simp
                  exact hK _ _ ⟨x84, x85, _, _, x88, x89, _, _, x92, x93, x94, x95, x96, x97, x98, x99, x100, x101, x102, x103, x104, rfl, h.same 7 _ (.con (.bool false)) (by rw [HV.out]; rfl) rfl⟩
                · obtain rfl : x86 = .bool false := h.get 2 (hw _ rfl ⟨2, .data⟩ (by simp) rfl) (.con (.bool false)) (by rw [HV.out]; rfl) _ rfl
                  obtain rfl : x91 = .bool false := h.get 7 (hw _ rfl ⟨7, .data⟩ (by simp) rfl) (.con (.bool false)) (by rw [HV.out]; rfl) _ rfl
                  refine wpOp_step rfl fun K hK => ?_
                  go_simp
                  exact hK _ _ ⟨x84, x85, _, x87, x88, x89, x90, _, _, x93, x94, x95, x96, x97, x98, x99, x100, x101, x102, x103, x104, rfl, h.same 8 _ (.con (.bool false)) (by rw [HV.out]; rfl) rfl⟩
                · obtain rfl : x92 = .bool false := h.get 8 (hw _ rfl ⟨8, .data⟩ (by simp) rfl) (.con (.bool false)) (by rw [HV.out]; rfl) _ rfl
                  refine wpOp_step rfl fun K hK => ?_
                  go_simp
                  exact hK _ _ ⟨x84, x85, x86, x87, x88, x89, x90, x91, _, _, x94, x95, x96, x97, x98, x99, x100, x101, x102, x103, x104, rfl, h.same 9 _ (.con (.bool false)) (by rw [HV.out]; rfl) rfl⟩
                · obtain rfl : x93 = .bool false := h.get 9 (hw _ rfl ⟨9, .guard⟩ (by simp) rfl) (.con (.bool false)) (by rw [HV.out]; rfl) _ rfl
                  refine wpOp_step rfl fun K hK => ?_
                  go_simp
                  exact hK _ _ ⟨x84, x85, x86, x87, x88, x89, x90, x91, x92, _, _, x95, x96, x97, x98, x99, x100, x101, x102, x103, x104, rfl, h.same 10 _ (.con (.bool true)) (by rw [HV.out]; rfl) rfl⟩
                · obtain rfl : x93 = .bool false := h.get 9 (hw _ rfl ⟨9, .chain⟩ (by simp) rfl) (.con (.bool false)) (by rw [HV.out]; rfl) _ rfl
                  obtain rfl : x94 = .bool true := h.get 10 (hw _ rfl ⟨10, .data⟩ (by simp) rfl) (.con (.bool true)) (by rw [HV.out]; rfl) _ rfl
                  refine wpOp_step rfl fun K hK => ?_
                  go_simp
                  exact hK _ _ ⟨x84, x85, x86, x87, x88, x89, x90, x91, x92, _, _, _, x96, x97, x98, x99, x100, x101, x102, x103, x104, rfl, h.same 11 _ (.con (.bool true)) (by rw [HV.out]; rfl) rfl⟩
                · obtain rfl : x95 = .bool true := h.get 11 (hw _ rfl ⟨11, .guard⟩ (by simp) rfl) (.con (.bool true)) (by rw [HV.out]; rfl) _ rfl
                  obtain ⟨q2, y0, y1, y2, y3, z0, z1, z2, z3⟩ := HC8.out w' h.1
                  refine wpOp_step rfl fun K hK => ?_
                  go_simp
                  exact hK _ _ ⟨x84, x85, x86, x87, x88, x89, x90, x91, x92, x93, x94, _, _, x97, x98, x99, x100, x101, x102, x103, x104, rfl, h.same 12 _ (.con (.agg #[.string nm, .int .i64 vr, .int .i64 ln, .slice ha hs.length hc])) (by rw [HV.out]; rfl) rfl⟩
                · obtain rfl : x95 = .bool true := h.get 11 (hw _ rfl ⟨11, .guard⟩ (by simp) rfl) (.con (.bool true)) (by rw [HV.out]; rfl) _ rfl
                  refine wpOp_step rfl fun K hK => ?_
                  go_simp
                  exact hK _ _ ⟨x84, x85, x86, x87, x88, x89, x90, x91, x92, x93, x94, _, x96, _, x98, x99, x100, x101, x102, x103, x104, rfl, h.same 13 _ (.con (.pointer (some ⟨w.heap.size, 2, none⟩))) (by rw [HV.out]; rfl) rfl⟩
                · obtain rfl : x95 = .bool true := h.get 11 (hw _ rfl ⟨11, .guard⟩ (by simp) rfl) (.con (.bool true)) (by rw [HV.out]; rfl) _ rfl
                  obtain rfl : x97 = .pointer (some ⟨w.heap.size, 2, none⟩) := h.get 13 (hw _ rfl ⟨13, .data⟩ (by simp) rfl) (.con (.pointer (some ⟨w.heap.size, 2, none⟩))) (by rw [HV.out]; rfl) _ rfl
                  obtain ⟨q2, y0, y1, y2, y3, z0, z1, z2, z3⟩ := HC8.out w' h.1
                  refine wpOp_step rfl fun K hK => ?_
                  go_simp
                  exact hK _ _ ⟨x84, x85, x86, x87, x88, x89, x90, x91, x92, x93, x94, _, x96, _, _, x99, x100, x101, x102, x103, x104, rfl, h.same 14 _ (.con (.slice (some ⟨b1, o1, none⟩) l.length c)) (by rw [HV.out]; rfl) rfl⟩
                · obtain rfl : x95 = .bool true := h.get 11 (hw _ rfl ⟨11, .guard⟩ (by simp) rfl) (.con (.bool true)) (by rw [HV.out]; rfl) _ rfl
                  refine wpOp_step rfl fun K hK => ?_
                  go_simp
                  exact hK _ _ ⟨x84, x85, x86, x87, x88, x89, x90, x91, x92, x93, x94, _, x96, x97, x98, _, x100, x101, x102, x103, x104, rfl, h.same 15 _ (.con (.int .i64 j)) (by rw [HV.out]; rfl) rfl⟩
                · obtain rfl : x95 = .bool true := h.get 11 (hw _ rfl ⟨11, .guard⟩ (by simp) rfl) (.con (.bool true)) (by rw [HV.out]; rfl) _ rfl
                  obtain rfl : x98 = .slice (some ⟨b1, o1, none⟩) l.length c := h.get 14 (hw _ rfl ⟨14, .data⟩ (by simp) rfl) (.con (.slice (some ⟨b1, o1, none⟩) l.length c)) (by rw [HV.out]; rfl) _ rfl
                  obtain rfl : x99 = .int .i64 j := h.get 15 (hw _ rfl ⟨15, .data⟩ (by simp) rfl) (.con (.int .i64 j)) (by rw [HV.out]; rfl) _ rfl
                  obtain ⟨q2, y0, y1, y2, y3, z0, z1, z2, z3⟩ := HC8.out w' h.1
                  refine wpOp_step rfl fun K hK => ?_
                  go_simp
                  exact hK _ _ ⟨x84, x85, x86, x87, x88, x89, x90, x91, x92, x93, x94, _, x96, x97, _, _, _, x101, x102, x103, x104, rfl, h.same 16 _ (.con (.pointer (some ⟨b1, o1 + j * 4, none⟩))) (by rw [HV.out]; rfl) rfl⟩
                · obtain rfl : x95 = .bool true := h.get 11 (hw _ rfl ⟨11, .guard⟩ (by simp) rfl) (.con (.bool true)) (by rw [HV.out]; rfl) _ rfl
                  obtain rfl : x100 = .pointer (some ⟨b1, o1 + j * 4, none⟩) := h.get 16 (hw _ rfl ⟨16, .data⟩ (by simp) rfl) (.con (.pointer (some ⟨b1, o1 + j * 4, none⟩))) (by rw [HV.out]; rfl) _ rfl
                  obtain ⟨q2, y0, y1, y2, y3, z0, z1, z2, z3⟩ := HC8.out w' h.1
                  refine wpOp_step rfl fun K hK => ?_
                  go_simp
                  exact hK _ _ ⟨x84, x85, x86, x87, x88, x89, x90, x91, x92, x93, x94, _, x96, x97, x98, x99, _, _, x102, x103, x104, rfl, h.same 17 _ (.con (.agg #[.string nm, .int .i64 vr, .int .i64 ln, .slice hha hs.length hca])) (by rw [HV.out]; rfl) rfl⟩
                · obtain rfl : x95 = .bool true := h.get 11 (hw _ rfl ⟨11, .chain⟩ (by simp) rfl) (.con (.bool true)) (by rw [HV.out]; rfl) _ rfl
                  obtain rfl : x96 = .agg #[.string nm, .int .i64 vr, .int .i64 ln, .slice ha hs.length hc] := h.get 12 (hw _ rfl ⟨12, .data⟩ (by simp) rfl) (.con (.agg #[.string nm, .int .i64 vr, .int .i64 ln, .slice ha hs.length hc])) (by rw [HV.out]; rfl) _ rfl
                  obtain rfl : x101 = .agg #[.string nm, .int .i64 vr, .int .i64 ln, .slice hha hs.length hca] := h.get 17 (hw _ rfl ⟨17, .data⟩ (by simp) rfl) (.con (.agg #[.string nm, .int .i64 vr, .int .i64 ln, .slice hha hs.length hca])) (by rw [HV.out]; rfl) _ rfl
                  obtain ⟨q2, y0, y1, y2, y3, z0, z1, z2, z3⟩ := HC8.out w' h.1
                  refine wpOp_step rfl fun K hK => ?_
                  go_simp
                  refine (HSP.out w' h.1).mono ?_
                  rintro e w2 ⟨rfl, hb2⟩
                  exact hK _ _ ⟨x84, x85, x86, x87, x88, x89, x90, x91, x92, x93, x94, _, _, x97, x98, x99, x100, _, _, x103, x104, rfl, h.did hb2 18 _ (.con (.bool true)) (by rw [HV.out]; rfl) rfl⟩
                · obtain rfl : x95 = .bool true := h.get 11 (hw _ rfl ⟨11, .guard⟩ (by simp) rfl) (.con (.bool true)) (by rw [HV.out]; rfl) _ rfl
                  obtain rfl : x102 = .bool true := h.get 18 (hw _ rfl ⟨18, .data⟩ (by simp) rfl) (.con (.bool true)) (by rw [HV.out]; rfl) _ rfl
                  refine wpOp_step rfl fun K hK => ?_
                  go_simp
                  exact hK _ _ ⟨x84, x85, x86, x87, x88, x89, x90, x91, x92, x93, x94, _, x96, x97, x98, x99, x100, x101, _, _, x104, rfl, h.same 19 _ (.con (.bool false)) (by rw [HV.out]; rfl) rfl⟩
                · obtain rfl : x93 = .bool false := h.get 9 (hw _ rfl ⟨9, .guard⟩ (by simp) rfl) (.con (.bool false)) (by rw [HV.out]; rfl) _ rfl
                  obtain rfl : x95 = .bool true := h.get 11 (hw _ rfl ⟨11, .data⟩ (by simp) rfl) (.con (.bool true)) (by rw [HV.out]; rfl) _ rfl
                  obtain rfl : x103 = .bool false := h.get 19 (hw _ rfl ⟨19, .data⟩ (by simp) rfl) (.con (.bool false)) (by rw [HV.out]; rfl) _ rfl
                  refine wpOp_step rfl fun K hK => ?_
                  go_simp
                  exact hK _ _ ⟨x84, x85, x86, x87, x88, x89, x90, x91, x92, _, x94, _, x96, x97, x98, x99, x100, x101, x102, _, _, rfl, h.same 20 _ (.con (.bool false)) (by rw [HV.out]; rfl) rfl⟩
                · omega
              case last =>
                rintro d a' w' hall ⟨x84, x85, x86, x87, x88, x89, x90, x91, x92, x93, x94, x95, x96, x97, x98, x99, x100, x101, x102, x103, x104, rfl, h⟩
                have hle := h.1
                obtain rfl : x93 = .bool false := h.get 9 (hall _ (by omega)) (.con (.bool false)) (by rw [HV.out]; rfl) _ rfl
                obtain rfl : x104 = .bool false := h.get 20 (hall _ (by omega)) (.con (.bool false)) (by rw [HV.out]; rfl) _ rfl
                have HLE := Lib.hid hle
                clear h hall hle HV
                have HB9 := Lib.hid (HB8.out.trans (HLE.out.mono HB8.out.size))
                go_wp2_with fail
                exact ⟨⟨j + 1, by omega, by go_num, HB9.out⟩, by simp [intOf]; omega⟩
          · obtain rfl : j = l.length := by omega
            clear hb
            go_wp2
            go_ret
            exact ⟨rfl, HB2.out.trans ((HB10.out.trans (HB.out.mono HB10.out.size)).mono HB2.out.size)⟩
end Go.Proofs.YtgghgcilpfdbjaaGreatDoor
