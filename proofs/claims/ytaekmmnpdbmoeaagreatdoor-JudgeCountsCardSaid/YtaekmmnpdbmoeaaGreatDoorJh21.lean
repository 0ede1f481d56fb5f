/- The contract of legateref02.step: the walk. -/
import Derived.Test.YtaekmmnpdbmoeaaGreatDoorJh20

namespace Go.Proofs.YtaekmmnpdbmoeaaGreatDoor
open Go.RowKit

theorem sCells_get (s : S8) : ∀ i, i < 8 → (sCells s)[i]? = some (.int .u32 (s.at i)) := by
  intro i hi
  simp [sCells, hi]
theorem sCells_of {s : S8} {c : Array Value} (hn : c.size = 8) (hf : ∀ i, i < 8 → c[i]? = some (.int .u32 (s.at i))) : c = sCells s := by
  apply Array.ext
  · rw [hn]; simp [sCells]
  · intro i h1 h2
    have := hf i (by omega)
    rw [← sCells_get s i (by omega), Array.getElem?_eq_getElem h1, Array.getElem?_eq_getElem h2] at this
    exact Option.some.inj this
theorem other8 {W : World} {b c t n : Nat} {f : Nat → Value} (v0 v1 v2 v3 v4 v5 v6 v7 : Value) (h : W.rowIs b t n f) (hb : b ≠ c) :
    ((((((((W.setCell ⟨c, 0, none⟩ v0).setCell ⟨c, 1, none⟩ v1).setCell ⟨c, 2, none⟩ v2).setCell ⟨c, 3, none⟩ v3).setCell ⟨c, 4, none⟩ v4).setCell ⟨c, 5, none⟩ v5).setCell ⟨c, 6, none⟩ v6).setCell ⟨c, 7, none⟩ v7).rowIs b t n f :=
  (((((((h.setOther hb _).setOther hb _).setOther hb _).setOther hb _).setOther hb _).setOther hb _).setOther hb _).setOther hb _
theorem size8 (w : World) : (Go.sizeOf 145).run Tryz.prog w = .ok 8 w := by kernel_rfl

def stepAct (cs : Array Value) (blk : ByteArray) (H : Nat) (x5 x6 x7 x14 x15 x16 x17 : Value) : Act :=
  ⟨#[.agg cs, .string blk, .pointer (some ⟨H, 0, none⟩), undef, .pointer (some ⟨H + 1, 0, none⟩), x5, x6, x7, undef, undef, undef, undef, undef, undef, x14, x15, x16, x17, undef, undef, undef, undef, undef, undef, undef, undef, undef, undef, undef, undef, undef, undef, undef, undef, undef, undef, undef, undef, undef, undef, undef, undef, undef, undef, undef, undef, undef, undef, undef, undef, undef, undef, undef, undef, undef, undef, undef, undef, undef, undef, undef, undef, undef, undef, undef, undef, undef, undef, undef, undef, undef, undef, undef, undef, undef, undef, undef, undef, undef, undef, undef, undef, undef, undef, undef, undef, undef, undef, undef, undef, undef, undef, undef, undef, undef, undef, undef, undef, undef, undef, undef, undef, undef, undef, undef, undef, undef, undef, undef, undef, undef, undef, undef, undef], []⟩

set_option maxRecDepth 100000 in
set_option maxHeartbeats 1000000 in
theorem refStep (s : S8) (hs : s.ok) (blk : ByteArray) (w : World) (hb : blk.size = 64) :
    Calls Tryz.prog 99 #[.agg (sCells s), .string blk] w fun e w' => e = .returned (.agg (sCells (press s (fun j => byteI blk.data.toList j)))) ∧ Below w.heap.size w w' := by
  have HS := Lib.hid hs
  have HZ := Lib.hid hb
  have HWS := Lib.hid (refWords blk)
  have HPB := Lib.hid (show ∀ i, 0 ≤ (fun j => byteI blk.data.toList j) i ∧ (fun j => byteI blk.data.toList j) i ≤ 255 from fun i => byteI_bd _ _)
  generalize (fun j => byteI blk.data.toList j) = p at *
  have h8 : (sCells s).size = 8 := by simp [sCells]
  have HSG := Lib.hid (sCells_get s)
  have HRB := Lib.hid (show (w.alloc (.cells (sCells s) 145)).rowIs w.heap.size 145 8 (fun j => .int .u32 (s.at j)) from rowIs_eq rfl)
  clear hs hb
  generalize hcs : sCells s = cs at *
  have HCS := Lib.hid hcs
  clear hcs
  go_enter Tryz.func99, Tryz.ntmps99
  go_wp2_with fail
  have HRR := Lib.hid (show ((w.alloc (.cells cs 145)).alloc (.cells #[.int .u32 0, .int .u32 0, .int .u32 0, .int .u32 0, .int .u32 0, .int .u32 0, .int .u32 0, .int .u32 0] 145)).rowIs (w.heap.size + 1) 145 8 (fun _ => .int .u32 0) from by
    have := rowIs_rep (w.alloc (.cells cs 145)) (.int .u32 0) 8 145 (fun _ => .int .u32 0) (fun _ _ => rfl)
    rwa [show (w.alloc (.cells cs 145)).heap.size = w.heap.size + 1 by simp] at this)
  refine wp_region_inv 9 (fun d a' w' => ∃ x5 x6 x7 x14 x15 x16 x17 b5 b6 b7, a' = stepAct cs blk w.heap.size x5 x6 x7 x14 x15 x16 x17 ∧ R1 w s p blk d w' x5 x6 x7 x14 x15 x16 x17 b5 b6 b7) (by kernel_rfl) (by kernel_rfl) ?first ?step ?last
  case first =>
    refine ⟨undef, undef, undef, undef, undef, undef, undef, 0, 0, 0, rfl, ?_⟩
    exact { bel := (((Below.refl _ _).alloc (Nat.le_refl _) _).alloc (by simp) _).drew, rh := HRB.out.alloc _, rr := HRR.out, v0 := fun h => h.elim, v1 := fun h => h.elim, v2 := fun h => h.elim, v3 := fun h => h.elim, p4 := fun h => h.elim, p5 := fun h => h.elim, p6 := fun h => h.elim, n45 := fun h => h.elim, n46 := fun h => h.elim, n56 := fun h => h.elim, s7 := fun h => h.elim, s8 := fun h => h.elim }
  case step =>
    rintro d a' w' ⟨x5, x6, x7, x14, x15, x16, x17, b5, b6, b7, rfl, h⟩ i hi hn hw
    rcases i with _ | _ | _ | _ | _ | _ | _ | _ | _ | i
    · unfold stepAct
      refine wpOp_step rfl fun K hK => ?_
      go_simp
      exact hK _ _ ⟨x5, x6, x7, _, x15, x16, x17, b5, b6, b7, rfl, h.did0⟩
    · have d0 : d 0 := hw _ rfl ⟨0, .data⟩ (by simp) rfl
      obtain rfl := h.v0 d0
      unfold stepAct
      refine wpOp_step rfl fun K hK => ?_
      go_simp
      refine (HWS.out w' HZ.out).mono ?_
      rintro e w2 ⟨rfl, hb⟩
      exact hK _ _ ⟨x5, x6, x7, _, _, x16, x17, b5, b6, b7, rfl, (h.below hb).did1⟩
    · unfold stepAct
      refine wpOp_step rfl fun K hK => ?_
      go_simp
      refine (refKeys w').mono ?_
      rintro e w2 ⟨rfl, hb⟩
      exact hK _ _ ⟨x5, x6, x7, x14, x15, _, x17, b5, b6, b7, rfl, (h.below hb).did2⟩
    · obtain ⟨c, hc, hn8, hf⟩ := h.rh
      obtain rfl := sCells_of hn8 hf
      exact op_plain rfl rfl (wp_load_row 145 (.tmp 2) rfl w.heap.size rfl 145 _ (0, 0) _ hc Tryz.underlying145 rfl (by rw [hn8]; kernel_rfl) ⟨x5, x6, x7, x14, x15, x16, _, b5, b6, b7, rfl, h.did3⟩)
    · unfold stepAct
      refine wpOp_step rfl fun K hK => ?_
      go_simp
      exact hK _ _ ⟨_, x6, x7, x14, x15, x16, x17, w'.heap.size, b6, b7, rfl, h.did4 _ (by simp) hn⟩
    · unfold stepAct
      refine wpOp_step rfl fun K hK => ?_
      go_simp
      exact hK _ _ ⟨x5, _, x7, x14, x15, x16, x17, b5, w'.heap.size, b7, rfl, h.did5 _ (by simp) hn⟩
    · unfold stepAct
      refine wpOp_step rfl fun K hK => ?_
      go_simp
      exact hK _ _ ⟨x5, x6, _, x14, x15, x16, x17, b5, b6, w'.heap.size, rfl, h.did6 _ (by simp)⟩
    · have d4 : d 4 := hw _ rfl ⟨4, .data⟩ (by simp) rfl
      have d1 : d 1 := hw _ rfl ⟨1, .data⟩ (by simp) rfl
      obtain rfl := h.v1 d1
      obtain ⟨rfl, hlt, f, hr⟩ := h.p4 d4
      exact op_plain rfl rfl (op_store_row 160 (.tmp 5) (.tmp 15) rfl b5 160 64 f (fun j => .int .u32 (wrd p j)) rfl hr (wCells p) rfl (by simp [wCells]) (fun i hi => by simp [wCells, hi]) (fun _ _ => rfl) sizeW64
        fun w2 hr2 ht => ⟨_, x6, x7, x14, _, x16, x17, b5, b6, b7, rfl, R1.did7 d4 h ht hr2⟩)
    · have d5 : d 5 := hw _ rfl ⟨5, .data⟩ (by simp) rfl
      have d2 : d 2 := hw _ rfl ⟨2, .data⟩ (by simp) rfl
      obtain rfl := h.v2 d2
      obtain ⟨rfl, hlt, f, hr⟩ := h.p5 d5
      exact op_plain rfl rfl (op_store_row 160 (.tmp 6) (.tmp 16) rfl b6 160 64 f (fun j => .int .u32 (kay j)) rfl hr kCells rfl rfl kCells_get (fun _ _ => rfl) sizeW64
        fun w2 hr2 ht => ⟨x5, _, x7, x14, x15, _, x17, b5, b6, b7, rfl, R1.did8 d5 h ht hr2⟩)
    · omega
  case last =>
    rintro d a' w' hall ⟨x5, x6, x7, x14, x15, x16, x17, b5, b6, b7, rfl, h⟩
    obtain rfl := h.v0 (hall 0 (by omega))
    obtain rfl := h.v1 (hall 1 (by omega))
    obtain rfl := h.v2 (hall 2 (by omega))
    obtain rfl := h.v3 (hall 3 (by omega))
    obtain ⟨rfl, l5, _⟩ := h.p4 (hall 4 (by omega))
    obtain ⟨rfl, l6, _⟩ := h.p5 (hall 5 (by omega))
    obtain ⟨rfl, l7, f7, r7⟩ := h.p6 (hall 6 (by omega))
    have n1 := h.n46 (hall 4 (by omega)) (hall 6 (by omega))
    have n2 := h.n56 (hall 5 (by omega)) (hall 6 (by omega))
    have r5 := (h.s7 (hall 7 (by omega))).2
    have r6 := (h.s8 (hall 8 (by omega))).2
    unfold stepAct
    refine wpList_store_row rfl 145 (.tmp 7) (.tmp 17) rfl b7 145 8 f7 (fun j => .int .u32 (s.at j)) rfl r7 (sCells s) rfl (by simp [sCells]) (sCells_get s) (fun _ _ => rfl) size8 ?_
    intro w1 h3 h4
    have HB := Lib.hid (show Below w.heap.size w w1 from h.bel.trans (h4.out.below h.bel.size fun k hk e => by omega))
    have HH := Lib.hid (h4.out.row h.rh (fun e => by omega))
    have HR := Lib.hid (h4.out.row h.rr (fun e => by omega))
    have HW := Lib.hid (h4.out.row r5 n1)
    have HK := Lib.hid (h4.out.row r6 n2)
    have HV := Lib.hid h3.out
    clear h3 h4 h r5 r6 r7 hall HRB HRR HWS
    have n3 : b5 ≠ b7 ∧ b6 ≠ b7 ∧ w.heap.size + 1 < b7 ∧ w.heap.size + 1 < b5 ∧ w.heap.size + 1 < b6 := ⟨n1, n2, l7, l5, l6⟩
    clear n1 n2 l5 l6 l7 h8 HSG HCS
    go_wp2
    go_loopw [8, 9, 10, 11, 12] (fun i _ _ _ _ wr => ∃ k : Nat, k ≤ 64 ∧ i = .int .i64 k ∧ Below w.heap.size w wr ∧ (wr.rowIs w.heap.size 145 8 fun j => .int .u32 (s.at j)) ∧ (wr.rowIs (w.heap.size + 1) 145 8 fun _ => .int .u32 0) ∧ (wr.rowIs b5 160 64 fun j => .int .u32 (wrd p j)) ∧ (wr.rowIs b6 160 64 fun j => .int .u32 (kay j)) ∧ (wr.rowIs b7 145 8 fun j => .int .u32 ((rnds p s k).at j))) (fun i _ _ _ _ _ => 64 - (intOf i).toNat)
    case atStart => exact ⟨0, by omega, rfl, HB.out, HH.out, HR.out, HW.out, HK.out, HV.out⟩
    case round =>
      clear HB HH HR HW HK HV
      obtain ⟨k, hk, rfl, hB, hH, hR, hW, hK, hV⟩ := hrel
      have HB := Lib.hid hB
      have HH := Lib.hid hH
      have HR := Lib.hid hR
      by_cases hlt : k < 64
      · have HO := Lib.hid (rnds_ok p HS.out k)
        have HE := Lib.hid (show rnds p s (k + 1) = rnd (kay k) (wrd p k) (rnds p s k) from rfl)
        obtain ⟨S, hS⟩ : ∃ S, S = rnds p s k := ⟨_, rfl⟩
        rw [← hS] at hV HO HE
        clear hS
        have r0 := hV.cell (i := 0) (by omega); have r1 := hV.cell (i := 1) (by omega); have r2 := hV.cell (i := 2) (by omega); have r3 := hV.cell (i := 3) (by omega)
        have r4 := hV.cell (i := 4) (by omega); have r5 := hV.cell (i := 5) (by omega); have r6 := hV.cell (i := 6) (by omega); have r7 := hV.cell (i := 7) (by omega)
        simp only [S8.at] at r0 r1 r2 r3 r4 r5 r6 r7
        have f0 := hV.frozen 0; have f1 := hV.frozen 1; have f2 := hV.frozen 2; have f3 := hV.frozen 3
        have f4 := hV.frozen 4; have f5 := hV.frozen 5; have f6 := hV.frozen 6; have f7 := hV.frozen 7
        have cw : wr.cell? ⟨b5, k, none⟩ = some (.int .u32 (wrd p k)) := hW.cell (by omega)
        have ck : wr.cell? ⟨b6, k, none⟩ = some (.int .u32 (kay k)) := hK.cell (by omega)
        have HAx := Lib.hid HO.out.1; have HEx := Lib.hid HO.out.2.2.2.2.1
        have HW := Lib.hid hW
        have HK := Lib.hid hK
        have HV := Lib.hid hV
        clear hB hH hR hW hK hV
        have m0 : (k : Int) < 64 := by omega
        go_wp2_with fail
        refine wp_region_still_tail 30 (by kernel_rfl) (by kernel_rfl) ?_
        simp only [List.take_succ_cons, List.take_zero, List.drop_succ_cons, List.drop_zero]
        repeat still_step
        still_call (refTurn S.e 6 _ HEx.out (by omega))
        repeat still_step
        still_call (refTurn S.e 11 _ HEx.out (by omega))
        repeat still_step
        still_call (refTurn S.e 25 _ HEx.out (by omega))
        repeat still_step
        refine wpStill_nil ?_
        go_wp2_with fail
        clear cw ck
        replace r0 : wr.drew.cell? _ = _ := r0
        replace f0 : wr.drew.frozen? _ = _ := f0
        replace r1 : wr.drew.cell? _ = _ := r1
        replace f1 : wr.drew.frozen? _ = _ := f1
        replace r2 : wr.drew.cell? _ = _ := r2
        replace f2 : wr.drew.frozen? _ = _ := f2
        replace r3 : wr.drew.cell? _ = _ := r3
        replace f3 : wr.drew.frozen? _ = _ := f3
        replace r4 : wr.drew.cell? _ = _ := r4
        replace f4 : wr.drew.frozen? _ = _ := f4
        replace r5 : wr.drew.cell? _ = _ := r5
        replace f5 : wr.drew.frozen? _ = _ := f5
        replace r6 : wr.drew.cell? _ = _ := r6
        replace f6 : wr.drew.frozen? _ = _ := f6
        replace r7 : wr.drew.cell? _ = _ := r7
        replace f7 : wr.drew.frozen? _ = _ := f7
        replace HB := Lib.hid (HB.out.drew)
        replace HH := Lib.hid (show wr.drew.rowIs _ _ _ _ from HH.out)
        replace HR := Lib.hid (show wr.drew.rowIs _ _ _ _ from HR.out)
        replace HW := Lib.hid (show wr.drew.rowIs _ _ _ _ from HW.out)
        replace HK := Lib.hid (show wr.drew.rowIs _ _ _ _ from HK.out)
        replace HV := Lib.hid (show wr.drew.rowIs _ _ _ _ from HV.out)
        generalize wr.drew = w2 at r0 r1 r2 r3 r4 r5 r6 r7 f0 f1 f2 f3 f4 f5 f6 f7 HB HH HR HW HK HV ⊢
        refine wp_region_still_tail 24 (by kernel_rfl) (by kernel_rfl) ?_
        simp only [List.take_succ_cons, List.take_zero, List.drop_succ_cons, List.drop_zero]
        repeat still_step
        still_call (refTurn S.a 2 _ HAx.out (by omega))
        repeat still_step
        still_call (refTurn S.a 13 _ HAx.out (by omega))
        repeat still_step
        still_call (refTurn S.a 22 _ HAx.out (by omega))
        repeat still_step
        refine wpStill_nil ?_
        go_wp2_with fail
        go_roundw
        case rel =>
          obtain ⟨q1, q2, q3, q4, q5⟩ := n3
          refine ⟨k + 1, by omega, by go_num, (below8 _ _ _ _ _ _ _ _ HB.out (by omega)).drew, (other8 _ _ _ _ _ _ _ _ HH.out (by omega)).drew, (other8 _ _ _ _ _ _ _ _ HR.out (by omega)).drew, (other8 _ _ _ _ _ _ _ _ HW.out q1).drew, (other8 _ _ _ _ _ _ _ _ HK.out q2).drew, (set8 _ _ _ _ _ _ _ _ HV.out).drew.congr fun j hj => ?_⟩
          rw [HE.out]
          rcases j with _ | _ | _ | _ | _ | _ | _ | _ | j
          · exact congrArg (Value.int .u32) (by rw [← Int.add_assoc]; exact rnd_a (kay k) (wrd p k) S)
          · rfl
          · rfl
          · rfl
          · exact congrArg (Value.int .u32) (rnd_e (kay k) (wrd p k) S)
          · rfl
          · rfl
          · rfl
          · omega
        case measure => simp [intOf]; omega
      · have HT := Lib.hid (show wr.rowIs b7 145 8 (fun j => .int .u32 ((rnds p s 64).at j)) from by rw [show k = 64 by omega] at hV; exact hV)
        have hd0 : decide ((k : Int) < 64) = false := by simp; omega
        clear hB hH hR hW hK hV hlt hk
        obtain ⟨wc, rfl⟩ : ∃ wc : World, wc = wr := ⟨_, rfl⟩
        obtain ⟨k2, rfl⟩ : ∃ k2 : Nat, k2 = k := ⟨_, rfl⟩
        go_wp2
        go_loopw [13] (fun i wr => ∃ k : Nat, k ≤ 8 ∧ i = .int .i64 k ∧ Below w.heap.size w wr ∧ (wr.rowIs (w.heap.size + 1) 145 8 fun _ => .int .u32 0) ∧ (wr.rowIs b7 145 8 fun j => .int .u32 ((rnds p s 64).at j)) ∧ (wr.rowIs w.heap.size 145 8 fun j => if j < k then .int .u32 (wadd (s.at j) ((rnds p s 64).at j)) else .int .u32 (s.at j))) (fun i _ => 8 - (intOf i).toNat)
        case atStart => exact ⟨0, by omega, rfl, HB.out, HR.out, HT.out, HH.out.congr fun j _ => by rw [if_neg (by omega)]⟩
        case round =>
          clear HB HR HT HH
          obtain ⟨k, hk, rfl, hB, hR, hT, hH⟩ := hrel
          have HB := Lib.hid hB
          have HR := Lib.hid hR
          have HT := Lib.hid hT
          have HH := Lib.hid hH
          by_cases hlt : k < 8
          · have c0 : wr.cell? ⟨w.heap.size, k, none⟩ = some (.int .u32 (s.at k)) := by rw [hH.cell (by omega), if_neg (by omega)]
            have c1 : wr.cell? ⟨b7, k, none⟩ = some (.int .u32 ((rnds p s 64).at k)) := hT.cell hlt
            have c2 : wr.frozen? ⟨w.heap.size, k, none⟩ = false := hH.frozen _
            have m0 : (k : Int) < 8 := by omega
            clear hB hR hT hH
            generalize (rnds p s 64) = R at *
            go_wp2_with fail
            go_still_tail 9, (by kernel_rfl)
            go_wp2
            go_roundw
            case rel =>
              obtain ⟨q1, q2, q3, q4, q5⟩ := n3
              refine ⟨k + 1, by omega, by go_num, (HB.out.setCell (Nat.le_refl _) _).drew, (HR.out.setOther (by show w.heap.size + 1 ≠ w.heap.size; omega) _).drew, (HT.out.setOther (by show b7 ≠ w.heap.size; omega) _).drew, (HH.out.set _ _).drew.congr fun j hj => ?_⟩
              by_cases e : j = k
              · subst e; rw [if_pos rfl, if_pos (by omega)]; rfl
              · simp only [if_neg e]; by_cases e' : j < k
                · rw [if_pos e', if_pos (by omega)]
                · rw [if_neg e', if_neg (by omega)]
            case measure => simp [intOf]; omega
          · have HF := Lib.hid (show wr.rowIs w.heap.size 145 8 (fun j => .int .u32 ((press s p).at j)) from hH.congr fun j hj => by rw [if_pos (by omega)]; unfold press; rw [add_at])
            have hd1 : decide ((k : Int) < 8) = false := by simp; omega
            clear hB hR hT hH HH HT
            go_wp2_with (with_reducible refine wpList_load_rowIs rfl 145 (.tmp 2) rfl w.heap.size 145 8 _ rfl HF.out _ Tryz.underlying145 rfl (by kernel_rfl) ?_)
            intro cs h1 h2
            go_wp2_with (with_reducible refine wpList_store_row rfl 145 (.tmp 4) (.tmp 113) rfl (w.heap.size + 1) 145 8 _ _ rfl HR.out cs rfl h1.out h2.out (fun _ _ => rfl) size8 ?_)
            intro w1 h3 h4
            have HB1 := Lib.hid (show Below w.heap.size w w1 from HB.out.trans (h4.out.below (B := w.heap.size) HB.out.size (fun k hk e => by omega)))
            obtain ⟨c, hc, hn, hf⟩ := h3.out
            have HC := Lib.hid hc
            have HCW := Lib.hid (show c = sCells (press s p) from sCells_of hn hf)
            have HN := Lib.hid (show (Tryz.prog.info? 145).map (·.size) = some c.size by rw [hn]; kernel_rfl)
            clear hc hn hf h1 h2 h3 h4
            go_wp2
            refine bodyPost_ret (results_cell_row Tryz.results99 _ _ (w.heap.size + 1) 145 _ (0, 0) _ rfl HC.out Tryz.underlying145 rfl HN.out) rfl ⟨by rw [HCW.out], HB1.out⟩

end Go.Proofs.YtaekmmnpdbmoeaaGreatDoor
