/- The law SnapRoles: the call returns true. Printed by genroles.py. -/
import Derived.Test.YtgghgcilpfdbjaaGreatDoorSa26
import Derived.Test.YtgghgcilpfdbjaaGreatDoorSa27

namespace Go.Proofs.YtgghgcilpfdbjaaGreatDoor
open Go.RowKit Go.Shelf Go.Sort

theorem role_size (f : ByteArray) : (roleStr f).size ≤ f.size := by
  unfold roleStr
  cases hr : roleOf f with
  | none => exact Nat.zero_le _
  | some r =>
    have h := congrArg List.length (role_name hr).2
    simp only [List.length_append, Array.length_toList] at h
    show r.toArray.size ≤ f.data.size
    simp only [List.size_toArray]
    omega
set_option maxHeartbeats 8000000 in
set_option maxRecDepth 100000 in
theorem lawRoles (v e : Int) (l : List PinV) (a : Option Addr) (c : Nat) (role : ByteArray) (w : World) (hP : PinsAt w 0 w.heap.size a l) (hl : l.length ≤ 9223372036854775807) (hf : ∀ p ∈ l, PinFits p) (hT : TabW w) (hP10 : Pow10 w) :
    Calls Tryz.prog 8 #[.agg #[.int .i64 v, .int .i64 e, .slice a l.length c], .string role] w fun r w' => r = .returned (.bool true) ∧ Below w.heap.size w w' := by
  obtain ⟨W2, hW2⟩ : ∃ W2, W2 = w.alloc (.cells #[.int .i64 v, .int .i64 e, .slice a l.length c] 24) := ⟨_, rfl⟩
  have hb2 : Below w.heap.size w W2 := by rw [hW2]; exact (Below.refl _ _).alloc (Nat.le_refl _) _
  have hx : W2.heap[w.heap.size]? = some (.cells #[.int .i64 v, .int .i64 e, .slice a l.length c] 24 (0, 0)) := by rw [hW2]; exact heap_alloc_new w _
  obtain ⟨W3, hW3⟩ : ∃ W3, W3 = W2.alloc (.cells #[.int .i64 v, .int .i64 e, .slice a l.length c] 24) := ⟨_, rfl⟩
  have hb3 : Below W2.heap.size W2 W3 := by rw [hW3]; exact (Below.refl _ _).alloc (Nat.le_refl _) _
  have hx3 : W3.heap[W2.heap.size]? = some (.cells #[.int .i64 v, .int .i64 e, .slice a l.length c] 24 (0, 0)) := by rw [hW3]; exact heap_alloc_new W2 _
  have HPA := Lib.hid (show ∀ w' : World, Below W2.heap.size W2 w' → PinsAt w' 0 w'.heap.size a l from fun w' h => hP.below (hb2.trans (h.mono hb2.size)) (Nat.le_refl _) (Nat.zero_le _) (Nat.le_trans hb2.size h.size))
  have HTW := Lib.hid (show ∀ w' : World, Below W2.heap.size W2 w' → TabW w' ∧ Pow10 w' from fun w' h => ⟨hT.below (hb2.trans (h.mono hb2.size)), hP10.below (hb2.trans (h.mono hb2.size))⟩)
  have HC := Lib.hid (show ∀ w' : World, Below W2.heap.size W2 w' → w'.cell? ⟨w.heap.size, 0, none⟩ = some (.int .i64 v) ∧ w'.cell? ⟨w.heap.size, 1, none⟩ = some (.int .i64 e) ∧ w'.cell? ⟨w.heap.size, 2, none⟩ = some (.slice a l.length c) from fun w' h => by
    have x := (h.block _ (heap_lt hx)).trans hx
    exact ⟨box_cell x rfl, box_cell x rfl, box_cell x rfl⟩)
  have HLG := Lib.hid (lawLong1 l v e a c W2.heap.size 1 W3 (HPA.out W3 hb3) hf hl hx3)
  have HAW := Lib.hid (show ∀ w' : World, Below W2.heap.size W2 w' → Calls Tryz.prog 14 #[] w' (fun e w'' => e = .returned (.bool true) ∧ Below w'.heap.size w' w'') from fun w' h => lawAwake23 w' (HTW.out w' h).1 (HTW.out w' h).2)
  have HF := Lib.hid hf
  have HB2 := Lib.hid hb2
  have HB3 := Lib.hid hb3
  have HW3 := Lib.hid hW3
  have HW2 := Lib.hid hW2
  clear hW2 hW3 hb2 hb3 hx hx3 hP hT hP10 hf
  obtain ⟨q0, q1, q2⟩ := HC.out W2 (Below.refl _ _)
  go_enter Tryz.func8, Tryz.ntmps8
  go_upto_region 1 with fail
  rw [← HW2.out]
  go_wp2_with fail
  rw [← HW3.out]
  refine HLG.out.mono ?_
  clear HLG q0 q1 q2 HW2 HW3
  rintro r w4 ⟨b, rfl, hsh, hb4⟩
  have HB4 := Lib.hid (HB3.out.trans (hb4.mono HB3.out.size))
  have HSH := Lib.hid hsh
  clear hsh hb4
  cases b with
  | true =>
    go_wp2_with fail
    refine (HAW.out w4 HB4.out).mono ?_
    rintro r w5 ⟨rfl, hb5⟩
    have HB5 := Lib.hid (HB4.out.trans (hb5.mono HB4.out.size))
    clear hb5
    go_wp2
    go_ret
    exact ⟨rfl, HB2.out.trans (HB5.out.mono HB2.out.size)⟩
  | false =>
    obtain ⟨hl6, hps⟩ := HSH.out rfl
    have HPS := Lib.hid hps
    clear hps HSH
    by_cases hr : (1000 : Int) < role.size
    · have hd : decide ((1000 : Int) < role.size) = true := by simpa using hr
      go_wp2_with fail
      refine (HAW.out w4 HB4.out).mono ?_
      rintro r w5 ⟨rfl, hb5⟩
      have HB5 := Lib.hid (HB4.out.trans (hb5.mono HB4.out.size))
      clear hb5
      go_wp2
      go_ret
      exact ⟨rfl, HB2.out.trans (HB5.out.mono HB2.out.size)⟩
    have hd : decide ((1000 : Int) < role.size) = false := by simpa using hr
    have HRS := Lib.hid (show role.size ≤ 1000000 by omega)
    obtain ⟨q0, q1, q2⟩ := HC.out w4 HB4.out
    have HM := Lib.hid (snapMay v e l a c w4 (HPA.out w4 HB4.out) hl HF.out (HTW.out w4 HB4.out).1 (HTW.out w4 HB4.out).2)
    obtain ⟨mb, hmb⟩ : ∃ mb, mb = maySnap ⟨v, e, l⟩ := ⟨_, rfl⟩
    rw [← hmb] at HM
    have HMB := Lib.hid hmb
    clear hmb hr
    go_wp2_with fail
    refine HM.out.mono ?_
    clear HM q0 q1 q2
    rintro r w5 ⟨rfl, hb5⟩
    have HB5 := Lib.hid (HB4.out.trans (hb5.mono HB4.out.size))
    clear hb5
    cases mb with
    | false =>
      go_wp2_with fail
      refine (HAW.out w5 HB5.out).mono ?_
      rintro r w6 ⟨rfl, hb6⟩
      have HB6 := Lib.hid (HB5.out.trans (hb6.mono HB5.out.size))
      clear hb6
      go_wp2
      go_ret
      exact ⟨rfl, HB2.out.trans (HB6.out.mono HB2.out.size)⟩
    | true =>
      go_wp2_with fail
      refine (HAW.out w5 HB5.out).mono ?_
      rintro r w6 ⟨rfl, hb6⟩
      have HB6 := Lib.hid (HB5.out.trans (hb6.mono HB5.out.size))
      clear hb6 HB5 HB4 HB3 hd
      have hm := HMB.out.symm
      have HRO := Lib.hid (show ∀ k (hk : k < l.length), roleErr l[k].name = 0 ∧ pinOf l (roleStr l[k].name) = some l[k] from fun k hk => ⟨by
        have h1 : (roleOf l[k].name).isSome = true := role_str hm k hk
        unfold roleErr
        rw [if_pos h1], pinOf_self hm k hk⟩)
      have HIS := Lib.hid (pinOf_is hm role)
      clear hm HMB
      go_wp2
      go_loopw [5, 6, 7, 8, 9, 10] (fun h i _ _ _ _ wr => ∃ k : Nat, k ≤ l.length ∧ i = .int .i64 k ∧ h = .bool ((l.take k).any (fun p => decide (roleStr p.name = role))) ∧ Below W2.heap.size W2 wr) (fun _ i _ _ _ _ _ => l.length - (intOf i).toNat)
      case atStart => exact ⟨0, by omega, rfl, by simp, HB6.out⟩
      case round =>
        obtain ⟨k, hk, rfl, hh, hb⟩ := hrel
        have HB := Lib.hid hb
        clear HB6
        obtain ⟨q0, q1, q2⟩ := HC.out wr HB.out
        by_cases hlt : k < l.length
        · obtain ⟨b1, o1, ha1, _, hbl1, e0, e1, e2, hha, hca, e3, _, hk1⟩ := (HPA.out wr hb).at k hlt
          subst ha1
          have hmem : l[k] ∈ l := List.getElem_mem hlt
          have HTK := Lib.hid (show (l.take (k + 1)).any (fun p => decide (roleStr p.name = role)) = ((l.take k).any (fun p => decide (roleStr p.name = role)) || decide (roleStr l[k].name = role)) by rw [List.take_succ_eq_append_getElem hlt, List.any_append]; simp)
          have HRK := Lib.hid (HRO.out k hlt)
          have HFK := Lib.hid (HF.out l[k] hmem)
          have HPK := Lib.hid (HPS.out l[k] hmem)
          have HPN := Lib.hid (show ∀ w' : World, Below wr.heap.size wr w' → KeysAt w' 0 w'.heap.size hha l[k].hs ∧ PinAt w' 0 w'.heap.size b1 (o1 + k * 4) l[k] from fun w' h => by
            have hpa := PinAt.carry (w' := w') (lo' := 0) (hi' := w'.heap.size) ⟨e0, e1, e2, hha, hca, e3, by assumption, hk1⟩ (Nat.le_refl _) h.size (Nat.zero_le _) hbl1 (fun b _ hlt => h.block b hlt)
            exact ⟨hk1.below h (Nat.le_refl _) (Nat.le_refl _) h.size, hpa⟩)
          have HCP := Lib.hid (show ∀ w' : World, Below wr.heap.size wr w' → w'.cell? ⟨b1, o1 + k * 4, none⟩ = some (.string l[k].name) ∧ w'.cell? ⟨b1, o1 + k * 4 + 1, none⟩ = some (.int .i64 l[k].ver) ∧ w'.cell? ⟨b1, o1 + k * 4 + 2, none⟩ = some (.int .i64 l[k].len) ∧ w'.cell? ⟨b1, o1 + k * 4 + 3, none⟩ = some (.slice hha l[k].hs.length hca) from fun w' h => ⟨by rw [h.cell hbl1]; exact e0, by rw [h.cell hbl1]; exact e1, by rw [h.cell hbl1]; exact e2, by rw [h.cell hbl1]; exact e3⟩)
          obtain ⟨p, hp⟩ : ∃ p, p = l[k] := ⟨_, rfl⟩
          rw [← hp] at HRK HTK HFK HPK HPN HCP e0 e1 e2 e3 hk1
          obtain ⟨nm, vr, ln, hs⟩ := p
          dsimp only at HRK HTK HFK HPK HPN HCP e0 e1 e2 e3 hk1
          obtain ⟨rr, hrr⟩ : ∃ rr, rr = roleStr nm := ⟨_, rfl⟩
          have HRR := Lib.hid hrr
          have HRC := Lib.hid (show ∀ w' : World, Calls Tryz.prog 40 #[.string nm] w' (fun e w'' => e = .returned (.tuple #[.string rr, .int .i64 0]) ∧ w'' = w') from fun w' => by
            have h := nameRoleOf nm w' (by have := HPK.out.1; dsimp only at this; omega)
            rw [HRK.out.1, ← HRR.out] at h
            exact h)
          have HPC := Lib.hid (show ∀ w' : World, Below W2.heap.size W2 w' → Calls Tryz.prog 17 #[.agg #[.int .i64 v, .int .i64 e, .slice (some ⟨b1, o1, none⟩) l.length c], .string rr] w' (fun r w'' => ∃ ha hc, r = .returned (.tuple #[.agg #[.string nm, .int .i64 vr, .int .i64 ln, .slice ha hs.length hc], .bool true]) ∧ KeysAt w'' 0 w''.heap.size ha hs ∧ Below w'.heap.size w' w'') from fun w' h => by
            refine (snapPin v e l rr _ c w' (HPA.out w' h) hl (by rw [HRR.out]; have h1 := HPK.out.1; have := role_size nm; dsimp only at h1; omega) (fun p hp => by have := (HPS.out p hp).2.1; omega)).mono ?_
            rintro r w'' ⟨ha, hc, rfl, hk, hb⟩
            rw [HRR.out, HRK.out.2] at hk ⊢
            exact ⟨ha, hc, rfl, hk, hb⟩)
          clear hrr hp hmem e1 e2 e3 hk1 hb HRO HRK
          obtain ⟨hv, hhv⟩ : ∃ hv, hv = (l.take k).any (fun p => decide (roleStr p.name = role)) := ⟨_, rfl⟩
          rw [← hhv] at hh HTK
          subst hh
          have HHV := Lib.hid hhv
          clear hhv
          go_wp2_with fail
          refine (HRC.out wr).mono ?_
          rintro r w1 ⟨rfl, hw1⟩
          subst hw1
          clear e0 HRC
          go_wp2_with fail
          refine (HPC.out w1 HB.out).mono ?_
          clear HPC q0 q1 q2
          rintro r w7 ⟨ha, hc, rfl, hk7, hb7⟩
          go_upto_region 11 with fail
          obtain ⟨W8, hW8⟩ : ∃ W8, W8 = w7.alloc (.cells #[.string nm, .int .i64 vr, .int .i64 ln, .slice ha hs.length hc] 36) := ⟨_, rfl⟩
          have hx8 : W8.heap[w7.heap.size]? = some (.cells #[.string nm, .int .i64 vr, .int .i64 ln, .slice ha hs.length hc] 36 (0, 0)) := by rw [hW8]; exact heap_alloc_new w7 _
          have hb78 : Below w7.heap.size w7 W8 := by rw [hW8]; exact (Below.refl _ _).alloc (Nat.le_refl _) _
          have HB18 := Lib.hid (show Below w1.heap.size w1 W8 from hb7.trans (hb78.mono hb7.size))
          have HB28 := Lib.hid (HB.out.trans (HB18.out.mono HB.out.size))
          have HC8 := Lib.hid (show ∀ w' : World, Below W8.heap.size W8 w' → w'.cell? ⟨w.heap.size, 2, none⟩ = some (.slice (some ⟨b1, o1, none⟩) l.length c) ∧ w'.cell? ⟨w7.heap.size, 0, none⟩ = some (.string nm) ∧ w'.cell? ⟨w7.heap.size, 1, none⟩ = some (.int .i64 vr) ∧ w'.cell? ⟨w7.heap.size, 2, none⟩ = some (.int .i64 ln) ∧ w'.cell? ⟨w7.heap.size, 3, none⟩ = some (.slice ha hs.length hc) ∧ w'.cell? ⟨b1, o1 + k * 4, none⟩ = some (.string nm) ∧ w'.cell? ⟨b1, o1 + k * 4 + 1, none⟩ = some (.int .i64 vr) ∧ w'.cell? ⟨b1, o1 + k * 4 + 2, none⟩ = some (.int .i64 ln) ∧ w'.cell? ⟨b1, o1 + k * 4 + 3, none⟩ = some (.slice hha hs.length hca) from fun w' h => by
            have x := (h.block _ (heap_lt hx8)).trans hx8
            obtain ⟨z0, z1, z2, z3⟩ := HCP.out w' (HB18.out.trans (h.mono HB18.out.size))
            exact ⟨(HC.out w' (HB28.out.trans (h.mono HB28.out.size))).2.2, box_cell x rfl, box_cell x rfl, box_cell x rfl, box_cell x rfl, z0, z1, z2, z3⟩)
          have HSP := Lib.hid (show ∀ w' : World, Below W8.heap.size W8 w' → Calls Tryz.prog 20 #[.agg #[.string nm, .int .i64 vr, .int .i64 ln, .slice ha hs.length hc], .agg #[.string nm, .int .i64 vr, .int .i64 ln, .slice hha hs.length hca]] w' (fun e w'' => e = .returned (.bool true) ∧ Below w'.heap.size w' w'') from fun w' h =>
            ref23SamePin nm vr ln hs ha hha hc hca w' (hk7.below (hb78.trans (h.mono hb78.size)) (Nat.le_refl _) (Nat.le_refl _) (Nat.le_trans hb78.size h.size)) (HPN.out w' (HB18.out.trans (h.mono HB18.out.size))).1 (by have := HPK.out.2.1; dsimp only at this; omega))
          rw [← hW8]
          clear hW8 hx8 hb78 hk7 hb7 HPN HCP
          obtain ⟨V, hV⟩ : ∃ V : List MP, V = [.con (.bool true), .con (.bool false), .con (.bool false), .con (.agg #[.string nm, .int .i64 vr, .int .i64 ln, .slice ha hs.length hc]), .con (.pointer (some ⟨w.heap.size, 2, none⟩)), .con (.slice (some ⟨b1, o1, none⟩) l.length c), .con (.int .i64 k), .con (.pointer (some ⟨b1, o1 + k * 4, none⟩)), .con (.agg #[.string nm, .int .i64 vr, .int .i64 ln, .slice hha hs.length hca]), .con (.bool true), .con (.bool false)] := ⟨_, rfl⟩
          have HV := Lib.hid hV
          clear hV
          refine wp_region_inv 11 (fun d a' w' => ∃ x56 x57 x58 x59 x60 x61 x62 x63 x64 x65 x66, a' = ⟨#[Value.agg #[Value.int IntKind.i64 v, Value.int IntKind.i64 e, Value.slice (some { block := b1, off := o1 }) l.length c], Value.string role, Value.pointer (some { block := w.heap.size, off := 0 }), undef, u4, Value.bool hv, Value.int IntKind.i64 (k : Int), Value.string rr, Value.int IntKind.i64 0, Value.pointer (some { block := w7.heap.size, off := 0 }), Value.bool true, undef, undef, Value.agg #[Value.int IntKind.i64 v, Value.int IntKind.i64 e, Value.slice (some { block := b1, off := o1 }) l.length c], Value.slice (some { block := W2.heap.size, off := 0 }) 1 1, Value.bool false, Value.bool false, Value.string role, Value.int IntKind.i64 (role.size : Int), Value.bool false, Value.bool false, Value.bool false, Value.agg #[Value.int IntKind.i64 v, Value.int IntKind.i64 e, Value.slice (some { block := b1, off := o1 }) l.length c], Value.bool true, Value.bool false, Value.bool false, Value.bool false, Value.bool true, Value.bool false, Value.bool false, undef, Value.int IntKind.i64 (k : Int), Value.pointer (some { block := w.heap.size, off := 2 }), Value.slice (some { block := b1, off := o1 }) l.length c, Value.int IntKind.i64 (l.length : Int), Value.bool true, u36, u37, Value.tuple #[Value.string rr, Value.int IntKind.i64 0], Value.pointer (some { block := w.heap.size, off := 2 }), Value.slice (some { block := b1, off := o1 }) l.length c, Value.int IntKind.i64 (k : Int), Value.pointer (some { block := b1, off := o1 + k * 4 }), Value.pointer (some { block := b1, off := o1 + k * 4 }), Value.string nm, Value.tuple #[Value.string rr, Value.int IntKind.i64 0], Value.string rr, Value.int IntKind.i64 0, Value.int IntKind.i64 0, Value.bool false, Value.tuple #[Value.agg #[Value.string nm, Value.int IntKind.i64 vr, Value.int IntKind.i64 ln, Value.slice ha hs.length hc], Value.bool true], Value.agg #[Value.int IntKind.i64 v, Value.int IntKind.i64 e, Value.slice (some { block := b1, off := o1 }) l.length c], Value.string rr, Value.tuple #[Value.agg #[Value.string nm, Value.int IntKind.i64 vr, Value.int IntKind.i64 ln, Value.slice ha hs.length hc], Value.bool true], Value.agg #[Value.string nm, Value.int IntKind.i64 vr, Value.int IntKind.i64 ln, Value.slice ha hs.length hc], Value.bool true, x56, x57, x58, x59, x60, x61, x62, x63, x64, x65, x66, u67, u68, u69, u70, u71, u72, u73, undef, undef, undef, undef, undef, undef, undef, undef, undef, undef, undef, undef, undef, undef, undef, undef, undef], []⟩ ∧ RegI W8 V d w' [x56, x57, x58, x59, x60, x61, x62, x63, x64, x65, x66]) (by kernel_rfl) (by kernel_rfl) ?first ?step ?last
          case first => exact ⟨_, _, _, _, _, _, _, _, _, _, _, rfl, RegI.first _ _ _ (by rw [HV.out]; rfl)⟩
          case step =>
            rintro d a' w' ⟨x56, x57, x58, x59, x60, x61, x62, x63, x64, x65, x66, rfl, h⟩ q hq hn hw
            rcases q with _ | _ | _ | _ | _ | _ | _ | _ | _ | _ | _ | q
            · refine wpOp_step rfl fun K hK => ?_
              go_simp
              exact hK _ _ ⟨_, x57, x58, x59, x60, x61, x62, x63, x64, x65, x66, rfl, h.same 0 _ (.con (.bool true)) (by rw [HV.out]; rfl) rfl⟩
            · obtain rfl : x56 = .bool true := h.get 0 (hw _ rfl ⟨0, .data⟩ (by simp) rfl) (.con (.bool true)) (by rw [HV.out]; rfl) _ rfl
              refine wpOp_step rfl fun K hK => ?_
              go_simp
              exact hK _ _ ⟨_, _, x58, x59, x60, x61, x62, x63, x64, x65, x66, rfl, h.same 1 _ (.con (.bool false)) (by rw [HV.out]; rfl) rfl⟩
            · obtain rfl : x57 = .bool false := h.get 1 (hw _ rfl ⟨1, .data⟩ (by simp) rfl) (.con (.bool false)) (by rw [HV.out]; rfl) _ rfl
              refine wpOp_step rfl fun K hK => ?_
              go_simp
              exact hK _ _ ⟨x56, _, _, x59, x60, x61, x62, x63, x64, x65, x66, rfl, h.same 2 _ (.con (.bool false)) (by rw [HV.out]; rfl) rfl⟩
            · obtain rfl : x58 = .bool false := h.get 2 (hw _ rfl ⟨2, .guard⟩ (by simp) rfl) (.con (.bool false)) (by rw [HV.out]; rfl) _ rfl
              obtain ⟨q2, y0, y1, y2, y3, z0, z1, z2, z3⟩ := HC8.out w' h.1
              refine wpOp_step rfl fun K hK => ?_
              go_simp
              exact hK _ _ ⟨x56, x57, _, _, x60, x61, x62, x63, x64, x65, x66, rfl, h.same 3 _ (.con (.agg #[.string nm, .int .i64 vr, .int .i64 ln, .slice ha hs.length hc])) (by rw [HV.out]; rfl) rfl⟩
            · obtain rfl : x58 = .bool false := h.get 2 (hw _ rfl ⟨2, .guard⟩ (by simp) rfl) (.con (.bool false)) (by rw [HV.out]; rfl) _ rfl
              refine wpOp_step rfl fun K hK => ?_
              go_simp
              exact hK _ _ ⟨x56, x57, _, x59, _, x61, x62, x63, x64, x65, x66, rfl, h.same 4 _ (.con (.pointer (some ⟨w.heap.size, 2, none⟩))) (by rw [HV.out]; rfl) rfl⟩
            · obtain rfl : x58 = .bool false := h.get 2 (hw _ rfl ⟨2, .guard⟩ (by simp) rfl) (.con (.bool false)) (by rw [HV.out]; rfl) _ rfl
              obtain rfl : x60 = .pointer (some ⟨w.heap.size, 2, none⟩) := h.get 4 (hw _ rfl ⟨4, .data⟩ (by simp) rfl) (.con (.pointer (some ⟨w.heap.size, 2, none⟩))) (by rw [HV.out]; rfl) _ rfl
              obtain ⟨q2, y0, y1, y2, y3, z0, z1, z2, z3⟩ := HC8.out w' h.1
              refine wpOp_step rfl fun K hK => ?_
              go_simp
              exact hK _ _ ⟨x56, x57, _, x59, _, _, x62, x63, x64, x65, x66, rfl, h.same 5 _ (.con (.slice (some ⟨b1, o1, none⟩) l.length c)) (by rw [HV.out]; rfl) rfl⟩
            · obtain rfl : x58 = .bool false := h.get 2 (hw _ rfl ⟨2, .guard⟩ (by simp) rfl) (.con (.bool false)) (by rw [HV.out]; rfl) _ rfl
              refine wpOp_step rfl fun K hK => ?_
              go_simp
              exact hK _ _ ⟨x56, x57, _, x59, x60, x61, _, x63, x64, x65, x66, rfl, h.same 6 _ (.con (.int .i64 k)) (by rw [HV.out]; rfl) rfl⟩
            · obtain rfl : x58 = .bool false := h.get 2 (hw _ rfl ⟨2, .guard⟩ (by simp) rfl) (.con (.bool false)) (by rw [HV.out]; rfl) _ rfl
              obtain rfl : x61 = .slice (some ⟨b1, o1, none⟩) l.length c := h.get 5 (hw _ rfl ⟨5, .data⟩ (by simp) rfl) (.con (.slice (some ⟨b1, o1, none⟩) l.length c)) (by rw [HV.out]; rfl) _ rfl
              obtain rfl : x62 = .int .i64 k := h.get 6 (hw _ rfl ⟨6, .data⟩ (by simp) rfl) (.con (.int .i64 k)) (by rw [HV.out]; rfl) _ rfl
              obtain ⟨q2, y0, y1, y2, y3, z0, z1, z2, z3⟩ := HC8.out w' h.1
              refine wpOp_step rfl fun K hK => ?_
              go_simp
              exact hK _ _ ⟨x56, x57, _, x59, x60, _, _, _, x64, x65, x66, rfl, h.same 7 _ (.con (.pointer (some ⟨b1, o1 + k * 4, none⟩))) (by rw [HV.out]; rfl) rfl⟩
            · obtain rfl : x58 = .bool false := h.get 2 (hw _ rfl ⟨2, .guard⟩ (by simp) rfl) (.con (.bool false)) (by rw [HV.out]; rfl) _ rfl
              obtain rfl : x63 = .pointer (some ⟨b1, o1 + k * 4, none⟩) := h.get 7 (hw _ rfl ⟨7, .data⟩ (by simp) rfl) (.con (.pointer (some ⟨b1, o1 + k * 4, none⟩))) (by rw [HV.out]; rfl) _ rfl
              obtain ⟨q2, y0, y1, y2, y3, z0, z1, z2, z3⟩ := HC8.out w' h.1
              refine wpOp_step rfl fun K hK => ?_
              go_simp
              exact hK _ _ ⟨x56, x57, _, x59, x60, x61, x62, _, _, x65, x66, rfl, h.same 8 _ (.con (.agg #[.string nm, .int .i64 vr, .int .i64 ln, .slice hha hs.length hca])) (by rw [HV.out]; rfl) rfl⟩
            · obtain rfl : x58 = .bool false := h.get 2 (hw _ rfl ⟨2, .chain⟩ (by simp) rfl) (.con (.bool false)) (by rw [HV.out]; rfl) _ rfl
              obtain rfl : x59 = .agg #[.string nm, .int .i64 vr, .int .i64 ln, .slice ha hs.length hc] := h.get 3 (hw _ rfl ⟨3, .data⟩ (by simp) rfl) (.con (.agg #[.string nm, .int .i64 vr, .int .i64 ln, .slice ha hs.length hc])) (by rw [HV.out]; rfl) _ rfl
              obtain rfl : x64 = .agg #[.string nm, .int .i64 vr, .int .i64 ln, .slice hha hs.length hca] := h.get 8 (hw _ rfl ⟨8, .data⟩ (by simp) rfl) (.con (.agg #[.string nm, .int .i64 vr, .int .i64 ln, .slice hha hs.length hca])) (by rw [HV.out]; rfl) _ rfl
              obtain ⟨q2, y0, y1, y2, y3, z0, z1, z2, z3⟩ := HC8.out w' h.1
              refine wpOp_step rfl fun K hK => ?_
              go_simp
              refine (HSP.out w' h.1).mono ?_
              rintro e w2 ⟨rfl, hb2⟩
              exact hK _ _ ⟨x56, x57, _, _, x60, x61, x62, x63, _, _, x66, rfl, h.did hb2 9 _ (.con (.bool true)) (by rw [HV.out]; rfl) rfl⟩
            · obtain rfl : x58 = .bool false := h.get 2 (hw _ rfl ⟨2, .guard⟩ (by simp) rfl) (.con (.bool false)) (by rw [HV.out]; rfl) _ rfl
              obtain rfl : x65 = .bool true := h.get 9 (hw _ rfl ⟨9, .data⟩ (by simp) rfl) (.con (.bool true)) (by rw [HV.out]; rfl) _ rfl
              refine wpOp_step rfl fun K hK => ?_
              go_simp
              exact hK _ _ ⟨x56, x57, _, x59, x60, x61, x62, x63, x64, _, _, rfl, h.same 10 _ (.con (.bool false)) (by rw [HV.out]; rfl) rfl⟩
            · omega
          case last =>
            rintro d a' w' hall ⟨x56, x57, x58, x59, x60, x61, x62, x63, x64, x65, x66, rfl, h⟩
            have hle := h.1
            obtain rfl : x58 = .bool false := h.get 2 (hall _ (by omega)) (.con (.bool false)) (by rw [HV.out]; rfl) _ rfl
            obtain rfl : x66 = .bool false := h.get 10 (hall _ (by omega)) (.con (.bool false)) (by rw [HV.out]; rfl) _ rfl
            have HLE := Lib.hid hle
            clear h hall hle HV
            have HB8z := Lib.hid (HB28.out.trans (HLE.out.mono HB28.out.size))
            by_cases heq : rr = role
            · have t1 : (rr.toList == role.toList) = true := by rw [heq]; simp
              have HDE := Lib.hid (show decide (roleStr nm = role) = true by rw [← HRR.out]; simpa using heq)
              clear heq
              cases hv with
              | true =>
                go_wp2_with fail
                exact ⟨⟨k + 1, by omega, by go_num, by rw [HTK.out]; rfl, HB8z.out⟩, by simp [intOf]; omega⟩
              | false =>
                go_wp2_with fail
                exact ⟨⟨k + 1, by omega, by go_num, by rw [HTK.out, HDE.out]; rfl, HB8z.out⟩, by simp [intOf]; omega⟩
            · have t1 : (rr.toList == role.toList) = false := beq_eq_false_iff_ne.2 (fun e => heq (ba_ext2 e))
              have HDE := Lib.hid (show decide (roleStr nm = role) = false by rw [← HRR.out]; simpa using heq)
              clear heq
              cases hv with
              | true =>
                go_wp2_with fail
                exact ⟨⟨k + 1, by omega, by go_num, by rw [HTK.out]; rfl, HB8z.out⟩, by simp [intOf]; omega⟩
              | false =>
                go_wp2_with fail
                exact ⟨⟨k + 1, by omega, by go_num, by rw [HTK.out, HDE.out]; rfl, HB8z.out⟩, by simp [intOf]; omega⟩
        · obtain rfl : k = l.length := by omega
          rw [List.take_length, ← HIS.out] at hh
          subst hh
          obtain ⟨q0, q1, q2⟩ := HC.out wr HB.out
          have HPR := Lib.hid (snapPin v e l role a c wr (HPA.out wr hb) hl HRS.out (fun p hp => by have := (HPS.out p hp).2.1; omega))
          clear hb
          go_wp2_with fail
          refine HPR.out.mono ?_
          clear HPR q0 q1 q2
          rintro r w1 ⟨ha, hc, rfl, hk1, hb1⟩
          have HB1 := Lib.hid (HB.out.trans (hb1.mono HB.out.size))
          clear hb1
          cases hpo : pinOf l role with
          | some p =>
            rw [hpo] at hk1
            obtain ⟨nm, vr, ln, hs⟩ := p
            dsimp only [Option.getD_some, Option.isSome_some]
            clear hk1 hpo HIS
            go_wp2_with fail
            go_ret
            exact ⟨rfl, HB2.out.trans ((HB1.out.alloc HB1.out.size _).mono HB2.out.size)⟩
          | none =>
            rw [hpo] at hk1
            dsimp only [Option.getD_none, Option.isSome_none, pinZ]
            clear hpo HIS hk1
            obtain ⟨W2x, hW2x⟩ : ∃ W2x, W2x = w1.alloc (.cells #[.string { data := #[] }, .int .i64 0, .int .i64 0, .slice ha 0 hc] 36) := ⟨_, rfl⟩
            have hx9 : W2x.heap[w1.heap.size]? = some (.cells #[.string { data := #[] }, .int .i64 0, .int .i64 0, .slice ha 0 hc] 36 (0, 0)) := by rw [hW2x]; exact heap_alloc_new w1 _
            have y0 : W2x.cell? ⟨w1.heap.size, 0, none⟩ = some (.string { data := #[] }) := box_cell hx9 rfl
            have y1 : W2x.cell? ⟨w1.heap.size, 1, none⟩ = some (.int .i64 0) := box_cell hx9 rfl
            have y2 : W2x.cell? ⟨w1.heap.size, 2, none⟩ = some (.int .i64 0) := box_cell hx9 rfl
            have y3 : W2x.cell? ⟨w1.heap.size, 3, none⟩ = some (.slice ha 0 hc) := box_cell hx9 rfl
            have HBX := Lib.hid (show Below W2.heap.size W2 W2x by rw [hW2x]; exact HB1.out.alloc HB1.out.size _)
            go_upto_region 15 with fail
            rw [← hW2x]
            clear hW2x hx9
            go_wp2_with fail
            refine (ref23SamePin { data := #[] } 0 0 [] ha none hc 0 W2x (.inl rfl) (.inl rfl) (by decide)).mono ?_
            rintro r w9 ⟨rfl, hb9⟩
            have HB9 := Lib.hid (HBX.out.trans (hb9.mono HBX.out.size))
            clear hb9 y0 y1 y2 y3
            go_wp2
            go_ret
            exact ⟨rfl, HB2.out.trans (HB9.out.mono HB2.out.size)⟩
end Go.Proofs.YtgghgcilpfdbjaaGreatDoor
