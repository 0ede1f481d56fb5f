/- The law SnapRow: the call returns true. Printed by genrow2.py. -/
import Derived.Test.YtgghgcilpfdbjaaGreatDoorSl27
import Derived.Test.YtgghgcilpfdbjaaGreatDoorSl28
import Derived.Test.YtgghgcilpfdbjaaGreatDoorSl10
import Derived.Test.YtgghgcilpfdbjaaGreatDoorSl09
import Derived.Test.YtgghgcilpfdbjaaGreatDoorSl02
import Derived.Test.YtgghgcilpfdbjaaGreatDoorSr00
import Derived.Test.YtgghgcilpfdbjaaGreatDoorSl25
import Derived.Test.YtgghgcilpfdbjaaGreatDoorSl17
import Derived.StillTailTactics

namespace Go.Proofs.YtgghgcilpfdbjaaGreatDoor
open Go.RowKit Go.Shelf Go.Sort

set_option maxHeartbeats 8000000 in
set_option maxRecDepth 100000 in
theorem lawRow (v e : Int) (l : List PinV) (a : Option Addr) (c : Nat) (x y : Int) (w : World) (_hlc : l.length ≤ c) (hP : PinsAt w 0 w.heap.size a l) (hl : l.length ≤ 9223372036854775807) (hf : ∀ p ∈ l, PinFits p) (hT : TabW w) (hP10 : Pow10 w) :
    Calls Tryz.prog 11 #[.agg #[.int .i64 v, .int .i64 e, .slice a l.length c], .int .i64 x, .int .i64 y] w fun r w' => r = .returned (.bool true) ∧ Below w.heap.size w w' := by
  obtain ⟨W2, hW2⟩ : ∃ W2, W2 = w.alloc (.cells #[.int .i64 v, .int .i64 e, .slice a l.length c] 24) := ⟨_, rfl⟩
  have hb2 : Below w.heap.size w W2 := by rw [hW2]; exact (Below.refl _ _).alloc (Nat.le_refl _) _
  have hx : W2.heap[w.heap.size]? = some (.cells #[.int .i64 v, .int .i64 e, .slice a l.length c] 24 (0, 0)) := by rw [hW2]; exact heap_alloc_new w _
  obtain ⟨W3, hW3⟩ : ∃ W3, W3 = W2.alloc (.cells #[.int .i64 v, .int .i64 e, .slice a l.length c] 24) := ⟨_, rfl⟩
  have hb3 : Below W2.heap.size W2 W3 := by rw [hW3]; exact (Below.refl _ _).alloc (Nat.le_refl _) _
  have hx3 : W3.heap[W2.heap.size]? = some (.cells #[.int .i64 v, .int .i64 e, .slice a l.length c] 24 (0, 0)) := by rw [hW3]; exact heap_alloc_new W2 _
  have HPA := Lib.hid (show ∀ w' : World, Below W2.heap.size W2 w' → PinsAt w' 0 w'.heap.size a l from fun w' h => hP.below (hb2.trans (h.mono hb2.size)) (Nat.le_refl _) (Nat.zero_le _) (Nat.le_trans hb2.size h.size))
  have HTW := Lib.hid (show ∀ w' : World, Below W2.heap.size W2 w' → TabW w' ∧ Pow10 w' from fun w' h => ⟨hT.below (hb2.trans (h.mono hb2.size)), hP10.below (hb2.trans (h.mono hb2.size))⟩)
  have HC := Lib.hid (show ∀ w' : World, Below W2.heap.size W2 w' → w'.cell? ⟨w.heap.size, 0, none⟩ = some (.int .i64 v) ∧ w'.cell? ⟨w.heap.size, 1, none⟩ = some (.int .i64 e) ∧ w'.cell? ⟨w.heap.size, 2, none⟩ = some (.slice a l.length c) from fun w' h => by
    have x := (h.block _ (heap_lt hx)).trans hx
    exact ⟨box_cell x rfl, box_cell x rfl, box_cell x rfl⟩)
  have HLG := Lib.hid (lawLong1 l v e a c W2.heap.size 1 W3 (HPA.out W3 hb3) hf hl hx3)
  have HAW := Lib.hid (show ∀ w' : World, Below W2.heap.size W2 w' → Calls Tryz.prog 14 #[] w' (fun e w'' => e = .returned (.bool true) ∧ Below w'.heap.size w' w'') from fun w' h => lawAwake23 w' (HTW.out w' h).1 (HTW.out w' h).2)
  have HF := Lib.hid hf
  have HB2 := Lib.hid hb2
  have HB3 := Lib.hid hb3
  have HW3 := Lib.hid hW3
  have HW2 := Lib.hid hW2
  clear hW2 hW3 hb2 hb3 hx hx3 hP hT hP10 hf
  obtain ⟨q0, q1, q2⟩ := HC.out W2 (Below.refl _ _)
  go_enter Tryz.func11, Tryz.ntmps11
  go_upto_region 1 with fail
  rw [← HW2.out]
  go_wp2_with fail
  rw [← HW3.out]
  refine HLG.out.mono ?_
  clear HLG q0 q1 q2 HW2 HW3
  rintro r w4 ⟨b, rfl, hsh, hb4⟩
  have HB4 := Lib.hid (HB3.out.trans (hb4.mono HB3.out.size))
  have HSH := Lib.hid hsh
  clear hsh hb4
  cases b with
  | true =>
    go_wp2_with fail
    refine (HAW.out w4 HB4.out).mono ?_
    rintro r w5 ⟨rfl, hb5⟩
    have HB5 := Lib.hid (HB4.out.trans (hb5.mono HB4.out.size))
    clear hb5
    go_wp2
    go_ret
    exact ⟨rfl, HB2.out.trans (HB5.out.mono HB2.out.size)⟩
  | false =>
    obtain ⟨hl6, hps⟩ := HSH.out rfl
    have HPS := Lib.hid hps
    clear hps HSH
    obtain ⟨q0, q1, q2⟩ := HC.out w4 HB4.out
    have HM := Lib.hid (snapMay v e l a c w4 (HPA.out w4 HB4.out) hl HF.out (HTW.out w4 HB4.out).1 (HTW.out w4 HB4.out).2)
    obtain ⟨mb, hmb⟩ : ∃ mb, mb = maySnap ⟨v, e, l⟩ := ⟨_, rfl⟩
    rw [← hmb] at HM
    have HMB := Lib.hid hmb
    clear hmb
    go_wp2_with fail
    refine HM.out.mono ?_
    clear HM q0 q1 q2
    rintro r w5 ⟨rfl, hb5⟩
    have HB5 := Lib.hid (HB4.out.trans (hb5.mono HB4.out.size))
    clear hb5
    cases mb with
    | false =>
      go_wp2_with fail
      refine (HAW.out w5 HB5.out).mono ?_
      rintro r w6 ⟨rfl, hb6⟩
      have HB6 := Lib.hid (HB5.out.trans (hb6.mono HB5.out.size))
      clear hb6
      go_wp2
      go_ret
      exact ⟨rfl, HB2.out.trans (HB6.out.mono HB2.out.size)⟩
    | true =>
      go_wp2_with fail
      refine (HAW.out w5 HB5.out).mono ?_
      rintro r w6 ⟨rfl, hb6⟩
      have HB6 := Lib.hid (HB5.out.trans (hb6.mono HB5.out.size))
      clear hb6 HB5 HB4 HB3
      have hm := HMB.out.symm
      obtain ⟨q0, q1, q2⟩ := HC.out w6 HB6.out
      have hall : l.all mayPin = true := (maySnap_parts.1 hm).2.2.2.1
      have hl256 : l.length ≤ 256 := (maySnap_parts.1 hm).2.2.1
      have hexp := (maySnap_parts.1 hm).2.1
      dsimp only at hexp
      have HSV := Lib.hid (snapValue v e l a c w6 (HPA.out w6 HB6.out) HF.out (HTW.out w6 HB6.out).1 (HTW.out w6 HB6.out).2 hm (pins_made hall) (fun p hp => Nat.le_trans (pinJ_wt (List.all_eq_true.1 hall p hp)) (by decide)) (Nat.le_trans (metaJ_wt hall hl256) (by decide)))
      have HM := Lib.hid hm
      have HAL := Lib.hid hall
      have HEX := Lib.hid hexp
      clear hm hall hexp
      go_wp2_with fail
      refine HSV.out.mono ?_
      clear HSV q0 q1 q2
      rintro r w7 ⟨an, cn, ai, ci, rfl, hr7, hb7⟩
      obtain ⟨bi, oi, a2, c2, a3, c3, rfl, hbi1, hbi2, z1, z2, z3, z4, hs2, hs3⟩ := snap_cells hr7
      obtain ⟨W8, hW8⟩ : ∃ W8, W8 = w7.alloc (.cells #[.int .u8 5, .int .i64 0, .string { data := #[] }, .slice an 4 cn, .slice (some ⟨bi, oi, none⟩) 4 ci] 30) := ⟨_, rfl⟩
      have hb78 : Below w7.heap.size w7 W8 := by rw [hW8]; exact (Below.refl _ _).alloc (Nat.le_refl _) _
      have hx8 : W8.heap[w7.heap.size]? = some (.cells #[.int .u8 5, .int .i64 0, .string { data := #[] }, .slice an 4 cn, .slice (some ⟨bi, oi, none⟩) 4 ci] 30 (0, 0)) := by rw [hW8]; exact heap_alloc_new w7 _
      have HB68 := Lib.hid (hb7.trans (hb78.mono hb7.size))
      have HB8 := Lib.hid (HB6.out.trans (HB68.out.mono HB6.out.size))
      have HC8 := Lib.hid (show ∀ w' : World, Below W8.heap.size W8 w' → (w'.cell? ⟨w.heap.size, 0, none⟩ = some (.int .i64 v) ∧ w'.cell? ⟨w.heap.size, 1, none⟩ = some (.int .i64 e) ∧ w'.cell? ⟨w.heap.size, 2, none⟩ = some (.slice a l.length c)) ∧ w'.cell? ⟨w7.heap.size, 4, none⟩ = some (.slice (some ⟨bi, oi, none⟩) 4 ci) ∧ w'.cell? ⟨bi, oi + 5 + 2, none⟩ = some (.string ⟨(dateL e.toNat).toArray⟩) ∧ w'.cell? ⟨bi, oi + 10 + 3, none⟩ = some (.slice a2 l.length c2) ∧ w'.cell? ⟨bi, oi + 10 + 4, none⟩ = some (.slice a3 l.length c3) ∧ w'.cell? ⟨bi, oi + 15 + 1, none⟩ = some (.int .i64 v) from fun w' h => by
        have x := (h.block _ (heap_lt hx8)).trans hx8
        have hc : ∀ o, w'.cell? ⟨bi, o, none⟩ = w7.cell? ⟨bi, o, none⟩ := fun o => (hb78.trans (h.mono hb78.size)).cell hbi2
        exact ⟨HC.out w' (HB8.out.trans (h.mono HB8.out.size)), box_cell x rfl, by rw [hc]; exact z1, by rw [hc]; exact z2, by rw [hc]; exact z3, by rw [hc]; exact z4⟩)
      have HST := Lib.hid (show ∀ w' : World, Below W8.heap.size W8 w' → StrsAt w' 0 w'.heap.size a2 (l.map (·.name)) ∧ ValsAt w' 0 w'.heap.size a3 (l.map pinJ) from fun w' h => ⟨hs2.below (hb78.trans (h.mono hb78.size)) (Nat.le_refl _) (Nat.zero_le _) (Nat.le_trans hb78.size h.size), hs3.below (hb78.trans (h.mono hb78.size)) (Nat.le_refl _) (Nat.zero_le _) (Nat.le_trans hb78.size h.size)⟩)
      have HW8 := Lib.hid hW8
      clear hW8 hb78 hx8 hr7 hb7 z1 z2 z3 z4 hs2 hs3 hbi1 hbi2
      obtain ⟨⟨q0, q1, q2⟩, y0, y1, y2, y3, y4⟩ := HC8.out W8 (Below.refl _ _)
      go_upto_region 4 with fail
      rw [← HW8.out]
      go_quiet (fail)
      generalize hW9 : World.drewN W8 _ = W9
      have hb9 : Below W8.heap.size W8 W9 := by rw [← hW9]; exact Below.drewN (Below.refl _ _) _
      have HB9 := Lib.hid hb9
      clear hW9 q0 q1 q2 y0 y1 y2 y3 y4
      obtain ⟨⟨q0, q1, q2⟩, y0, y1, y2, y3, y4⟩ := HC8.out W9 hb9
      have HSH := Lib.hid (show Calls Tryz.prog 44 #[.int .i64 e] W9 (fun r w'' => r = .returned (.tuple #[.string ⟨(dateL e.toNat).toArray⟩, .int .i64 0]) ∧ Below W9.heap.size W9 w'') from by
        have h := HTW.out W9 (HB8.out.trans (hb9.mono HB8.out.size))
        have := whenShow e W9 h.1 h.2
        have e1 : showS e = ⟨(dateL e.toNat).toArray⟩ := by unfold showS; rw [if_pos HEX.out]
        have e2 : showE e = 0 := by unfold showE; rw [if_pos HEX.out]
        rw [e1, e2] at this
        exact this)
      clear hb9
      go_wp2_with fail
      refine HSH.out.mono ?_
      clear HSH q0 q1 q2 y0 y1 y2 y3 y4
      rintro r w10 ⟨rfl, hb10⟩
      have hb8 : Below W8.heap.size W8 w10 := HB9.out.trans (hb10.mono HB9.out.size)
      have HB10 := Lib.hid hb8
      obtain ⟨⟨q0, q1, q2⟩, y0, y1, y2, y3, y4⟩ := HC8.out w10 hb8
      clear hb10 hb8 HB9
      obtain ⟨ds, hds⟩ : ∃ ds : ByteArray, ds = ⟨(dateL e.toNat).toArray⟩ := ⟨_, rfl⟩
      rw [← hds] at y1 ⊢
      have hdd : (ds.toList != ds.toList) = false := by simp
      clear hds
      go_upto_region 7 with fail
      go_quiet (fail)
      generalize hW11 : World.drewN w10 _ = W11
      have hb11 : Below w10.heap.size w10 W11 := by rw [← hW11]; exact Below.drewN (Below.refl _ _) _
      have HB11 := Lib.hid (HB10.out.trans (hb11.mono HB10.out.size))
      clear hW11 hb11 q0 q1 q2 y0 y1 y2 y3 y4
      go_wp2
      go_loopw [11, 12, 13] (fun i _ _ wr => ∃ k : Nat, k ≤ l.length ∧ i = .int .i64 k ∧ Below W8.heap.size W8 wr) (fun i _ _ _ => l.length - (intOf i).toNat)
      case atStart => exact ⟨0, by omega, rfl, HB11.out⟩
      case round =>
        obtain ⟨k, hk, rfl, hb⟩ := hrel
        have HB := Lib.hid hb
        clear HB11 HB10
        obtain ⟨⟨q0, q1, q2⟩, y0, y1, y2, y3, y4⟩ := HC8.out wr hb
        by_cases hlt : k < l.length
        · obtain ⟨b1, o1, ha1, _, hbl1, e0, e1, e2, hha, hca, e3, hcl, hk1⟩ := (HPA.out wr (HB8.out.trans (hb.mono HB8.out.size))).at k hlt
          subst ha1
          have hmem : l[k] ∈ l := List.getElem_mem hlt
          have hst := HST.out wr hb
          have hs2k : ∃ b2 o2, a2 = some ⟨b2, o2, none⟩ ∧ b2 < wr.heap.size ∧ wr.cell? ⟨b2, o2 + k, none⟩ = some (.string l[k].name) := by
            rcases hst.1 with h | ⟨b, off, ha, _, hb', hc⟩
            · have := congrArg List.length h; rw [List.length_map, List.length_nil] at this; omega
            · refine ⟨b, off, ha, hb', ?_⟩
              have := hc k (by simpa using hlt)
              simpa using this
          have hs3k : ∃ b3 o3 an3 cn3 ai3 ci3, a3 = some ⟨b3, o3, none⟩ ∧ b3 < wr.heap.size ∧ wr.cell? ⟨b3, o3 + k * 5, none⟩ = some (.int .u8 (pinJ l[k]).kind) ∧ wr.cell? ⟨b3, o3 + k * 5 + 1, none⟩ = some (.int .i64 (pinJ l[k]).n) ∧ wr.cell? ⟨b3, o3 + k * 5 + 2, none⟩ = some (.string (pinJ l[k]).t) ∧ wr.cell? ⟨b3, o3 + k * 5 + 3, none⟩ = some (.slice an3 (pinJ l[k]).names.length cn3) ∧ wr.cell? ⟨b3, o3 + k * 5 + 4, none⟩ = some (.slice ai3 (pinJ l[k]).items.length ci3) ∧ Rep wr 0 wr.heap.size (pinJ l[k]) (.agg #[.int .u8 (pinJ l[k]).kind, .int .i64 (pinJ l[k]).n, .string (pinJ l[k]).t, .slice an3 (pinJ l[k]).names.length cn3, .slice ai3 (pinJ l[k]).items.length ci3]) := by
            rcases hst.2 with h | ⟨b, off, ha, _, hb', _, hr⟩
            · have := congrArg List.length h; rw [List.length_map, List.length_nil] at this; omega
            · obtain ⟨c0, c1, c2, c3, c4, m0, m1, m2, m3, m4, _, hR⟩ := hr.at k (by simpa using hlt)
              rw [List.getElem_map] at hR
              obtain ⟨an3, cn3, ai3, ci3, hx, _, _, _, _⟩ := hR.parts
              have hx2 := hx
              simp only [Value.agg.injEq, Array.mk.injEq, List.cons.injEq, and_true] at hx2
              obtain ⟨rfl, rfl, rfl, rfl, rfl⟩ := hx2
              exact ⟨b, off, an3, cn3, ai3, ci3, ha, hb', m0, m1, m2, m3, m4, hR⟩
          obtain ⟨b2, o2, rfl, hb2', n0⟩ := hs2k
          obtain ⟨b3, o3, an3, cn3, ai3, ci3, rfl, hb3', m0, m1, m2, m3, m4, hR3⟩ := hs3k
          have HPV := Lib.hid (pins_made HAL.out l[k] hmem hha hca wr hk1)
          have HWT := Lib.hid (pinJ_wt (List.all_eq_true.1 HAL.out l[k] hmem))
          obtain ⟨p, hp⟩ : ∃ p, p = l[k] := ⟨_, rfl⟩
          rw [← hp] at e0 e1 e2 e3 n0 m0 m1 m2 m3 m4 hR3 HPV HWT
          obtain ⟨nm, vr, ln, hs⟩ := p
          obtain ⟨pj, hpj⟩ : ∃ pj, pj = pinJ ⟨nm, vr, ln, hs⟩ := ⟨_, rfl⟩
          have HPJ := Lib.hid hpj
          dsimp only at e0 e1 e2 e3 n0 HPV
          rw [← hpj] at m0 m1 m2 m3 m4 hR3 HWT
          have HC12 := Lib.hid (show ∀ w' : World, Below wr.heap.size wr w' → w'.cell? ⟨b1, o1 + k * 4, none⟩ = some (.string nm) ∧ w'.cell? ⟨b2, o2 + k, none⟩ = some (.string nm) ∧ w'.cell? ⟨b3, o3 + k * 5, none⟩ = some (.int .u8 pj.kind) ∧ w'.cell? ⟨b3, o3 + k * 5 + 1, none⟩ = some (.int .i64 pj.n) ∧ w'.cell? ⟨b3, o3 + k * 5 + 2, none⟩ = some (.string pj.t) ∧ w'.cell? ⟨b3, o3 + k * 5 + 3, none⟩ = some (.slice an3 pj.names.length cn3) ∧ w'.cell? ⟨b3, o3 + k * 5 + 4, none⟩ = some (.slice ai3 pj.items.length ci3) from fun w' h =>
            ⟨by rw [h.cell hbl1]; exact e0, by rw [h.cell hb2']; exact n0, by rw [h.cell hb3']; exact m0, by rw [h.cell hb3']; exact m1, by rw [h.cell hb3']; exact m2, by rw [h.cell hb3']; exact m3, by rw [h.cell hb3']; exact m4⟩)
          have HR3 := Lib.hid hR3
          have hnn : (nm.toList != nm.toList) = false := by simp
          clear hp hmem hst hb hb2' hb3' n0 m0 m1 m2 m3 m4 hR3 hk1 hpj y0 y1 y2 y3 y4
          go_wp2_with fail
          refine HPV.out.mono ?_
          clear HPV q0 q1 q2 e0 e1 e2 e3
          rintro r w12 ⟨an5, cn5, ai5, ci5, rfl, hr5, hb5⟩
          rw [← HPJ.out] at hr5 ⊢
          obtain ⟨W13, hW13⟩ : ∃ W13, W13 = w12.alloc (.cells #[.int .u8 5, .int .i64 0, .string { data := #[] }, .slice an5 pj.names.length cn5, .slice ai5 pj.items.length ci5] 30) := ⟨_, rfl⟩
          have hb13 : Below w12.heap.size w12 W13 := by rw [hW13]; exact (Below.refl _ _).alloc (Nat.le_refl _) _
          have hx13 : W13.heap[w12.heap.size]? = some (.cells #[.int .u8 5, .int .i64 0, .string { data := #[] }, .slice an5 pj.names.length cn5, .slice ai5 pj.items.length ci5] 30 (0, 0)) := by rw [hW13]; exact heap_alloc_new w12 _
          have HBr := Lib.hid (hb5.trans (hb13.mono hb5.size))
          have HB13 := Lib.hid (HB.out.trans (HBr.out.mono HB.out.size))
          have HC13 := Lib.hid (show ∀ w' : World, Below W13.heap.size W13 w' → (w'.cell? ⟨w.heap.size, 2, none⟩ = some (.slice (some ⟨b1, o1, none⟩) l.length c) ∧ w'.cell? ⟨w7.heap.size, 4, none⟩ = some (.slice (some ⟨bi, oi, none⟩) 4 ci) ∧ w'.cell? ⟨bi, oi + 10 + 3, none⟩ = some (.slice (some ⟨b2, o2, none⟩) l.length c2) ∧ w'.cell? ⟨bi, oi + 10 + 4, none⟩ = some (.slice (some ⟨b3, o3, none⟩) l.length c3)) ∧ (w'.cell? ⟨w12.heap.size, 0, none⟩ = some (.int .u8 5) ∧ w'.cell? ⟨w12.heap.size, 1, none⟩ = some (.int .i64 0) ∧ w'.cell? ⟨w12.heap.size, 2, none⟩ = some (.string { data := #[] }) ∧ w'.cell? ⟨w12.heap.size, 3, none⟩ = some (.slice an5 pj.names.length cn5) ∧ w'.cell? ⟨w12.heap.size, 4, none⟩ = some (.slice ai5 pj.items.length ci5)) ∧ w'.cell? ⟨b1, o1 + k * 4, none⟩ = some (.string nm) ∧ w'.cell? ⟨b2, o2 + k, none⟩ = some (.string nm) ∧ w'.cell? ⟨b3, o3 + k * 5, none⟩ = some (.int .u8 pj.kind) ∧ w'.cell? ⟨b3, o3 + k * 5 + 1, none⟩ = some (.int .i64 pj.n) ∧ w'.cell? ⟨b3, o3 + k * 5 + 2, none⟩ = some (.string pj.t) ∧ w'.cell? ⟨b3, o3 + k * 5 + 3, none⟩ = some (.slice an3 pj.names.length cn3) ∧ w'.cell? ⟨b3, o3 + k * 5 + 4, none⟩ = some (.slice ai3 pj.items.length ci3) from fun w' h => by
            have x := (h.block _ (heap_lt hx13)).trans hx13
            obtain ⟨⟨_, _, g2⟩, g3, _, g5, g6, _⟩ := HC8.out w' (HB13.out.trans (h.mono HB13.out.size))
            exact ⟨⟨g2, g3, g5, g6⟩, ⟨box_cell x rfl, box_cell x rfl, box_cell x rfl, box_cell x rfl, box_cell x rfl⟩, HC12.out w' (HBr.out.trans (h.mono HBr.out.size))⟩)
          have hr5' : ∀ w' : World, Below W13.heap.size W13 w' → Rep w' 0 w'.heap.size pj (.agg #[.int .u8 5, .int .i64 0, .string { data := #[] }, .slice an5 pj.names.length cn5, .slice ai5 pj.items.length ci5]) := fun w' h => hr5.below (hb13.trans (h.mono hb13.size)) (Nat.le_refl _) (Nat.zero_le _) (Nat.le_trans hb13.size h.size)
          have HSA := Lib.hid (show ∀ w' : World, Below W13.heap.size W13 w' → Calls Tryz.prog 19 #[.agg #[.int .u8 5, .int .i64 0, .string { data := #[] }, .slice an5 pj.names.length cn5, .slice ai5 pj.items.length ci5], .agg #[.int .u8 pj.kind, .int .i64 pj.n, .string pj.t, .slice an3 pj.names.length cn3, .slice ai3 pj.items.length ci3]] w' (fun e w'' => e = .returned (.bool true) ∧ Below w'.heap.size w' w'') from fun w' h => by
            have := refSame 4294967296 pj pj _ _ 0 w'.heap.size w' (by have := HWT.out; omega) (by have := HWT.out; omega) (Nat.le_refl _) (Nat.le_refl _) (hr5' w' h) (HR3.out.below (HBr.out.trans (h.mono HBr.out.size)) (Nat.le_refl _) (Nat.le_refl _) (Nat.le_trans HBr.out.size h.size))
            rwa [(JV.sameB_iff pj pj).2 rfl] at this)
          go_upto_region 13 with fail
          rw [← hW13]
          clear hW13 hb13 hx13 hr5 hr5' hb5
          obtain ⟨⟨q2, y0, y2, y3⟩, ⟨p0, p1, p2, p3, p4⟩, e0, n0, m0, m1, m2, m3, m4⟩ := HC13.out W13 (Below.refl _ _)
          go_still_tail 29, (by kernel_rfl)
          have HSD := Lib.hid (HSA.out W13.drew ((Below.refl _ _).drew))
          clear q2 y0 y2 y3 p0 p1 p2 p3 p4 e0 n0 m0 m1 m2 m3 m4
          go_wp2_with fail
          refine HSD.out.mono ?_
          clear HSD
          rintro r w14 ⟨rfl, hb14⟩
          have HB14 := Lib.hid (HB13.out.trans ((show Below W13.heap.size W13 w14 from (Below.refl _ _).drew.trans hb14).mono HB13.out.size))
          clear hb14
          go_wp2_with fail
          exact ⟨⟨k + 1, by omega, by go_num, HB14.out⟩, by simp [intOf]; omega⟩
        · obtain rfl : k = l.length := by omega
          clear hb
          by_cases hl2 : l.length < 2
          · have hd : decide ((l.length : Int) < 2) = true := by simp; omega
            go_wp2
            go_ret
            exact ⟨rfl, HB2.out.trans ((HB8.out.trans (HB.out.mono HB8.out.size)).mono HB2.out.size)⟩
          have hd : decide ((l.length : Int) < 2) = false := by simp; omega
          obtain ⟨ka, hka, hw1, hw2⟩ := ix_at x l.length (by omega) hl
          obtain ⟨kb, hkb, hw3, hw4⟩ := ix_at y l.length (by omega) hl
          go_upto_region 17 with fail
          go_quiet (fail)
          generalize hW14 : World.drewN wr _ = W14
          have hb14 : Below wr.heap.size wr W14 := by rw [← hW14]; exact Below.drewN (Below.refl _ _) _
          have HB14 := Lib.hid (HB.out.trans (hb14.mono HB.out.size))
          clear hW14 hb14 q0 q1 q2 y0 y1 y2 y3 y4 hw1 hw2 hw3 hw4 hd
          have HB26 := Lib.hid (show Below W2.heap.size W2 W14 from HB8.out.trans (HB14.out.mono HB8.out.size))
          obtain ⟨q0, q1, q2⟩ := HC.out W14 HB26.out
          go_upto_region 19 with fail
          obtain ⟨W15, hW15⟩ : ∃ W15, W15 = W14.alloc (.cells #[.int .i64 v, .int .i64 e, .slice a l.length c] 24) := ⟨_, rfl⟩
          have hb15 : Below W14.heap.size W14 W15 := by rw [hW15]; exact (Below.refl _ _).alloc (Nat.le_refl _) _
          have hr15 : W15.rowIs W14.heap.size 24 3 (pick3 (.int .i64 v) (.int .i64 e) (.slice a l.length c)) := by rw [hW15]; exact rowIs_box3 _ _ _ _ _
          have hz15 : W15.heap.size = W14.heap.size + 1 := by rw [hW15]; simp
          rw [← hW15]
          have HZ15 := Lib.hid hz15
          have HR15 := Lib.hid hr15
          have HB15 := Lib.hid hb15
          obtain ⟨L, hL1, hL2, hL3⟩ := pins_cells (HPA.out W14 HB26.out) (Nat.le_refl _)
          have hLl : L.length = l.length := by have := congrArg List.length hL1; simpa using this
          obtain ⟨ii, hi1, hy0, hy1, hy2⟩ := info_parts infoPin
          have HL1 := Lib.hid hL1
          have HL2 := Lib.hid hL2
          have HL3 := Lib.hid hL3
          obtain ⟨q0, q1, q2⟩ := HC.out W15 (HB26.out.trans (hb15.mono HB26.out.size))
          have hbe : Below W15.heap.size W15 (W15.alloc (.cells #[] 36)) := (Below.refl _ _).alloc (Nat.le_refl _) _
          have q2' := (HC.out _ ((HB26.out.trans (hb15.mono HB26.out.size)).trans (hbe.mono (HB26.out.trans (hb15.mono HB26.out.size)).size))).2.2
          have HBE := Lib.hid hbe
          have h15z : W15.heap.size ≤ (W15.alloc (.cells #[] 36)).heap.size := by simp
          clear hW15 hb15 hr15 hz15 hL1 hL2 hL3 hbe
          go_upto_region 20 with (at_builtin; refine wpList_append_any _ rfl (.tmp 163) (.tmp 165) 22 rfl W15.heap.size 36 ii _ 4 56 Tryz.underlying22 hi1 hy0 hy1 hy2 rfl (by omega) (.slice (some ⟨W15.heap.size, 0, none⟩) 0 0) 0 [] rfl (World.ownsRow_made W15 #[] 0 (Nat.le_refl _) (Nat.zero_le _) (by simp)) a l.length c (L.flatMap encQ) rfl (by rw [flatQ_len, hLl]) (fun h0 => ((HL3.out.below HB15.out).below HBE.out).news (by rw [hLl]; exact h0)) (fun u hu => encQ_one _ u hu) (by unfold maxLen; omega) (by omega) h15z _ rfl ?_; intro a9 c9 w16 ho16 hg16 hat16; have HO16 := Lib.hid ho16; have HB16 := Lib.hid (below_grown HBE.out h15z hg16 (fun b hb => by simp only [Value.ownBlock, Option.some.injEq] at hb; omega)); have hres := below_row HB16.out HR15.out (by have := HZ15.out; omega); have HRS := Lib.hid hres; have t2 := hres.cell (i := 2) (by decide); have s2 := hres.frozen 2; simp only [pick3] at t2; clear hres ho16 hg16 hat16)
          obtain ⟨W17, hW17⟩ : ∃ W17, W17 = w16.setCell ⟨W14.heap.size, 2, none⟩ (.slice a9 l.length c9) := ⟨_, rfl⟩
          rw [← hW17]
          have hx17 : W17.rowIs W14.heap.size 24 3 (pick3 (.int .i64 v) (.int .i64 e) (.slice a9 l.length c9)) := by
            rw [hW17]
            exact (HRS.out.set 2 (.slice a9 l.length c9)).congr fun j hj => by rcases j with _ | _ | _ | j <;> first | rfl | omega
          have ho17 : w16.ownsRow W15.heap.size 36 4 (.slice a9 L.length c9) L.length (L.flatMap encQ) := by
            have := HO16.out
            rw [Nat.zero_add, List.nil_append, ← hLl] at this
            exact this
          obtain ⟨g, hag, hgz⟩ : ∃ g, a9 = some ⟨g, 0, none⟩ ∧ W15.heap.size ≤ g := by
            rcases ho17.2 with ⟨_, h⟩ | ⟨g, cap, cur, hv, hg, _⟩
            · omega
            · simp only [Value.slice.injEq] at hv
              exact ⟨g, hv.1, hg⟩
          subst hag
          obtain ⟨nn, hq16⟩ := QRow.of_own ho17
          have n1 : ¬ g = W14.heap.size := by have := HZ15.out; omega
          have n2 : ¬ W14.heap.size = g := fun h => n1 h.symm
          have hq17 : QRow W17 g nn L := by rw [hW17]; exact hq16.touch (touch_put _) n1
          have hb17 : Below W14.heap.size W14 W17 := by rw [hW17]; exact (HB15.out.trans (HB16.out.mono HB15.out.size)).setCell (Nat.le_refl _) _
          have HB17 := Lib.hid hb17
          have HX17 := Lib.hid hx17
          have HQ17 := Lib.hid hq17
          have HGZ := Lib.hid (show W14.heap.size ≤ g by have := HZ15.out; omega)
          have tb : W17.cell? ⟨W14.heap.size, 2, none⟩ = some (.slice (some ⟨g, 0, none⟩) l.length c9) := hx17.cell (i := 2) (by decide)
          obtain ⟨x0, x1, x2, x3⟩ := hq17.cells ka (by omega)
          obtain ⟨z0, z1, z2, z3⟩ := hq17.cells kb (by omega)
          have hq18 := hq17.put ka (L[kb]'(by omega))
          obtain ⟨u0, u1, u2, u3⟩ := hq18.cells kb (by rw [List.length_set]; omega)
          have f0 := hq17.frozen (ka * 4); have f1 := hq17.frozen (ka * 4 + 1); have f2 := hq17.frozen (ka * 4 + 2); have f3 := hq17.frozen (ka * 4 + 3)
          have k0 := hq18.frozen (kb * 4); have k1 := hq18.frozen (kb * 4 + 1); have k2 := hq18.frozen (kb * 4 + 2); have k3 := hq18.frozen (kb * 4 + 3)
          have m1 : (0 : Int) ≤ (ka : Int) := by omega
          have m2 : (ka : Int) < (l.length : Int) := by omega
          have m3 : (0 : Int) ≤ (kb : Int) := by omega
          have m4 : (kb : Int) < (l.length : Int) := by omega
          have HQ19 := Lib.hid (hq18.put kb (L[ka]'(by omega)))
          obtain ⟨pa, hpa⟩ : ∃ pa, pa = (L[ka]'(by omega)) := ⟨_, rfl⟩
          obtain ⟨pb, hpb⟩ : ∃ pb, pb = (L[kb]'(by omega)) := ⟨_, rfl⟩
          obtain ⟨pc, hpc⟩ : ∃ pc, pc = ((L.set ka (L[kb]'(by omega)))[kb]'(by rw [List.length_set]; omega)) := ⟨_, rfl⟩
          rw [← hpa] at x0 x1 x2 x3 HQ19
          rw [← hpc] at u0 u1 u2 u3
          rw [← hpb] at z0 z1 z2 z3 u0 u1 u2 u3 k0 k1 k2 k3 HQ19
          obtain ⟨⟨na, va, la, ha⟩, aa, ca⟩ := pa
          obtain ⟨⟨nb, vb, lb, hb⟩, ab, cb⟩ := pb
          obtain ⟨⟨nc, vc, lc, hc⟩, ac, cc⟩ := pc
          have HPA1 := Lib.hid hpa
          have HPB1 := Lib.hid hpb
          dsimp only at x0 x1 x2 x3 z0 z1 z2 z3 u0 u1 u2 u3 k0 k1 k2 k3 HQ19
          clear hW17 hx17 ho17 hq16 hq17 hb17 hq18 hpa hpb hpc hgz
          go_region
          generalize hW20 : World.drew (World.setCell _ _ _) = W20
          clear tb x0 x1 x2 x3 z0 z1 z2 z3 u0 u1 u2 u3 f0 f1 f2 f3 k0 k1 k2 k3 m1 m2 m3 m4
          obtain ⟨l2, hl2'⟩ : ∃ l2, l2 = swapL l ka kb hka hkb := ⟨_, rfl⟩
          obtain ⟨L2, hL2⟩ : ∃ L2, L2 = (L.set ka (⟨nb, vb, lb, hb⟩, ab, cb)).set kb (⟨na, va, la, ha⟩, aa, ca) := ⟨_, rfl⟩
          have hL2m : L2.map (·.1) = l2 := by
            rw [hL2, hl2', List.map_set, List.map_set, HL1.out]
            have e1 : (PinV.mk nb vb lb hb) = l[kb] := by
              have h1 := congrArg Prod.fst HPB1.out
              have h2 := List.getElem_of_eq HL1.out (i := kb) (by simp; omega)
              simp only [List.getElem_map] at h2
              rw [← h2]; exact h1
            have e2 : (PinV.mk na va la ha) = l[ka] := by
              have h1 := congrArg Prod.fst HPA1.out
              have h2 := List.getElem_of_eq HL1.out (i := ka) (by simp; omega)
              simp only [List.getElem_map] at h2
              rw [← h2]; exact h1
            show (l.set ka (PinV.mk nb vb lb hb)).set kb (PinV.mk na va la ha) = _
            rw [e1, e2]; rfl
          have hq20 : QRow W20 g nn L2 := by
            rw [← hW20, hL2]
            exact HQ19.out.touch (S := fun _ => False) ((Touch.refl _ _).drew) (fun h => h)
          have hT : Touch (fun b => b = g) W17 W20 := by
            rw [← hW20]
            refine Touch.drew ?_
            iterate 8 refine Touch.put ?_ _ _
            exact Touch.refl _ _
          have hb1420 : Below W14.heap.size W14 W20 := HB17.out.trans (hT.below HB17.out.size (fun k hk e => by have := HGZ.out; omega))
          have hx20 := hT.row HX17.out (fun e => n2 e)
          have hp20 : PinsAt W20 0 W20.heap.size (some ⟨g, 0, none⟩) l2 := by
            rw [← hL2m]
            refine hq20.pins (hi := W14.heap.size) (fun q hq => ?_) hb1420.size
            have hqL : q ∈ L := by
              rw [hL2] at hq
              obtain ⟨i, hi, rfl⟩ := List.getElem_of_mem hq
              rw [List.getElem_set]
              split
              · rw [HPA1.out]; exact List.getElem_mem _
              · rw [List.getElem_set]
                split
                · rw [HPB1.out]; exact List.getElem_mem _
                · exact List.getElem_mem _
            have h2 := HL2.out q hqL
            exact ⟨h2.1, h2.2.below hb1420 (Nat.le_refl _) (Nat.le_refl _) (Nat.le_refl _)⟩
          have HB20 := Lib.hid (show Below W2.heap.size W2 W20 from HB26.out.trans (hb1420.mono HB26.out.size))
          have hl2l : l2.length = l.length := by rw [hl2', swap_len]
          have HP20 := Lib.hid hp20
          have hmay2 : maySnap ⟨v, e, l2⟩ = decide (ka = kb) := by rw [hl2']; exact swap_may HM.out ka kb hka hkb
          have heq2 : SnapV.mk v e l = ⟨v, e, l2⟩ ↔ ka = kb := by rw [hl2']; exact swap_eq HM.out ka kb hka hkb
          have hf2 : ∀ p ∈ l2, PinFits p := fun p hp => by
            rw [hl2'] at hp
            obtain ⟨i, hi, rfl⟩ := List.getElem_of_mem hp
            have hi' : i < l.length := by rw [swap_len] at hi; exact hi
            rw [swap_get l ka kb hka hkb i hi']
            split
            · exact HF.out _ (List.getElem_mem _)
            · split
              · exact HF.out _ (List.getElem_mem _)
              · exact HF.out _ (List.getElem_mem _)
          have HF2 := Lib.hid hf2
          have HE2 := Lib.hid heq2
          have HMY := Lib.hid (snapMay v e l2 (some ⟨g, 0, none⟩) c9 W20 hp20 (by omega) hf2 (HTW.out W20 HB20.out).1 (HTW.out W20 HB20.out).2)
          obtain ⟨dk, hdk⟩ : ∃ dk, dk = decide (ka = kb) := ⟨_, rfl⟩
          rw [hmay2, ← hdk] at HMY
          have HDK := Lib.hid hdk
          have d2 : ((ka : Int) == (kb : Int)) = dk := by
            rw [hdk, Bool.eq_iff_iff]
            simp
            omega
          have d3 : (dk == dk) = true := by cases dk <;> rfl
          clear hdk
          have HC20 := Lib.hid (show ∀ w' : World, Below W20.heap.size W20 w' → (w'.cell? ⟨w.heap.size, 0, none⟩ = some (.int .i64 v) ∧ w'.cell? ⟨w.heap.size, 1, none⟩ = some (.int .i64 e) ∧ w'.cell? ⟨w.heap.size, 2, none⟩ = some (.slice a l.length c)) ∧ w'.cell? ⟨W14.heap.size, 0, none⟩ = some (.int .i64 v) ∧ w'.cell? ⟨W14.heap.size, 1, none⟩ = some (.int .i64 e) ∧ w'.cell? ⟨W14.heap.size, 2, none⟩ = some (.slice (some ⟨g, 0, none⟩) l2.length c9) from fun w' h => by
            have x := (h.block _ hx20.lt).trans (row3_heap hx20)
            rw [hl2l]
            exact ⟨HC.out w' (HB20.out.trans (h.mono HB20.out.size)), box_cell x rfl, box_cell x rfl, box_cell x rfl⟩)
          have HLL := Lib.hid hl2l
          clear hW20 hL2 hL2m hq20 hT hb1420 hx20 hp20 hl2' hl2l hmay2 heq2 hf2 n1 n2
          obtain ⟨⟨q0, q1, q2⟩, y0, y1, y2⟩ := HC20.out W20 (Below.refl _ _)
          go_wp2_with fail
          refine HMY.out.mono ?_
          clear HMY q0 q1 q2 y0 y1 y2
          rintro r w21 ⟨rfl, hb21⟩
          have HB21 := Lib.hid hb21
          obtain ⟨⟨q0, q1, q2⟩, y0, y1, y2⟩ := HC20.out w21 hb21
          have HSM := Lib.hid (snapSame v e l v e l2 a (some ⟨g, 0, none⟩) c c9 w21 (HPA.out w21 (HB20.out.trans (hb21.mono HB20.out.size))) (HP20.out.below hb21 (Nat.le_refl _) (Nat.zero_le _) hb21.size) HF.out HF2.out hl (by have := HLL.out; omega))
          clear hb21
          go_wp2_with fail
          refine HSM.out.mono ?_
          clear HSM q0 q1 q2 y0 y1 y2
          rintro r w22 ⟨b, rfl, hbe, hb22⟩
          obtain rfl : b = dk := by
            rw [HDK.out, Bool.eq_iff_iff, hbe, HE2.out]
            simp
          have HB22 := Lib.hid (HB21.out.trans (hb22.mono HB21.out.size))
          clear hb22 hbe
          go_wp2
          go_ret
          exact ⟨rfl, HB2.out.trans ((HB20.out.trans (HB22.out.mono HB20.out.size)).mono HB2.out.size)⟩
end Go.Proofs.YtgghgcilpfdbjaaGreatDoor
