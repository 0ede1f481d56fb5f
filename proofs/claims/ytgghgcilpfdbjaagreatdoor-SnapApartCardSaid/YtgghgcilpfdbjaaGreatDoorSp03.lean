/- The law SnapApart: the call returns true. Printed by genapart23.py. -/
import Derived.Test.YtgghgcilpfdbjaaGreatDoorSl27
import Derived.Test.YtgghgcilpfdbjaaGreatDoorSl28
import Derived.Test.YtgghgcilpfdbjaaGreatDoorSl09
import Derived.Test.YtgghgcilpfdbjaaGreatDoorSl10
import Derived.Test.YtgghgcilpfdbjaaGreatDoorSp00
import Derived.Test.YtgghgcilpfdbjaaGreatDoorSl25
import Derived.Test.YtgghgcilpfdbjaaGreatDoorSp02
import Derived.Test.YtgghgcilpfdbjaaGreatDoorSp01

namespace Go.Proofs.YtgghgcilpfdbjaaGreatDoor
open Go.RowKit Go.Shelf Go.Sort

set_option maxHeartbeats 8000000 in
set_option maxRecDepth 100000 in
theorem lawApart (v e : Int) (l : List PinV) (a : Option Addr) (c : Nat) (w : World) (hP : PinsAt w 0 w.heap.size a l) (hl : l.length ≤ 9223372036854775807) (hf : ∀ p ∈ l, PinFits p) (hT : TabW w) (hP10 : Pow10 w) :
    Calls Tryz.prog 12 #[.agg #[.int .i64 v, .int .i64 e, .slice a l.length c]] w fun r w' => r = .returned (.bool true) ∧ Below w.heap.size w w' := by
  obtain ⟨W2, hW2⟩ : ∃ W2, W2 = w.alloc (.cells #[.int .i64 v, .int .i64 e, .slice a l.length c] 24) := ⟨_, rfl⟩
  have hb2 : Below w.heap.size w W2 := by rw [hW2]; exact (Below.refl _ _).alloc (Nat.le_refl _) _
  have hx : W2.heap[w.heap.size]? = some (.cells #[.int .i64 v, .int .i64 e, .slice a l.length c] 24 (0, 0)) := by rw [hW2]; exact heap_alloc_new w _
  obtain ⟨W3, hW3⟩ : ∃ W3, W3 = W2.alloc (.cells #[.int .i64 v, .int .i64 e, .slice a l.length c] 24) := ⟨_, rfl⟩
  have hb3 : Below W2.heap.size W2 W3 := by rw [hW3]; exact (Below.refl _ _).alloc (Nat.le_refl _) _
  have hx3 : W3.heap[W2.heap.size]? = some (.cells #[.int .i64 v, .int .i64 e, .slice a l.length c] 24 (0, 0)) := by rw [hW3]; exact heap_alloc_new W2 _
  have HPA := Lib.hid (show ∀ w' : World, Below W2.heap.size W2 w' → PinsAt w' 0 w'.heap.size a l from fun w' h => hP.below (hb2.trans (h.mono hb2.size)) (Nat.le_refl _) (Nat.zero_le _) (Nat.le_trans hb2.size h.size))
  have HTW := Lib.hid (show ∀ w' : World, Below W2.heap.size W2 w' → TabW w' ∧ Pow10 w' from fun w' h => ⟨hT.below (hb2.trans (h.mono hb2.size)), hP10.below (hb2.trans (h.mono hb2.size))⟩)
  have HC := Lib.hid (show ∀ w' : World, Below W2.heap.size W2 w' → w'.cell? ⟨w.heap.size, 0, none⟩ = some (.int .i64 v) ∧ w'.cell? ⟨w.heap.size, 1, none⟩ = some (.int .i64 e) ∧ w'.cell? ⟨w.heap.size, 2, none⟩ = some (.slice a l.length c) from fun w' h => by
    have x := (h.block _ (heap_lt hx)).trans hx
    exact ⟨box_cell x rfl, box_cell x rfl, box_cell x rfl⟩)
  have HLG := Lib.hid (lawLong1 l v e a c W2.heap.size 1 W3 (HPA.out W3 hb3) hf hl hx3)
  have HAW := Lib.hid (show ∀ w' : World, Below W2.heap.size W2 w' → Calls Tryz.prog 14 #[] w' (fun e w'' => e = .returned (.bool true) ∧ Below w'.heap.size w' w'') from fun w' h => lawAwake23 w' (HTW.out w' h).1 (HTW.out w' h).2)
  have HF := Lib.hid hf
  have HB2 := Lib.hid hb2
  have HB3 := Lib.hid hb3
  have HW3 := Lib.hid hW3
  have HW2 := Lib.hid hW2
  clear hW2 hW3 hb2 hb3 hx hx3 hP hT hP10 hf
  obtain ⟨q0, q1, q2⟩ := HC.out W2 (Below.refl _ _)
  go_enter Tryz.func12, Tryz.ntmps12
  go_upto_region 1 with fail
  rw [← HW2.out]
  go_wp2_with fail
  rw [← HW3.out]
  refine HLG.out.mono ?_
  clear HLG q0 q1 q2 HW2 HW3
  rintro r w4 ⟨b, rfl, hsh, hb4⟩
  have HB4 := Lib.hid (HB3.out.trans (hb4.mono HB3.out.size))
  have HSH := Lib.hid hsh
  clear hsh hb4
  cases b with
  | true =>
    go_wp2_with fail
    refine (HAW.out w4 HB4.out).mono ?_
    rintro r w5 ⟨rfl, hb5⟩
    have HB5 := Lib.hid (HB4.out.trans (hb5.mono HB4.out.size))
    clear hb5
    go_wp2
    go_ret
    exact ⟨rfl, HB2.out.trans (HB5.out.mono HB2.out.size)⟩
  | false =>
    obtain ⟨hl6, hps⟩ := HSH.out rfl
    have HPS := Lib.hid hps
    clear hps HSH
    obtain ⟨q0, q1, q2⟩ := HC.out w4 HB4.out
    have HM := Lib.hid (snapMay v e l a c w4 (HPA.out w4 HB4.out) hl HF.out (HTW.out w4 HB4.out).1 (HTW.out w4 HB4.out).2)
    obtain ⟨mb, hmb⟩ : ∃ mb, mb = maySnap ⟨v, e, l⟩ := ⟨_, rfl⟩
    rw [← hmb] at HM
    have HMB := Lib.hid hmb
    clear hmb
    go_wp2_with fail
    refine HM.out.mono ?_
    clear HM q0 q1 q2
    rintro r w5 ⟨rfl, hb5⟩
    have HB5 := Lib.hid (HB4.out.trans (hb5.mono HB4.out.size))
    clear hb5
    cases mb with
    | false =>
      go_wp2_with fail
      refine (HAW.out w5 HB5.out).mono ?_
      rintro r w6 ⟨rfl, hb6⟩
      have HB6 := Lib.hid (HB5.out.trans (hb6.mono HB5.out.size))
      clear hb6
      go_wp2
      go_ret
      exact ⟨rfl, HB2.out.trans (HB6.out.mono HB2.out.size)⟩
    | true =>
      obtain ⟨q0, q1, q2⟩ := HC.out w5 HB5.out
      by_cases hn0 : l.length = 0
      · have hd : ((l.length : Int) == 0) = true := by simp [hn0]
        go_wp2_with fail
        refine (HAW.out w5 HB5.out).mono ?_
        rintro r w6 ⟨rfl, hb6⟩
        have HB6 := Lib.hid (HB5.out.trans (hb6.mono HB5.out.size))
        clear hb6
        go_wp2
        go_ret
        exact ⟨rfl, HB2.out.trans (HB6.out.mono HB2.out.size)⟩
      have hd : ((l.length : Int) == 0) = false := beq_eq_false_iff_ne.2 (by omega)
      go_wp2_with fail
      refine (HAW.out w5 HB5.out).mono ?_
      rintro r w6 ⟨rfl, hb6⟩
      have HB6 := Lib.hid (HB5.out.trans (hb6.mono HB5.out.size))
      clear hb6 HB5 HB4 HB3 hd q0 q1 q2
      have hm := HMB.out.symm
      obtain ⟨q0, q1, q2⟩ := HC.out w6 HB6.out
      have hall : l.all mayPin = true := (maySnap_parts.1 hm).2.2.2.1
      have hl256 : l.length ≤ 256 := (maySnap_parts.1 hm).2.2.1
      have HSV := Lib.hid (snapValue v e l a c w6 (HPA.out w6 HB6.out) HF.out (HTW.out w6 HB6.out).1 (HTW.out w6 HB6.out).2 hm (pins_made hall) (fun p hp => Nat.le_trans (pinJ_wt (List.all_eq_true.1 hall p hp)) (by decide)) (Nat.le_trans (metaJ_wt hall hl256) (by decide)))
      have HM := Lib.hid hm
      have HAL := Lib.hid hall
      clear hm hall
      go_wp2_with fail
      refine HSV.out.mono ?_
      clear HSV q0 q1 q2
      rintro r w7 ⟨an, cn, ai, ci, rfl, hr7, hb7⟩
      obtain ⟨sj, hsj⟩ : ∃ sj, sj = snapJ ⟨v, e, l⟩ := ⟨_, rfl⟩
      have HSJ := Lib.hid hsj
      have HVR := Lib.hid (show ∃ bi oi, ai = some ⟨bi, oi, none⟩ ∧ w6.heap.size ≤ bi ∧ bi < w7.heap.size ∧ Room w7 bi oi 20 from by
        obtain ⟨an', cn', ai', ci', hx, _, _, _, hv⟩ := hr7.parts
        simp only [Value.agg.injEq, Array.mk.injEq, List.cons.injEq, Value.slice.injEq, and_true] at hx
        obtain ⟨_, _, _, _, rfl, _, _⟩ := hx
        rcases hv.room (show 0 < w6.heap.size by have := HB6.out.size; have := HB2.out.size; have h0 := HC.out w6 HB6.out; exact Nat.lt_of_le_of_lt (Nat.zero_le _) (World.block_lt_of_cell? _ _ h0.1)) with h | ⟨b, off, ha, h1, h2, hr⟩
        · cases h
        · exact ⟨b, off, ha, h1, h2, hr⟩)
      have HR7 := Lib.hid hr7
      have HB67 := Lib.hid hb7
      rw [← hsj] at HR7
      clear hsj hr7
      obtain ⟨bi, oi, hai, hbi1, hbi2, hroom⟩ := HVR.out
      subst hai
      have HBI := Lib.hid (And.intro hbi1 hbi2)
      have HROOM := Lib.hid hroom
      clear HVR hbi1 hbi2 hroom
      obtain ⟨W8, hW8⟩ : ∃ W8, W8 = w7.alloc (.cells #[.int .u8 5, .int .i64 0, .string { data := #[] }, .slice an 4 cn, .slice (some ⟨bi, oi, none⟩) 4 ci] 30) := ⟨_, rfl⟩
      have hb78 : Below w7.heap.size w7 W8 := by rw [hW8]; exact (Below.refl _ _).alloc (Nat.le_refl _) _
      have hx8 : W8.heap[w7.heap.size]? = some (.cells #[.int .u8 5, .int .i64 0, .string { data := #[] }, .slice an 4 cn, .slice (some ⟨bi, oi, none⟩) 4 ci] 30 (0, 0)) := by rw [hW8]; exact heap_alloc_new w7 _
      have hz8 : W8.heap.size = w7.heap.size + 1 := by rw [hW8]; simp
      have HB78 := Lib.hid hb78
      have HB8 := Lib.hid (HB6.out.trans ((hb7.trans (hb78.mono hb7.size)).mono HB6.out.size))
      have HV8 := Lib.hid (show ∀ w' : World, Below W8.heap.size W8 w' → w'.cell? ⟨w7.heap.size, 0, none⟩ = some (.int .u8 5) ∧ w'.cell? ⟨w7.heap.size, 1, none⟩ = some (.int .i64 0) ∧ w'.cell? ⟨w7.heap.size, 2, none⟩ = some (.string { data := #[] }) ∧ w'.cell? ⟨w7.heap.size, 3, none⟩ = some (.slice an 4 cn) ∧ w'.cell? ⟨w7.heap.size, 4, none⟩ = some (.slice (some ⟨bi, oi, none⟩) 4 ci) from fun w' h => by
        have x := (h.block _ (heap_lt hx8)).trans hx8
        exact ⟨box_cell x rfl, box_cell x rfl, box_cell x rfl, box_cell x rfl, box_cell x rfl⟩)
      have HSO := Lib.hid (show ∀ w' : World, Below W8.heap.size W8 w' → Calls Tryz.prog 34 #[.agg #[.int .u8 5, .int .i64 0, .string { data := #[] }, .slice an 4 cn, .slice (some ⟨bi, oi, none⟩) 4 ci]] w' (fun r w'' => ∃ qs a' c', r = .returned (.tuple #[.agg #[.int .i64 v, .int .i64 e, .slice a' l.length c'], .int .i64 0]) ∧ PinsOwn w'.heap.size w'' (.slice a' l.length c') qs ∧ qs.map (·.1) = l ∧ Below w'.heap.size w' w'') from fun w' h => by
        have hz := HB6.out.size
        have h67 := HB67.out.size
        have hR : Rep w' w6.heap.size w7.heap.size sj (.agg #[.int .u8 5, .int .i64 0, .string { data := #[] }, .slice an 4 cn, .slice (some ⟨bi, oi, none⟩) 4 ci]) := HR7.out.below (hb78.trans (h.mono hb78.size)) (Nat.le_refl _) (Nat.le_refl _) (Nat.le_refl _)
        have hmj : sj.mayB = true := by rw [HSJ.out]; exact snapJ_may HM.out
        have hkj : sj.kind = 5 := by rw [HSJ.out]; rfl
        have hwj : sj.wt ≤ 4294967296 := by
          have h1 := metaJ_wt HAL.out hl256
          have h2 := dateL_short e.toNat (by have := (maySnap_parts.1 HM.out).2.1; dsimp only at this; omega)
          have e1 : (dateB e).size = (dateL e.toNat).length := by simp [dateB, ByteArray.size]
          rw [HSJ.out]
          show (snapO snpN (dateB e) (metaJ l) v).wt ≤ 4294967296
          have z1 : typN.size = 5 := rfl
          have z2 : expN.size = 7 := rfl
          have z3 : metN.size = 4 := rfl
          have z4 : verN.size = 7 := rfl
          have z5 : snpN.size = 8 := rfl
          have z6 : ({ data := #[] } : ByteArray).size = 0 := rfl
          simp only [snapO, JV.wt, JV.wts, bytesSum, txtJ, numJ_wt]
          omega
        have hw8 : w7.heap.size ≤ w'.heap.size := Nat.le_trans hb78.size h.size
        obtain ⟨hri, hle, _⟩ := may_obj hmj hkj
        have h0 : 0 < w6.heap.size := Nat.lt_of_le_of_lt (Nat.zero_le _) (World.block_lt_of_cell? _ _ (HC.out w6 HB6.out).1)
        refine (snapOfG (fun u => u = sj) sj _ w' hwj (hR.carry (Nat.zero_le _) hw8 (fun _ _ _ => rfl)) hmj hkj (HTW.out w' (HB8.out.trans (h.mono HB8.out.size))).1 (fun u hu => by rw [hu, HSJ.out]; exact snap_meta HM.out) (fun w1 hb => (pickOf_good sj _ w1 w6.heap.size w7.heap.size hwj (Nat.le_trans hw8 hb.size) (hR.below hb hw8 (Nat.le_refl _) (Nat.le_refl _)) hkj hri hle (fun _ _ => .inl h0)).mono fun e w' h => ⟨sj, rfl, h⟩)).mono ?_
        rintro r w'' ⟨u, qs, a', c', hu, rfl, h1, h2, h3⟩
        have hsb : snapOfK u = (⟨v, e, l⟩, 0) := by rw [hu, HSJ.out]; exact snap_back HM.out
        rw [hsb] at h1 h2 ⊢
        exact ⟨qs, a', c', rfl, h1, h2, h3⟩)
      have HZ8 := Lib.hid hz8
      have hb77 := hb7
      clear hx8 hz8 hb77
      obtain ⟨y0, y1, y2, y3, y4⟩ := HV8.out W8 (Below.refl _ _)
      go_upto_region 4 with fail
      rw [← hW8]
      clear hW8 hb78 hb7
      go_wp2_with fail
      refine (HSO.out W8 (Below.refl _ _)).mono ?_
      clear y0 y1 y2 y3 y4
      rintro r w9 ⟨qsa, aa, ca, rfl, ho9, hq9, hb9⟩
      obtain ⟨W10, hW10⟩ : ∃ W10, W10 = w9.alloc (.cells #[.int .i64 v, .int .i64 e, .slice aa l.length ca] 24) := ⟨_, rfl⟩
      have hb910 : Below w9.heap.size w9 W10 := by rw [hW10]; exact (Below.refl _ _).alloc (Nat.le_refl _) _
      have hx10 : W10.heap[w9.heap.size]? = some (.cells #[.int .i64 v, .int .i64 e, .slice aa l.length ca] 24 (0, 0)) := by rw [hW10]; exact heap_alloc_new w9 _
      have HO9 := Lib.hid ho9
      have HQ9 := Lib.hid hq9
      have HX10 := Lib.hid hx10
      have HB89 := Lib.hid hb9
      have HB910 := Lib.hid hb910
      have HB810 := Lib.hid (hb9.trans (hb910.mono hb9.size))
      clear ho9 hq9 hx10 hb9 hb910
      obtain ⟨y0, y1, y2, y3, y4⟩ := HV8.out W10 HB810.out
      go_upto_region 5 with fail
      rw [← hW10]
      clear hW10
      go_wp2_with fail
      refine (HSO.out W10 HB810.out).mono ?_
      clear y0 y1 y2 y3 y4
      rintro r w11 ⟨qsb, ab, cb, rfl, ho11, hq11, hb11⟩
      obtain ⟨W12, hW12⟩ : ∃ W12, W12 = w11.alloc (.cells #[.int .i64 v, .int .i64 e, .slice ab l.length cb] 24) := ⟨_, rfl⟩
      have hb1112 : Below w11.heap.size w11 W12 := by rw [hW12]; exact (Below.refl _ _).alloc (Nat.le_refl _) _
      have hx12 : W12.heap[w11.heap.size]? = some (.cells #[.int .i64 v, .int .i64 e, .slice ab l.length cb] 24 (0, 0)) := by rw [hW12]; exact heap_alloc_new w11 _
      have HO11 := Lib.hid ho11
      have HQ11 := Lib.hid hq11
      have HX12 := Lib.hid hx12
      have HB1011 := Lib.hid hb11
      have HB1112 := Lib.hid hb1112
      have HB1012 := Lib.hid (hb11.trans (hb1112.mono hb11.size))
      have HB212 := Lib.hid (HB8.out.trans ((HB810.out.trans (HB1012.out.mono HB810.out.size)).mono HB8.out.size))
      have HS12 := Lib.hid (show W12.cell? ⟨w9.heap.size, 2, none⟩ = some (.slice aa l.length ca) from box_cell ((HB1012.out.block _ (heap_lt HX10.out)).trans HX10.out) rfl)
      clear ho11 hq11 hx12 hb11 hb1112
      obtain ⟨q0, q1, q2⟩ := HC.out W12 HB212.out
      have a2 := HS12.out
      go_upto_region 6 with fail
      rw [← hW12]
      clear hW12
      go_upto_region 8 with fail
      have HB1213 := Lib.hid (Below.refl W12.heap.size W12)
      have HB213 := HB212
      clear a2
      obtain ⟨b1, o1, ha1, _, hbl1, e0, e1, e2, hha, hca, e3, _, hk1⟩ := (HPA.out W2 (Below.refl _ _)).at 0 (Nat.pos_of_ne_zero hn0)
      subst ha1
      have hmem : l[0]'(Nat.pos_of_ne_zero hn0) ∈ l := List.getElem_mem _
      have HPK := Lib.hid (HPS.out _ hmem)
      have HRO := Lib.hid (show roleErr (l[0]'(Nat.pos_of_ne_zero hn0)).name = 0 ∧ pinOf l (roleStr (l[0]'(Nat.pos_of_ne_zero hn0)).name) = some (l[0]'(Nat.pos_of_ne_zero hn0)) from ⟨by
        have h1 : (roleOf (l[0]'(Nat.pos_of_ne_zero hn0)).name).isSome = true := role_str HM.out 0 (Nat.pos_of_ne_zero hn0)
        unfold roleErr
        rw [if_pos h1], pinOf_self HM.out 0 (Nat.pos_of_ne_zero hn0)⟩)
      have HPN := Lib.hid (show ∀ w' : World, Below W2.heap.size W2 w' → KeysAt w' 0 w'.heap.size hha (l[0]'(Nat.pos_of_ne_zero hn0)).hs ∧ w'.cell? ⟨b1, o1, none⟩ = some (.string (l[0]'(Nat.pos_of_ne_zero hn0)).name) ∧ w'.cell? ⟨b1, o1 + 1, none⟩ = some (.int .i64 (l[0]'(Nat.pos_of_ne_zero hn0)).ver) ∧ w'.cell? ⟨b1, o1 + 2, none⟩ = some (.int .i64 (l[0]'(Nat.pos_of_ne_zero hn0)).len) ∧ w'.cell? ⟨b1, o1 + 3, none⟩ = some (.slice hha (l[0]'(Nat.pos_of_ne_zero hn0)).hs.length hca) from fun w' h => by
        simp only [Nat.zero_mul, Nat.add_zero] at e0 e1 e2 e3
        exact ⟨hk1.below h (Nat.le_refl _) (Nat.le_refl _) h.size, by rw [h.cell hbl1]; exact e0, by rw [h.cell hbl1]; exact e1, by rw [h.cell hbl1]; exact e2, by rw [h.cell hbl1]; exact e3⟩)
      obtain ⟨p, hp⟩ : ∃ p, p = l[0]'(Nat.pos_of_ne_zero hn0) := ⟨_, rfl⟩
      rw [← hp] at HRO HPK HPN
      obtain ⟨nm, vr, ln, hs⟩ := p
      have HP0 := Lib.hid hp
      dsimp only at HRO HPK HPN
      clear e0 e1 e2 e3 hk1 hmem hp
      obtain ⟨rr, hrr⟩ : ∃ rr, rr = roleStr nm := ⟨_, rfl⟩
      have HRR := Lib.hid hrr
      have HRC := Lib.hid (show ∀ w' : World, Calls Tryz.prog 40 #[.string nm] w' (fun e w'' => e = .returned (.tuple #[.string rr, .int .i64 0]) ∧ w'' = w') from fun w' => by
        have h := nameRoleOf nm w' (by have := HPK.out.1; dsimp only at this; omega)
        rw [HRO.out.1, ← HRR.out] at h
        exact h)
      have HPC := Lib.hid (show ∀ w' : World, Below W2.heap.size W2 w' → Calls Tryz.prog 17 #[.agg #[.int .i64 v, .int .i64 e, .slice (some ⟨b1, o1, none⟩) l.length c], .string rr] w' (fun r w'' => ∃ ha hc, r = .returned (.tuple #[.agg #[.string nm, .int .i64 vr, .int .i64 ln, .slice ha hs.length hc], .bool true]) ∧ KeysW w'' w'.heap.size w''.heap.size ha hs ∧ Below w'.heap.size w' w'') from fun w' h => by
        refine (snapPinW v e l rr _ c w' (HPA.out w' h) hl (by rw [HRR.out]; have h1 := HPK.out.1; have := role_size nm; dsimp only at h1; omega) (fun p hp => by have := (HPS.out p hp).2.1; omega)).mono ?_
        rintro r w'' ⟨ha, hc, rfl, hk, hb⟩
        rw [HRR.out, HRO.out.2] at hk ⊢
        exact ⟨ha, hc, rfl, hk, hb⟩)
      clear hrr
      have hs500 : hs.length ≤ 500 := HPK.out.2.1
      obtain ⟨-, e0, -, -, -⟩ := HPN.out W12 HB213.out
      go_wp2_with fail
      refine (HRC.out W12).mono ?_
      rintro r wz ⟨rfl, hwz⟩
      rw [hwz]
      clear hwz
      clear e0 HRC
      go_wp2_with fail
      refine (HPC.out W12 HB213.out).mono ?_
      clear q0 q1 q2
      rintro r w14 ⟨hap, hcp, rfl, hk14, hb14⟩
      have HK14 := Lib.hid hk14
      have HB1314 := Lib.hid hb14
      obtain ⟨W15, hW15⟩ : ∃ W15, W15 = w14.alloc (.cells #[.string nm, .int .i64 vr, .int .i64 ln, .slice hap hs.length hcp] 36) := ⟨_, rfl⟩
      have hb15 : Below w14.heap.size w14 W15 := by rw [hW15]; exact (Below.refl _ _).alloc (Nat.le_refl _) _
      have hx15 : W15.heap[w14.heap.size]? = some (.cells #[.string nm, .int .i64 vr, .int .i64 ln, .slice hap hs.length hcp] 36 (0, 0)) := by rw [hW15]; exact heap_alloc_new w14 _
      have HX15 := Lib.hid hx15
      have HB1415 := Lib.hid hb15
      have HB1315 := Lib.hid (hb14.trans (hb15.mono hb14.size))
      have HB215 := Lib.hid (HB213.out.trans (HB1315.out.mono HB213.out.size))
      obtain ⟨q0, q1, q2⟩ := HC.out W15 HB215.out
      clear hk14 hb14 hb15 hx15
      go_upto_region 10 with fail
      rw [← hW15]
      clear hW15
      go_wp2_with fail
      refine (HPC.out W15 HB215.out).mono ?_
      clear q0 q1 q2 HPC
      rintro r w16 ⟨haq, hcq, rfl, hk16, hb16⟩
      have HK16 := Lib.hid hk16
      have HB1516 := Lib.hid hb16
      obtain ⟨W17, hW17⟩ : ∃ W17, W17 = w16.alloc (.cells #[.string nm, .int .i64 vr, .int .i64 ln, .slice haq hs.length hcq] 36) := ⟨_, rfl⟩
      have hb17 : Below w16.heap.size w16 W17 := by rw [hW17]; exact (Below.refl _ _).alloc (Nat.le_refl _) _
      have hx17 : W17.heap[w16.heap.size]? = some (.cells #[.string nm, .int .i64 vr, .int .i64 ln, .slice haq hs.length hcq] 36 (0, 0)) := by rw [hW17]; exact heap_alloc_new w16 _
      have HX17 := Lib.hid hx17
      have HB1617 := Lib.hid hb17
      have HB1517 := Lib.hid (hb16.trans (hb17.mono hb16.size))
      have HB1517' := Lib.hid (HB1315.out.trans (HB1517.out.mono HB1315.out.size))
      have HB217 := Lib.hid (HB215.out.trans (HB1517.out.mono HB215.out.size))
      clear hk16 hb16 hb17 hx17
      have HZS := Lib.hid (show w.heap.size < W2.heap.size ∧ W2.heap.size ≤ w6.heap.size ∧ w6.heap.size ≤ w7.heap.size ∧ W8.heap.size = w7.heap.size + 1 ∧ W8.heap.size ≤ w9.heap.size ∧ w9.heap.size < W10.heap.size ∧ W10.heap.size ≤ w11.heap.size ∧ w11.heap.size < W12.heap.size ∧ W12.heap.size ≤ W12.heap.size ∧ W12.heap.size ≤ w14.heap.size ∧ w14.heap.size < W15.heap.size ∧ W15.heap.size ≤ w16.heap.size ∧ w16.heap.size < W17.heap.size from
        ⟨World.block_lt_of_cell? _ _ (HC.out W2 (Below.refl _ _)).1, HB6.out.size, HB67.out.size, HZ8.out, HB89.out.size, heap_lt HX10.out, HB1011.out.size, heap_lt HX12.out, HB1213.out.size, HB1314.out.size, heap_lt HX15.out, HB1516.out.size, heap_lt HX17.out⟩)
      obtain ⟨S, hS⟩ : ∃ S : Nat → Prop, S = fun b => (w6.heap.size ≤ b ∧ b < w7.heap.size) ∨ (W8.heap.size ≤ b ∧ b < w9.heap.size) ∨ (W12.heap.size ≤ b ∧ b < w14.heap.size) := ⟨_, rfl⟩
      have HSS := Lib.hid (show ∀ b, S b ↔ ((w6.heap.size ≤ b ∧ b < w7.heap.size) ∨ (W8.heap.size ≤ b ∧ b < w9.heap.size) ∨ (W12.heap.size ≤ b ∧ b < w14.heap.size)) from fun b => by rw [hS])
      clear hS
      have hql : qsa.length = l.length := by have := congrArg List.length HQ9.out; simpa using this
      obtain ⟨g, hg0, hg1, hg2⟩ : ∃ g, aa = some ⟨g, 0, none⟩ ∧ W8.heap.size ≤ g ∧ g < w9.heap.size := by
        rcases HO9.out.own.2 with ⟨_, h⟩ | ⟨g, cap, cur, hv, h1, h2, _⟩
        · omega
        · simp only [Value.slice.injEq] at hv
          exact ⟨g, hv.1, h1, heap_lt h2⟩
      subst hg0
      obtain ⟨gn, hqr⟩ := QRow.of_own (g := g) (by have := HO9.out.own; rwa [← hql] at this)
      have HG := Lib.hid (And.intro hg1 hg2)
      have HQL := Lib.hid hql
      obtain ⟨C, hC⟩ : ∃ C : Nat → Nat → Prop, C = fun b o => hexAt hap hs.length b o ∨ (∃ i, ∃ h : i < qsa.length, hexAt qsa[i].2.1 qsa[i].1.hs.length b o) ∨ (∃ i, i < l.length ∧ b = g ∧ o = i * 4) ∨ (b = bi ∧ ∃ j, j < 20 ∧ o = oi + j) := ⟨_, rfl⟩
      obtain ⟨H, hH⟩ : ∃ H : Nat → Nat → Value → Prop, H = fun b o x => b = g ∧ ∃ i, ∃ h : i < qsa.length, o = i * 4 + 3 ∧ x = .slice qsa[i].2.1 qsa[i].1.hs.length qsa[i].2.2 := ⟨_, rfl⟩
      have HCC := Lib.hid hC
      have HHH := Lib.hid hH
      have hb917 : Below w9.heap.size w9 W17 := HB910.out.trans ((HB1012.out.trans ((HB1213.out.trans (HB1517'.out.mono HB1213.out.size)).mono HB1012.out.size)).mono HB910.out.size)
      have hb1417 : Below w14.heap.size w14 W17 := HB1415.out.trans (HB1517.out.mono HB1415.out.size)
      have hb717 : Below w7.heap.size w7 W17 := HB78.out.trans ((HB89.out.trans (hb917.mono HB89.out.size)).mono HB78.out.size)
      have hqr17 := hqr.below hb917
      have HA := Lib.hid (show ∀ i (h : i < qsa.length) b o, hexAt qsa[i].2.1 qsa[i].1.hs.length b o → Lv W17 b o ∧ W8.heap.size ≤ b ∧ b < w9.heap.size ∧ b ≠ g from fun i h b o hc => by
        obtain ⟨lo, hi, k1, k2, k3, hk⟩ := HO9.out.keys qsa[i] (List.getElem_mem h)
        obtain ⟨h1, h2, h3⟩ := hex_live (hk.below hb917 k2 (Nat.le_refl _) (Nat.le_refl _)) b o hc
        exact ⟨h1, by omega, by omega, fun e => k3 g rfl (by omega)⟩)
      have HPL := Lib.hid (show ∀ b o, hexAt hap hs.length b o → Lv W17 b o ∧ W12.heap.size ≤ b ∧ b < w14.heap.size from fun b o hc => hex_live (HK14.out.below hb1417 (Nat.le_refl _) (Nat.le_refl _) (Nat.le_refl _)) b o hc)
      have HSP := Lib.hid (show Sp S C H W17 W17 from ⟨Touch.refl _ _, fun b o hc => by
        rw [HCC.out] at hc
        rcases hc with hc | ⟨i, hi, hc⟩ | ⟨i, hi, rfl, rfl⟩ | ⟨rfl, j, hj, rfl⟩
        · exact (HPL.out b o hc).1
        · exact (HA.out i hi b o hc).1
        · obtain ⟨c0, _⟩ := hqr17.cells i (by omega)
          exact ⟨⟨_, c0⟩, hqr17.frozen _⟩
        · have hr := HROOM.out.of_block (hb717.block b HBI.out.2)
          exact ⟨hr.cell _ (by omega), hr.frozen _⟩, fun b o x hh => by
        rw [HHH.out] at hh
        obtain ⟨rfl, i, hi, rfl, rfl⟩ := hh
        exact (hqr17.cells i hi).2.2.2⟩)
      have HBOX := Lib.hid (show ∀ w' : World, Touch S W17 w' → (w'.cell? ⟨w.heap.size, 0, none⟩ = some (.int .i64 v) ∧ w'.cell? ⟨w.heap.size, 1, none⟩ = some (.int .i64 e) ∧ w'.cell? ⟨w.heap.size, 2, none⟩ = some (.slice (some ⟨b1, o1, none⟩) l.length c)) ∧ w'.cell? ⟨w7.heap.size, 4, none⟩ = some (.slice (some ⟨bi, oi, none⟩) 4 ci) ∧ w'.cell? ⟨w9.heap.size, 2, none⟩ = some (.slice (some ⟨g, 0, none⟩) l.length ca) ∧ (w'.cell? ⟨w11.heap.size, 0, none⟩ = some (.int .i64 v) ∧ w'.cell? ⟨w11.heap.size, 1, none⟩ = some (.int .i64 e) ∧ w'.cell? ⟨w11.heap.size, 2, none⟩ = some (.slice ab l.length cb)) ∧ w'.cell? ⟨w14.heap.size, 3, none⟩ = some (.slice hap hs.length hcp) ∧ (w'.cell? ⟨w16.heap.size, 0, none⟩ = some (.string nm) ∧ w'.cell? ⟨w16.heap.size, 1, none⟩ = some (.int .i64 vr) ∧ w'.cell? ⟨w16.heap.size, 2, none⟩ = some (.int .i64 ln) ∧ w'.cell? ⟨w16.heap.size, 3, none⟩ = some (.slice haq hs.length hcq)) from fun w' h => by
        have hz := HZS.out
        have hcell : ∀ b o, b < W17.heap.size → ¬ S b → w'.cell? ⟨b, o, none⟩ = W17.cell? ⟨b, o, none⟩ := fun b o h1 h2 => h.cell (p := ⟨b, o, none⟩) h1 h2
        have hns : ∀ b, ¬ (w6.heap.size ≤ b ∧ b < w7.heap.size) → ¬ (W8.heap.size ≤ b ∧ b < w9.heap.size) → ¬ (W12.heap.size ≤ b ∧ b < w14.heap.size) → ¬ S b := fun b h1 h2 h3 h4 => by
          rcases (HSS.out b).1 h4 with h | h | h
          · exact h1 h
          · exact h2 h
          · exact h3 h
        obtain ⟨s0, s1, s2⟩ := HC.out W17 HB217.out
        have v4 := (HV8.out W17 (HB89.out.trans (hb917.mono HB89.out.size))).2.2.2.2
        have x10 := (hb917.trans (Below.refl _ _) |>.mono (Nat.le_refl _))
        have xa := ((HB1012.out.trans ((HB1213.out.trans (HB1517'.out.mono HB1213.out.size)).mono HB1012.out.size)).block _ (heap_lt HX10.out)).trans HX10.out
        have xb := ((HB1213.out.trans (HB1517'.out.mono HB1213.out.size)).block _ (heap_lt HX12.out)).trans HX12.out
        have xp := (HB1517.out.block _ (heap_lt HX15.out)).trans HX15.out
        have xq := HX17.out
        refine ⟨⟨?_, ?_, ?_⟩, ?_, ?_, ⟨?_, ?_, ?_⟩, ?_, ⟨?_, ?_, ?_, ?_⟩⟩
        · rw [hcell _ _ (by omega) (hns _ (by omega) (by omega) (by omega))]; exact s0
        · rw [hcell _ _ (by omega) (hns _ (by omega) (by omega) (by omega))]; exact s1
        · rw [hcell _ _ (by omega) (hns _ (by omega) (by omega) (by omega))]; exact s2
        · rw [hcell _ _ (by omega) (hns _ (by omega) (by omega) (by omega))]; exact v4
        · rw [hcell _ _ (by omega) (hns _ (by omega) (by omega) (by omega))]; exact box_cell xa rfl
        · rw [hcell _ _ (by omega) (hns _ (by omega) (by omega) (by omega))]; exact box_cell xb rfl
        · rw [hcell _ _ (by omega) (hns _ (by omega) (by omega) (by omega))]; exact box_cell xb rfl
        · rw [hcell _ _ (by omega) (hns _ (by omega) (by omega) (by omega))]; exact box_cell xb rfl
        · rw [hcell _ _ (by omega) (hns _ (by omega) (by omega) (by omega))]; exact box_cell xp rfl
        · rw [hcell _ _ (by omega) (hns _ (by omega) (by omega) (by omega))]; exact box_cell xq rfl
        · rw [hcell _ _ (by omega) (hns _ (by omega) (by omega) (by omega))]; exact box_cell xq rfl
        · rw [hcell _ _ (by omega) (hns _ (by omega) (by omega) (by omega))]; exact box_cell xq rfl
        · rw [hcell _ _ (by omega) (hns _ (by omega) (by omega) (by omega))]; exact box_cell xq rfl)
      clear hC hH hqr hqr17 hb917 hb1417 hb717 hg1 hg2 hql
      go_upto_region 11 with fail
      rw [← hW17]
      clear hW17
      go_wp2
      go_loopw [15] (fun i wr => ∃ k : Nat, k ≤ hs.length ∧ i = .int .i64 k ∧ Sp S C H W17 wr) (fun i _ => hs.length - (intOf i).toNat)
      case atStart => exact ⟨0, by omega, rfl, HSP.out⟩
      case round =>
        obtain ⟨k, hk, rfl, hsp⟩ := hrel
        have HSr := Lib.hid hsp
        clear HSP
        obtain ⟨-, -, -, -, p3, -⟩ := HBOX.out wr hsp.touch
        by_cases hlt : k < hs.length
        · have hap2 : ∃ bp op, hap = some ⟨bp, op, none⟩ := by
            rcases HK14.out.1 with h | ⟨b, off, h, _⟩
            · rw [h] at hlt; simp at hlt
            · exact ⟨b, off, h⟩
          obtain ⟨bp, op, hap3⟩ := hap2
          subst hap3
          have hlv := hsp.live bp (op + k * 2 + 1) (by rw [HCC.out]; exact .inl ⟨op, k, rfl, hlt, rfl⟩)
          obtain ⟨⟨x0, c0⟩, f0⟩ := hlv
          clear hsp
          go_wp2
          go_roundw
          case rel =>
            have hb := (HPL.out bp (op + k * 2 + 1) ⟨op, k, rfl, hlt, rfl⟩).2
            refine ⟨k + 1, by omega, by go_num, HSr.out.set bp (op + k * 2 + 1) _ ((HSS.out _).2 (.inr (.inr hb))) (fun x hx => ?_)⟩
            rw [HHH.out] at hx
            have := HG.out
            have := HZS.out
            omega
          case measure => simp [intOf]; omega
        · clear hsp
          go_wp2
          clear p3
          go_loopw [16, 17] (fun i _ wr => ∃ k : Nat, k ≤ l.length ∧ i = .int .i64 k ∧ Sp S C H W17 wr) (fun i _ _ => l.length - (intOf i).toNat)
          case atStart => exact ⟨0, by omega, rfl, HSr.out⟩
          case round =>
            obtain ⟨k2, hk2, rfl, hsp⟩ := hrel
            have HS2 := Lib.hid hsp
            clear HSr
            obtain ⟨-, -, a2, -⟩ := HBOX.out wr hsp.touch
            by_cases hlt2 : k2 < l.length
            · have hkq : k2 < qsa.length := by have := HQL.out; omega
              have HKQ := Lib.hid hkq
              obtain ⟨qk, hqk⟩ : ∃ qk, qk = qsa[k2]'hkq := ⟨_, rfl⟩
              have HQK := Lib.hid hqk
              have h3 := hsp.hdr g (k2 * 4 + 3) (.slice qk.2.1 qk.1.hs.length qk.2.2) (by rw [HHH.out]; exact ⟨rfl, k2, hkq, rfl, by rw [hqk]⟩)
              obtain ⟨⟨nk, vk, lk, hsk⟩, ak, ck⟩ := qk
              dsimp only at h3
              have hsk500 : hsk.length ≤ 500 := by
                have hm : (PinV.mk nk vk lk hsk) ∈ l := by
                  rw [← HQ9.out, List.mem_map]
                  exact ⟨_, List.getElem_mem hkq, by rw [← hqk]⟩
                exact (HPS.out _ hm).2.1
              clear hsp hqk
              go_wp2
              clear a2 h3
              go_loopw [17] (fun i wr => ∃ j : Nat, j ≤ hsk.length ∧ i = .int .i64 j ∧ Sp S C H W17 wr) (fun i _ => hsk.length - (intOf i).toNat)
              case atStart => exact ⟨0, by omega, rfl, HS2.out⟩
              case round =>
                obtain ⟨j, hj, rfl, hsp⟩ := hrel
                have HS3 := Lib.hid hsp
                clear HS2
                obtain ⟨-, -, a2, -⟩ := HBOX.out wr hsp.touch
                have h3 := hsp.hdr g (k2 * 4 + 3) (.slice ak hsk.length ck) (by rw [HHH.out]; exact ⟨rfl, k2, HKQ.out, rfl, by rw [← HQK.out]⟩)
                by_cases hlt3 : j < hsk.length
                · have hak2 : ∃ bk ok, ak = some ⟨bk, ok, none⟩ := by
                    obtain ⟨lo, hi, _, _, _, hk⟩ := HO9.out.keys _ (List.getElem_mem HKQ.out)
                    rw [← HQK.out] at hk
                    rcases hk.1 with h | ⟨b, off, h, _⟩
                    · dsimp only at h; rw [h] at hlt3; simp at hlt3
                    · exact ⟨b, off, h⟩
                  obtain ⟨bk, ok, hak3⟩ := hak2
                  subst hak3
                  have hx3 : hexAt (qsa[k2]'HKQ.out).2.1 (qsa[k2]'HKQ.out).1.hs.length bk (ok + j * 2 + 1) := by rw [← HQK.out]; exact ⟨ok, j, rfl, hlt3, rfl⟩
                  have HX3 := Lib.hid hx3
                  have hlv := hsp.live bk (ok + j * 2 + 1) (by rw [HCC.out]; exact .inr (.inl ⟨k2, HKQ.out, hx3⟩))
                  obtain ⟨⟨x0, c0⟩, f0⟩ := hlv
                  clear hsp hx3
                  go_wp2
                  go_roundw
                  case rel =>
                    obtain ⟨_, hb1, hb2, hb3⟩ := HA.out k2 HKQ.out bk (ok + j * 2 + 1) HX3.out
                    refine ⟨j + 1, by omega, by go_num, HS3.out.set bk (ok + j * 2 + 1) _ ((HSS.out _).2 (.inr (.inl ⟨hb1, hb2⟩))) (fun x hx => ?_)⟩
                    rw [HHH.out] at hx
                    exact hb3 hx.1
                  case measure => simp [intOf]; omega
                · have hlv := hsp.live g (k2 * 4) (by rw [HCC.out]; exact .inr (.inr (.inl ⟨k2, hlt2, rfl, rfl⟩)))
                  obtain ⟨⟨x0, c0⟩, f0⟩ := hlv
                  clear hsp
                  go_wp2
                  go_roundw
                  case rel =>
                    refine ⟨k2 + 1, by omega, by go_num, HS3.out.set g (k2 * 4) _ ((HSS.out _).2 (.inr (.inl HG.out))) (fun x hx => ?_)⟩
                    rw [HHH.out] at hx
                    obtain ⟨_, i, _, h, _⟩ := hx
                    omega
                  case measure => simp [intOf]; omega
            · clear hsp
              go_wp2
              clear a2
              go_loopw [18] (fun i wr => ∃ k : Nat, k ≤ 4 ∧ i = .int .i64 k ∧ Sp S C H W17 wr) (fun i _ => 4 - (intOf i).toNat)
              case atStart => exact ⟨0, by omega, rfl, HS2.out⟩
              case round =>
                obtain ⟨k4, hk4, rfl, hsp⟩ := hrel
                have HS4 := Lib.hid hsp
                clear HS2
                by_cases hlt4 : k4 < 4
                · obtain ⟨-, v4, -⟩ := HBOX.out wr hsp.touch
                  have hl4 : ∀ j, j < 5 → Lv wr bi (oi + k4 * 5 + j) := fun j hj => hsp.live bi _ (by rw [HCC.out]; exact .inr (.inr (.inr ⟨rfl, k4 * 5 + j, by omega, by omega⟩)))
                  obtain ⟨⟨x0, c0⟩, f0⟩ := hl4 0 (by decide)
                  obtain ⟨⟨x1, c1⟩, f1⟩ := hl4 1 (by decide)
                  obtain ⟨⟨x2, c2⟩, f2⟩ := hl4 2 (by decide)
                  obtain ⟨⟨x3, c3⟩, f3⟩ := hl4 3 (by decide)
                  obtain ⟨⟨x4, c4⟩, f4⟩ := hl4 4 (by decide)
                  simp only [Nat.add_zero] at c0 f0
                  clear hsp hl4
                  go_wp2
                  go_roundw
                  case rel =>
                    have hn : ∀ o (x : Value), ¬ H bi o x := fun o x hx => by
                      rw [HHH.out] at hx
                      have := HBI.out
                      have := HG.out
                      have := HZS.out
                      omega
                    have hs := (HSS.out bi).2 (.inl HBI.out)
                    exact ⟨k4 + 1, by omega, by go_num, ((((HS4.out.set _ _ _ hs (hn _)).set _ _ _ hs (hn _)).set _ _ _ hs (hn _)).set _ _ _ hs (hn _)).set _ _ _ hs (hn _)⟩
                  case measure => simp [intOf]; omega
                · obtain ⟨⟨s0, s1, s2⟩, v4, -, ⟨b0, b1', b2⟩, -, ⟨q0, q1, q2, q3⟩⟩ := HBOX.out wr hsp.touch
                  clear hsp
                  have hz := HZS.out
                  have hns : ∀ b, ¬ (w6.heap.size ≤ b ∧ b < w7.heap.size) → ¬ (W8.heap.size ≤ b ∧ b < w9.heap.size) → ¬ (W12.heap.size ≤ b ∧ b < w14.heap.size) → ¬ S b := fun b h1 h2 h3 h4 => by
                    rcases (HSS.out b).1 h4 with h | h | h
                    · exact h1 h
                    · exact h2 h
                    · exact h3 h
                  have htw := HS4.out.touch
                  have hb2r : Below W2.heap.size W2 wr := HB217.out.trans (htw.below HB217.out.size (fun b hb => hns b (by omega) (by omega) (by omega)))
                  have hkq : KeysAt wr 0 wr.heap.size haq hs := (HK16.out.carry (Nat.zero_le _) (Nat.le_trans HB1617.out.size htw.size) (fun b h1 h2 => (htw.block b (by omega) (hns b (by omega) (by omega) (by omega))).trans (HB1617.out.block b h2))).1
                  have hpb : PinsAt wr 0 wr.heap.size ab l := by
                    have h := HO11.out.pins.2
                    rw [HQ11.out] at h
                    have hb := HB1112.out.trans ((HB1213.out.trans (HB1517'.out.mono HB1213.out.size)).mono HB1112.out.size)
                    exact h.carry (Nat.zero_le _) (Nat.le_trans hb.size htw.size) (fun b h1 h2 => (htw.block b (by omega) (hns b (by omega) (by omega) (by omega))).trans (hb.block b h2))
                  have hlr : w.heap.size < wr.heap.size ∧ w11.heap.size < wr.heap.size ∧ w16.heap.size < wr.heap.size := by have := htw.size; omega
                  have HC27 := Lib.hid (show ∀ w' : World, Below wr.heap.size wr w' → (w'.cell? ⟨w.heap.size, 0, none⟩ = some (.int .i64 v) ∧ w'.cell? ⟨w.heap.size, 1, none⟩ = some (.int .i64 e) ∧ w'.cell? ⟨w.heap.size, 2, none⟩ = some (.slice (some ⟨b1, o1, none⟩) l.length c)) ∧ (w'.cell? ⟨w11.heap.size, 0, none⟩ = some (.int .i64 v) ∧ w'.cell? ⟨w11.heap.size, 1, none⟩ = some (.int .i64 e) ∧ w'.cell? ⟨w11.heap.size, 2, none⟩ = some (.slice ab l.length cb)) ∧ (w'.cell? ⟨w16.heap.size, 0, none⟩ = some (.string nm) ∧ w'.cell? ⟨w16.heap.size, 1, none⟩ = some (.int .i64 vr) ∧ w'.cell? ⟨w16.heap.size, 2, none⟩ = some (.int .i64 ln) ∧ w'.cell? ⟨w16.heap.size, 3, none⟩ = some (.slice haq hs.length hcq)) ∧ w'.cell? ⟨b1, o1, none⟩ = some (.string nm) ∧ w'.cell? ⟨b1, o1 + 1, none⟩ = some (.int .i64 vr) ∧ w'.cell? ⟨b1, o1 + 2, none⟩ = some (.int .i64 ln) ∧ w'.cell? ⟨b1, o1 + 3, none⟩ = some (.slice hha hs.length hca) from fun w' h => by
                    have hc : ∀ b o, b < wr.heap.size → w'.cell? ⟨b, o, none⟩ = wr.cell? ⟨b, o, none⟩ := fun b o hb => h.cell hb
                    exact ⟨⟨by rw [hc _ _ hlr.1]; exact s0, by rw [hc _ _ hlr.1]; exact s1, by rw [hc _ _ hlr.1]; exact s2⟩, ⟨by rw [hc _ _ hlr.2.1]; exact b0, by rw [hc _ _ hlr.2.1]; exact b1', by rw [hc _ _ hlr.2.1]; exact b2⟩, ⟨by rw [hc _ _ hlr.2.2]; exact q0, by rw [hc _ _ hlr.2.2]; exact q1, by rw [hc _ _ hlr.2.2]; exact q2, by rw [hc _ _ hlr.2.2]; exact q3⟩, (HPN.out w' (hb2r.trans (h.mono hb2r.size))).2⟩)
                  have HSAP := Lib.hid (show ∀ w' : World, Below wr.heap.size wr w' → Calls Tryz.prog 20 #[.agg #[.string nm, .int .i64 vr, .int .i64 ln, .slice haq hs.length hcq], .agg #[.string nm, .int .i64 vr, .int .i64 ln, .slice hha hs.length hca]] w' (fun e w'' => e = .returned (.bool true) ∧ Below w'.heap.size w' w'') from fun w' h =>
                    ref23SamePin nm vr ln hs haq hha hcq hca w' (hkq.below h (Nat.le_refl _) (Nat.le_refl _) h.size) (HPN.out w' (hb2r.trans (h.mono hb2r.size))).1 (by omega))
                  have HSAM := Lib.hid (show ∀ w' : World, Below wr.heap.size wr w' → Calls Tryz.prog 24 #[.agg #[.int .i64 v, .int .i64 e, .slice ab l.length cb], .agg #[.int .i64 v, .int .i64 e, .slice (some ⟨b1, o1, none⟩) l.length c]] w' (fun e w'' => e = .returned (.bool true) ∧ Below w'.heap.size w' w'') from fun w' h =>
                    ref23Same v e l ab (some ⟨b1, o1, none⟩) cb c w' (hpb.below h (Nat.le_refl _) (Nat.le_refl _) h.size) (HPA.out w' (hb2r.trans (h.mono hb2r.size))) HF.out hl)
                  have HMAY := Lib.hid (show ∀ w' : World, Below wr.heap.size wr w' → Calls Tryz.prog 21 #[.agg #[.int .i64 v, .int .i64 e, .slice (some ⟨b1, o1, none⟩) l.length c]] w' (fun e w'' => e = .returned (.bool true) ∧ Below w'.heap.size w' w'') from fun w' h => by
                    have h2 := hb2r.trans (h.mono hb2r.size)
                    have := snapMay v e l (some ⟨b1, o1, none⟩) c w' (HPA.out w' h2) hl HF.out (HTW.out w' h2).1 (HTW.out w' h2).2
                    rwa [HM.out] at this)
                  have HBR := Lib.hid hb2r
                  clear hz hns htw hb2r hkq hpb hlr s0 s1 s2 b0 b1' b2 q0 q1 q2 q3
                  go_upto_region 27 with fail
                  obtain ⟨V, hV⟩ : ∃ V : List MP, V = [.con (.int .i64 0), .con (.bool true), .con (.bool true), .con (.bool true), .con (.bool true), .con (.bool true), .con (.bool true), .con (.bool true), .con (.bool true), .con (.agg #[.string nm, .int .i64 vr, .int .i64 ln, .slice haq hs.length hcq]), .con (.pointer (some ⟨w.heap.size, 2, none⟩)), .con (.slice (some ⟨b1, o1, none⟩) l.length c), .con (.pointer (some ⟨b1, o1, none⟩)), .con (.agg #[.string nm, .int .i64 vr, .int .i64 ln, .slice hha hs.length hca]), .con (.bool true), .con (.bool true), .con (.bool true), .con (.agg #[.int .i64 v, .int .i64 e, .slice ab l.length cb]), .con (.agg #[.int .i64 v, .int .i64 e, .slice (some ⟨b1, o1, none⟩) l.length c]), .con (.bool true), .con (.bool true), .con (.bool true), .con (.agg #[.int .i64 v, .int .i64 e, .slice (some ⟨b1, o1, none⟩) l.length c]), .con (.bool true), .con (.bool true)] := ⟨_, rfl⟩
                  have HV := Lib.hid hV
                  clear hV
                  refine wp_region_inv 25 (fun d a' w' => ∃ x149 x150 x151 x152 x153 x154 x155 x156 x157 x158 x159 x160 x161 x162 x163 x164 x165 x166 x167 x168 x169 x170 x171 x172 x173, a' = ⟨#[Value.agg #[Value.int IntKind.i64 v, Value.int IntKind.i64 e, Value.slice (some { block := b1, off := o1 }) l.length c], Value.pointer (some { block := w.heap.size, off := 0 }), Value.bool false, Value.pointer (some { block := w7.heap.size, off := 0 }), Value.int IntKind.i64 0, Value.pointer (some { block := w9.heap.size, off := 0 }), Value.int IntKind.i64 0, Value.pointer (some { block := w11.heap.size, off := 0 }), Value.int IntKind.i64 0, Value.string rr, Value.int IntKind.i64 0, Value.pointer (some { block := w14.heap.size, off := 0 }), Value.bool true, Value.pointer (some { block := w16.heap.size, off := 0 }), Value.bool true, Value.int IntKind.i64 (k : Int), Value.int IntKind.i64 (k2 : Int), u17, Value.int IntKind.i64 (k4 : Int), Value.agg #[Value.int IntKind.i64 v, Value.int IntKind.i64 e, Value.slice (some { block := b1, off := o1 }) l.length c], Value.slice (some { block := W2.heap.size, off := 0 }) 1 1, Value.bool false, Value.bool false, Value.agg #[Value.int IntKind.i64 v, Value.int IntKind.i64 e, Value.slice (some { block := b1, off := o1 }) l.length c], Value.bool true, Value.bool false, Value.bool false, Value.bool false, Value.pointer (some { block := w.heap.size, off := 2 }), Value.slice (some { block := b1, off := o1 }) l.length c, Value.int IntKind.i64 (l.length : Int), Value.bool false, Value.bool false, Value.bool false, Value.bool true, Value.bool false, Value.bool false, undef, Value.tuple #[Value.agg #[Value.int IntKind.u8 5, Value.int IntKind.i64 0, Value.string { data := #[] }, Value.slice an 4 cn, Value.slice (some { block := bi, off := oi }) 4 ci], Value.int IntKind.i64 0], Value.agg #[Value.int IntKind.i64 v, Value.int IntKind.i64 e, Value.slice (some { block := b1, off := o1 }) l.length c], Value.tuple #[Value.agg #[Value.int IntKind.u8 5, Value.int IntKind.i64 0, Value.string { data := #[] }, Value.slice an 4 cn, Value.slice (some { block := bi, off := oi }) 4 ci], Value.int IntKind.i64 0], Value.agg #[Value.int IntKind.u8 5, Value.int IntKind.i64 0, Value.string { data := #[] }, Value.slice an 4 cn, Value.slice (some { block := bi, off := oi }) 4 ci], Value.int IntKind.i64 0, Value.tuple #[Value.agg #[Value.int IntKind.i64 v, Value.int IntKind.i64 e, Value.slice (some { block := g, off := 0 }) l.length ca], Value.int IntKind.i64 0], Value.agg #[Value.int IntKind.u8 5, Value.int IntKind.i64 0, Value.string { data := #[] }, Value.slice an 4 cn, Value.slice (some { block := bi, off := oi }) 4 ci], Value.tuple #[Value.agg #[Value.int IntKind.i64 v, Value.int IntKind.i64 e, Value.slice (some { block := g, off := 0 }) l.length ca], Value.int IntKind.i64 0], Value.agg #[Value.int IntKind.i64 v, Value.int IntKind.i64 e, Value.slice (some { block := g, off := 0 }) l.length ca], Value.int IntKind.i64 0, Value.tuple #[Value.agg #[Value.int IntKind.i64 v, Value.int IntKind.i64 e, Value.slice ab l.length cb], Value.int IntKind.i64 0], Value.agg #[Value.int IntKind.u8 5, Value.int IntKind.i64 0, Value.string { data := #[] }, Value.slice an 4 cn, Value.slice (some { block := bi, off := oi }) 4 ci], Value.tuple #[Value.agg #[Value.int IntKind.i64 v, Value.int IntKind.i64 e, Value.slice ab l.length cb], Value.int IntKind.i64 0], Value.agg #[Value.int IntKind.i64 v, Value.int IntKind.i64 e, Value.slice ab l.length cb], Value.int IntKind.i64 0, Value.int IntKind.i64 0, Value.bool false, Value.bool false, Value.int IntKind.i64 0, Value.bool false, Value.bool false, Value.bool false, Value.int IntKind.i64 0, Value.bool false, Value.bool false, Value.bool false, Value.pointer (some { block := w9.heap.size, off := 2 }), Value.slice (some { block := g, off := 0 }) l.length ca, Value.int IntKind.i64 (l.length : Int), Value.pointer (some { block := w.heap.size, off := 2 }), Value.slice (some { block := b1, off := o1 }) l.length c, Value.int IntKind.i64 (l.length : Int), Value.bool false, Value.bool false, Value.tuple #[Value.string rr, Value.int IntKind.i64 0], Value.pointer (some { block := w.heap.size, off := 2 }), Value.slice (some { block := b1, off := o1 }) l.length c, Value.pointer (some { block := b1, off := o1 }), Value.pointer (some { block := b1, off := o1 }), Value.string nm, Value.tuple #[Value.string rr, Value.int IntKind.i64 0], Value.string rr, Value.int IntKind.i64 0, Value.tuple #[Value.agg #[Value.string nm, Value.int IntKind.i64 vr, Value.int IntKind.i64 ln, Value.slice hap hs.length hcp], Value.bool true], Value.agg #[Value.int IntKind.i64 v, Value.int IntKind.i64 e, Value.slice (some { block := b1, off := o1 }) l.length c], Value.string rr, Value.tuple #[Value.agg #[Value.string nm, Value.int IntKind.i64 vr, Value.int IntKind.i64 ln, Value.slice hap hs.length hcp], Value.bool true], Value.agg #[Value.string nm, Value.int IntKind.i64 vr, Value.int IntKind.i64 ln, Value.slice hap hs.length hcp], Value.bool true, Value.tuple #[Value.agg #[Value.string nm, Value.int IntKind.i64 vr, Value.int IntKind.i64 ln, Value.slice haq hs.length hcq], Value.bool true], Value.agg #[Value.int IntKind.i64 v, Value.int IntKind.i64 e, Value.slice (some { block := b1, off := o1 }) l.length c], Value.string rr, Value.tuple #[Value.agg #[Value.string nm, Value.int IntKind.i64 vr, Value.int IntKind.i64 ln, Value.slice haq hs.length hcq], Value.bool true], Value.agg #[Value.string nm, Value.int IntKind.i64 vr, Value.int IntKind.i64 ln, Value.slice haq hs.length hcq], Value.bool true, Value.int IntKind.i64 (k : Int), Value.pointer (some { block := w14.heap.size, off := 3 }), Value.slice hap hs.length hcp, Value.int IntKind.i64 (hs.length : Int), Value.bool false, u98, u99, u100, u101, u102, u103, u104, Value.int IntKind.i64 (k2 : Int), Value.pointer (some { block := w9.heap.size, off := 2 }), Value.slice (some { block := g, off := 0 }) l.length ca, Value.int IntKind.i64 (l.length : Int), Value.bool false, u110, u111, u112, u113, u114, u115, u116, u117, u118, u119, u120, u121, u122, u123, u124, u125, u126, u127, u128, u129, u130, u131, u132, u133, u134, u135, u136, Value.int IntKind.i64 (k4 : Int), Value.pointer (some { block := w7.heap.size, off := 4 }), Value.slice (some { block := bi, off := oi }) 4 ci, Value.int IntKind.i64 4, Value.bool (decide ((k4 : Int) < 4)), u142, u143, u144, u145, u146, u147, u148, x149, x150, x151, x152, x153, x154, x155, x156, x157, x158, x159, x160, x161, x162, x163, x164, x165, x166, x167, x168, x169, x170, x171, x172, x173], []⟩ ∧ RegI wr V d w' [x149, x150, x151, x152, x153, x154, x155, x156, x157, x158, x159, x160, x161, x162, x163, x164, x165, x166, x167, x168, x169, x170, x171, x172, x173]) (by kernel_rfl) (by kernel_rfl) ?first ?step ?last
                  case first => exact ⟨_, _, _, _, _, _, _, _, _, _, _, _, _, _, _, _, _, _, _, _, _, _, _, _, _, rfl, RegI.first _ _ _ (by rw [HV.out]; rfl)⟩
                  case step =>
                    rintro d a' w' ⟨x149, x150, x151, x152, x153, x154, x155, x156, x157, x158, x159, x160, x161, x162, x163, x164, x165, x166, x167, x168, x169, x170, x171, x172, x173, rfl, h⟩ q hq hn hw
                    rcases q with _ | _ | _ | _ | _ | _ | _ | _ | _ | _ | _ | _ | _ | _ | _ | _ | _ | _ | _ | _ | _ | _ | _ | _ | _ | q
                    · refine wpOp_step rfl fun K hK => ?_
                      go_simp
                      exact hK _ _ ⟨_, x150, x151, x152, x153, x154, x155, x156, x157, x158, x159, x160, x161, x162, x163, x164, x165, x166, x167, x168, x169, x170, x171, x172, x173, rfl, h.same 0 _ (.con (.int .i64 0)) (by rw [HV.out]; rfl) rfl⟩
                    · obtain rfl : x149 = .int .i64 0 := h.get 0 (hw _ rfl ⟨0, .data⟩ (by simp) rfl) (.con (.int .i64 0)) (by rw [HV.out]; rfl) _ rfl
                      refine wpOp_step rfl fun K hK => ?_
                      go_simp
                      exact hK _ _ ⟨_, _, x151, x152, x153, x154, x155, x156, x157, x158, x159, x160, x161, x162, x163, x164, x165, x166, x167, x168, x169, x170, x171, x172, x173, rfl, h.same 1 _ (.con (.bool true)) (by rw [HV.out]; rfl) rfl⟩
                    · obtain rfl : x150 = .bool true := h.get 1 (hw _ rfl ⟨1, .data⟩ (by simp) rfl) (.con (.bool true)) (by rw [HV.out]; rfl) _ rfl
                      refine wpOp_step rfl fun K hK => ?_
                      go_simp
                      exact hK _ _ ⟨x149, _, _, x152, x153, x154, x155, x156, x157, x158, x159, x160, x161, x162, x163, x164, x165, x166, x167, x168, x169, x170, x171, x172, x173, rfl, h.same 2 _ (.con (.bool true)) (by rw [HV.out]; rfl) rfl⟩
                    · obtain rfl : x151 = .bool true := h.get 2 (hw _ rfl ⟨2, .guard⟩ (by simp) rfl) (.con (.bool true)) (by rw [HV.out]; rfl) _ rfl
                      refine wpOp_step rfl fun K hK => ?_
                      go_simp
                      exact hK _ _ ⟨x149, x150, _, _, x153, x154, x155, x156, x157, x158, x159, x160, x161, x162, x163, x164, x165, x166, x167, x168, x169, x170, x171, x172, x173, rfl, h.same 3 _ (.con (.bool true)) (by rw [HV.out]; rfl) rfl⟩
                    · obtain rfl : x151 = .bool true := h.get 2 (hw _ rfl ⟨2, .data⟩ (by simp) rfl) (.con (.bool true)) (by rw [HV.out]; rfl) _ rfl
                      obtain rfl : x152 = .bool true := h.get 3 (hw _ rfl ⟨3, .data⟩ (by simp) rfl) (.con (.bool true)) (by rw [HV.out]; rfl) _ rfl
                      refine wpOp_step rfl fun K hK => ?_
                      go_simp
                      exact hK _ _ ⟨x149, x150, _, _, _, x154, x155, x156, x157, x158, x159, x160, x161, x162, x163, x164, x165, x166, x167, x168, x169, x170, x171, x172, x173, rfl, h.same 4 _ (.con (.bool true)) (by rw [HV.out]; rfl) rfl⟩
                    · obtain rfl : x153 = .bool true := h.get 4 (hw _ rfl ⟨4, .data⟩ (by simp) rfl) (.con (.bool true)) (by rw [HV.out]; rfl) _ rfl
                      refine wpOp_step rfl fun K hK => ?_
                      go_simp
                      exact hK _ _ ⟨x149, x150, x151, x152, _, _, x155, x156, x157, x158, x159, x160, x161, x162, x163, x164, x165, x166, x167, x168, x169, x170, x171, x172, x173, rfl, h.same 5 _ (.con (.bool true)) (by rw [HV.out]; rfl) rfl⟩
                    · obtain rfl : x154 = .bool true := h.get 5 (hw _ rfl ⟨5, .guard⟩ (by simp) rfl) (.con (.bool true)) (by rw [HV.out]; rfl) _ rfl
                      refine wpOp_step rfl fun K hK => ?_
                      go_simp
                      exact hK _ _ ⟨x149, x150, x151, x152, x153, _, _, x156, x157, x158, x159, x160, x161, x162, x163, x164, x165, x166, x167, x168, x169, x170, x171, x172, x173, rfl, h.same 6 _ (.con (.bool true)) (by rw [HV.out]; rfl) rfl⟩
                    · obtain rfl : x154 = .bool true := h.get 5 (hw _ rfl ⟨5, .data⟩ (by simp) rfl) (.con (.bool true)) (by rw [HV.out]; rfl) _ rfl
                      obtain rfl : x155 = .bool true := h.get 6 (hw _ rfl ⟨6, .data⟩ (by simp) rfl) (.con (.bool true)) (by rw [HV.out]; rfl) _ rfl
                      refine wpOp_step rfl fun K hK => ?_
                      go_simp
                      exact hK _ _ ⟨x149, x150, x151, x152, x153, _, _, _, x157, x158, x159, x160, x161, x162, x163, x164, x165, x166, x167, x168, x169, x170, x171, x172, x173, rfl, h.same 7 _ (.con (.bool true)) (by rw [HV.out]; rfl) rfl⟩
                    · obtain rfl : x156 = .bool true := h.get 7 (hw _ rfl ⟨7, .data⟩ (by simp) rfl) (.con (.bool true)) (by rw [HV.out]; rfl) _ rfl
                      refine wpOp_step rfl fun K hK => ?_
                      go_simp
                      exact hK _ _ ⟨x149, x150, x151, x152, x153, x154, x155, _, _, x158, x159, x160, x161, x162, x163, x164, x165, x166, x167, x168, x169, x170, x171, x172, x173, rfl, h.same 8 _ (.con (.bool true)) (by rw [HV.out]; rfl) rfl⟩
                    · obtain rfl : x157 = .bool true := h.get 8 (hw _ rfl ⟨8, .guard⟩ (by simp) rfl) (.con (.bool true)) (by rw [HV.out]; rfl) _ rfl
                      have hpos : 0 < l.length := Nat.pos_of_ne_zero hn0; obtain ⟨⟨s0, s1, s2⟩, ⟨b0, b1', b2⟩, ⟨q0, q1, q2, q3⟩, e0, e1, e2, e3⟩ := HC27.out w' h.1
                      refine wpOp_step rfl fun K hK => ?_
                      go_simp
                      exact hK _ _ ⟨x149, x150, x151, x152, x153, x154, x155, x156, _, _, x159, x160, x161, x162, x163, x164, x165, x166, x167, x168, x169, x170, x171, x172, x173, rfl, h.same 9 _ (.con (.agg #[.string nm, .int .i64 vr, .int .i64 ln, .slice haq hs.length hcq])) (by rw [HV.out]; rfl) rfl⟩
                    · obtain rfl : x157 = .bool true := h.get 8 (hw _ rfl ⟨8, .guard⟩ (by simp) rfl) (.con (.bool true)) (by rw [HV.out]; rfl) _ rfl
                      refine wpOp_step rfl fun K hK => ?_
                      go_simp
                      exact hK _ _ ⟨x149, x150, x151, x152, x153, x154, x155, x156, _, x158, _, x160, x161, x162, x163, x164, x165, x166, x167, x168, x169, x170, x171, x172, x173, rfl, h.same 10 _ (.con (.pointer (some ⟨w.heap.size, 2, none⟩))) (by rw [HV.out]; rfl) rfl⟩
                    · obtain rfl : x157 = .bool true := h.get 8 (hw _ rfl ⟨8, .guard⟩ (by simp) rfl) (.con (.bool true)) (by rw [HV.out]; rfl) _ rfl
                      obtain rfl : x159 = .pointer (some ⟨w.heap.size, 2, none⟩) := h.get 10 (hw _ rfl ⟨10, .data⟩ (by simp) rfl) (.con (.pointer (some ⟨w.heap.size, 2, none⟩))) (by rw [HV.out]; rfl) _ rfl
                      have hpos : 0 < l.length := Nat.pos_of_ne_zero hn0; obtain ⟨⟨s0, s1, s2⟩, ⟨b0, b1', b2⟩, ⟨q0, q1, q2, q3⟩, e0, e1, e2, e3⟩ := HC27.out w' h.1
                      refine wpOp_step rfl fun K hK => ?_
                      go_simp
                      exact hK _ _ ⟨x149, x150, x151, x152, x153, x154, x155, x156, _, x158, _, _, x161, x162, x163, x164, x165, x166, x167, x168, x169, x170, x171, x172, x173, rfl, h.same 11 _ (.con (.slice (some ⟨b1, o1, none⟩) l.length c)) (by rw [HV.out]; rfl) rfl⟩
                    · obtain rfl : x157 = .bool true := h.get 8 (hw _ rfl ⟨8, .guard⟩ (by simp) rfl) (.con (.bool true)) (by rw [HV.out]; rfl) _ rfl
                      obtain rfl : x160 = .slice (some ⟨b1, o1, none⟩) l.length c := h.get 11 (hw _ rfl ⟨11, .data⟩ (by simp) rfl) (.con (.slice (some ⟨b1, o1, none⟩) l.length c)) (by rw [HV.out]; rfl) _ rfl
                      have hpos : 0 < l.length := Nat.pos_of_ne_zero hn0; obtain ⟨⟨s0, s1, s2⟩, ⟨b0, b1', b2⟩, ⟨q0, q1, q2, q3⟩, e0, e1, e2, e3⟩ := HC27.out w' h.1
                      refine wpOp_step rfl fun K hK => ?_
                      go_simp
                      exact hK _ _ ⟨x149, x150, x151, x152, x153, x154, x155, x156, _, x158, x159, _, _, x162, x163, x164, x165, x166, x167, x168, x169, x170, x171, x172, x173, rfl, h.same 12 _ (.con (.pointer (some ⟨b1, o1, none⟩))) (by rw [HV.out]; rfl) rfl⟩
                    · obtain rfl : x157 = .bool true := h.get 8 (hw _ rfl ⟨8, .guard⟩ (by simp) rfl) (.con (.bool true)) (by rw [HV.out]; rfl) _ rfl
                      obtain rfl : x161 = .pointer (some ⟨b1, o1, none⟩) := h.get 12 (hw _ rfl ⟨12, .data⟩ (by simp) rfl) (.con (.pointer (some ⟨b1, o1, none⟩))) (by rw [HV.out]; rfl) _ rfl
                      have hpos : 0 < l.length := Nat.pos_of_ne_zero hn0; obtain ⟨⟨s0, s1, s2⟩, ⟨b0, b1', b2⟩, ⟨q0, q1, q2, q3⟩, e0, e1, e2, e3⟩ := HC27.out w' h.1
                      refine wpOp_step rfl fun K hK => ?_
                      go_simp
                      exact hK _ _ ⟨x149, x150, x151, x152, x153, x154, x155, x156, _, x158, x159, x160, _, _, x163, x164, x165, x166, x167, x168, x169, x170, x171, x172, x173, rfl, h.same 13 _ (.con (.agg #[.string nm, .int .i64 vr, .int .i64 ln, .slice hha hs.length hca])) (by rw [HV.out]; rfl) rfl⟩
                    · obtain rfl : x157 = .bool true := h.get 8 (hw _ rfl ⟨8, .chain⟩ (by simp) rfl) (.con (.bool true)) (by rw [HV.out]; rfl) _ rfl
                      obtain rfl : x158 = .agg #[.string nm, .int .i64 vr, .int .i64 ln, .slice haq hs.length hcq] := h.get 9 (hw _ rfl ⟨9, .data⟩ (by simp) rfl) (.con (.agg #[.string nm, .int .i64 vr, .int .i64 ln, .slice haq hs.length hcq])) (by rw [HV.out]; rfl) _ rfl
                      obtain rfl : x162 = .agg #[.string nm, .int .i64 vr, .int .i64 ln, .slice hha hs.length hca] := h.get 13 (hw _ rfl ⟨13, .data⟩ (by simp) rfl) (.con (.agg #[.string nm, .int .i64 vr, .int .i64 ln, .slice hha hs.length hca])) (by rw [HV.out]; rfl) _ rfl
                      have hpos : 0 < l.length := Nat.pos_of_ne_zero hn0; obtain ⟨⟨s0, s1, s2⟩, ⟨b0, b1', b2⟩, ⟨q0, q1, q2, q3⟩, e0, e1, e2, e3⟩ := HC27.out w' h.1
                      refine wpOp_step rfl fun K hK => ?_
                      go_simp
                      refine (HSAP.out w' h.1).mono ?_
                      rintro e w2 ⟨rfl, hb2⟩
                      exact hK _ _ ⟨x149, x150, x151, x152, x153, x154, x155, x156, _, _, x159, x160, x161, _, _, x164, x165, x166, x167, x168, x169, x170, x171, x172, x173, rfl, h.did hb2 14 _ (.con (.bool true)) (by rw [HV.out]; rfl) rfl⟩
                    · obtain rfl : x157 = .bool true := h.get 8 (hw _ rfl ⟨8, .data⟩ (by simp) rfl) (.con (.bool true)) (by rw [HV.out]; rfl) _ rfl
                      obtain rfl : x163 = .bool true := h.get 14 (hw _ rfl ⟨14, .data⟩ (by simp) rfl) (.con (.bool true)) (by rw [HV.out]; rfl) _ rfl
                      refine wpOp_step rfl fun K hK => ?_
                      go_simp
                      exact hK _ _ ⟨x149, x150, x151, x152, x153, x154, x155, x156, _, x158, x159, x160, x161, x162, _, _, x165, x166, x167, x168, x169, x170, x171, x172, x173, rfl, h.same 15 _ (.con (.bool true)) (by rw [HV.out]; rfl) rfl⟩
                    · obtain rfl : x164 = .bool true := h.get 15 (hw _ rfl ⟨15, .data⟩ (by simp) rfl) (.con (.bool true)) (by rw [HV.out]; rfl) _ rfl
                      refine wpOp_step rfl fun K hK => ?_
                      go_simp
                      exact hK _ _ ⟨x149, x150, x151, x152, x153, x154, x155, x156, x157, x158, x159, x160, x161, x162, x163, _, _, x166, x167, x168, x169, x170, x171, x172, x173, rfl, h.same 16 _ (.con (.bool true)) (by rw [HV.out]; rfl) rfl⟩
                    · obtain rfl : x165 = .bool true := h.get 16 (hw _ rfl ⟨16, .guard⟩ (by simp) rfl) (.con (.bool true)) (by rw [HV.out]; rfl) _ rfl
                      have hpos : 0 < l.length := Nat.pos_of_ne_zero hn0; obtain ⟨⟨s0, s1, s2⟩, ⟨b0, b1', b2⟩, ⟨q0, q1, q2, q3⟩, e0, e1, e2, e3⟩ := HC27.out w' h.1
                      refine wpOp_step rfl fun K hK => ?_
                      go_simp
                      exact hK _ _ ⟨x149, x150, x151, x152, x153, x154, x155, x156, x157, x158, x159, x160, x161, x162, x163, x164, _, _, x167, x168, x169, x170, x171, x172, x173, rfl, h.same 17 _ (.con (.agg #[.int .i64 v, .int .i64 e, .slice ab l.length cb])) (by rw [HV.out]; rfl) rfl⟩
                    · obtain rfl : x165 = .bool true := h.get 16 (hw _ rfl ⟨16, .guard⟩ (by simp) rfl) (.con (.bool true)) (by rw [HV.out]; rfl) _ rfl
                      have hpos : 0 < l.length := Nat.pos_of_ne_zero hn0; obtain ⟨⟨s0, s1, s2⟩, ⟨b0, b1', b2⟩, ⟨q0, q1, q2, q3⟩, e0, e1, e2, e3⟩ := HC27.out w' h.1
                      refine wpOp_step rfl fun K hK => ?_
                      go_simp
                      exact hK _ _ ⟨x149, x150, x151, x152, x153, x154, x155, x156, x157, x158, x159, x160, x161, x162, x163, x164, _, x166, _, x168, x169, x170, x171, x172, x173, rfl, h.same 18 _ (.con (.agg #[.int .i64 v, .int .i64 e, .slice (some ⟨b1, o1, none⟩) l.length c])) (by rw [HV.out]; rfl) rfl⟩
                    · obtain rfl : x165 = .bool true := h.get 16 (hw _ rfl ⟨16, .chain⟩ (by simp) rfl) (.con (.bool true)) (by rw [HV.out]; rfl) _ rfl
                      obtain rfl : x166 = .agg #[.int .i64 v, .int .i64 e, .slice ab l.length cb] := h.get 17 (hw _ rfl ⟨17, .data⟩ (by simp) rfl) (.con (.agg #[.int .i64 v, .int .i64 e, .slice ab l.length cb])) (by rw [HV.out]; rfl) _ rfl
                      obtain rfl : x167 = .agg #[.int .i64 v, .int .i64 e, .slice (some ⟨b1, o1, none⟩) l.length c] := h.get 18 (hw _ rfl ⟨18, .data⟩ (by simp) rfl) (.con (.agg #[.int .i64 v, .int .i64 e, .slice (some ⟨b1, o1, none⟩) l.length c])) (by rw [HV.out]; rfl) _ rfl
                      have hpos : 0 < l.length := Nat.pos_of_ne_zero hn0; obtain ⟨⟨s0, s1, s2⟩, ⟨b0, b1', b2⟩, ⟨q0, q1, q2, q3⟩, e0, e1, e2, e3⟩ := HC27.out w' h.1
                      refine wpOp_step rfl fun K hK => ?_
                      go_simp
                      refine (HSAM.out w' h.1).mono ?_
                      rintro e w2 ⟨rfl, hb2⟩
                      exact hK _ _ ⟨x149, x150, x151, x152, x153, x154, x155, x156, x157, x158, x159, x160, x161, x162, x163, x164, _, _, _, _, x169, x170, x171, x172, x173, rfl, h.did hb2 19 _ (.con (.bool true)) (by rw [HV.out]; rfl) rfl⟩
                    · obtain rfl : x165 = .bool true := h.get 16 (hw _ rfl ⟨16, .data⟩ (by simp) rfl) (.con (.bool true)) (by rw [HV.out]; rfl) _ rfl
                      obtain rfl : x168 = .bool true := h.get 19 (hw _ rfl ⟨19, .data⟩ (by simp) rfl) (.con (.bool true)) (by rw [HV.out]; rfl) _ rfl
                      refine wpOp_step rfl fun K hK => ?_
                      go_simp
                      exact hK _ _ ⟨x149, x150, x151, x152, x153, x154, x155, x156, x157, x158, x159, x160, x161, x162, x163, x164, _, x166, x167, _, _, x170, x171, x172, x173, rfl, h.same 20 _ (.con (.bool true)) (by rw [HV.out]; rfl) rfl⟩
                    · obtain rfl : x169 = .bool true := h.get 20 (hw _ rfl ⟨20, .data⟩ (by simp) rfl) (.con (.bool true)) (by rw [HV.out]; rfl) _ rfl
                      refine wpOp_step rfl fun K hK => ?_
                      go_simp
                      exact hK _ _ ⟨x149, x150, x151, x152, x153, x154, x155, x156, x157, x158, x159, x160, x161, x162, x163, x164, x165, x166, x167, x168, _, _, x171, x172, x173, rfl, h.same 21 _ (.con (.bool true)) (by rw [HV.out]; rfl) rfl⟩
                    · obtain rfl : x170 = .bool true := h.get 21 (hw _ rfl ⟨21, .guard⟩ (by simp) rfl) (.con (.bool true)) (by rw [HV.out]; rfl) _ rfl
                      have hpos : 0 < l.length := Nat.pos_of_ne_zero hn0; obtain ⟨⟨s0, s1, s2⟩, ⟨b0, b1', b2⟩, ⟨q0, q1, q2, q3⟩, e0, e1, e2, e3⟩ := HC27.out w' h.1
                      refine wpOp_step rfl fun K hK => ?_
                      go_simp
                      exact hK _ _ ⟨x149, x150, x151, x152, x153, x154, x155, x156, x157, x158, x159, x160, x161, x162, x163, x164, x165, x166, x167, x168, x169, _, _, x172, x173, rfl, h.same 22 _ (.con (.agg #[.int .i64 v, .int .i64 e, .slice (some ⟨b1, o1, none⟩) l.length c])) (by rw [HV.out]; rfl) rfl⟩
                    · obtain rfl : x170 = .bool true := h.get 21 (hw _ rfl ⟨21, .chain⟩ (by simp) rfl) (.con (.bool true)) (by rw [HV.out]; rfl) _ rfl
                      obtain rfl : x171 = .agg #[.int .i64 v, .int .i64 e, .slice (some ⟨b1, o1, none⟩) l.length c] := h.get 22 (hw _ rfl ⟨22, .data⟩ (by simp) rfl) (.con (.agg #[.int .i64 v, .int .i64 e, .slice (some ⟨b1, o1, none⟩) l.length c])) (by rw [HV.out]; rfl) _ rfl
                      have hpos : 0 < l.length := Nat.pos_of_ne_zero hn0; obtain ⟨⟨s0, s1, s2⟩, ⟨b0, b1', b2⟩, ⟨q0, q1, q2, q3⟩, e0, e1, e2, e3⟩ := HC27.out w' h.1
                      refine wpOp_step rfl fun K hK => ?_
                      go_simp
                      refine (HMAY.out w' h.1).mono ?_
                      rintro e w2 ⟨rfl, hb2⟩
                      exact hK _ _ ⟨x149, x150, x151, x152, x153, x154, x155, x156, x157, x158, x159, x160, x161, x162, x163, x164, x165, x166, x167, x168, x169, _, _, _, x173, rfl, h.did hb2 23 _ (.con (.bool true)) (by rw [HV.out]; rfl) rfl⟩
                    · obtain rfl : x170 = .bool true := h.get 21 (hw _ rfl ⟨21, .data⟩ (by simp) rfl) (.con (.bool true)) (by rw [HV.out]; rfl) _ rfl
                      obtain rfl : x172 = .bool true := h.get 23 (hw _ rfl ⟨23, .data⟩ (by simp) rfl) (.con (.bool true)) (by rw [HV.out]; rfl) _ rfl
                      refine wpOp_step rfl fun K hK => ?_
                      go_simp
                      exact hK _ _ ⟨x149, x150, x151, x152, x153, x154, x155, x156, x157, x158, x159, x160, x161, x162, x163, x164, x165, x166, x167, x168, x169, _, x171, _, _, rfl, h.same 24 _ (.con (.bool true)) (by rw [HV.out]; rfl) rfl⟩
                    · omega
                  case last =>
                    rintro d a' w' hall ⟨x149, x150, x151, x152, x153, x154, x155, x156, x157, x158, x159, x160, x161, x162, x163, x164, x165, x166, x167, x168, x169, x170, x171, x172, x173, rfl, h⟩
                    have hle := h.1
                    obtain rfl : x173 = .bool true := h.get 24 (hall _ (by omega)) (.con (.bool true)) (by rw [HV.out]; rfl) _ rfl
                    have HLE := Lib.hid hle
                    clear h hall hle HV
                    have HBE := Lib.hid (HBR.out.trans (HLE.out.mono HBR.out.size))
                    go_wp2
                    go_ret
                    exact ⟨rfl, HB2.out.trans (HBE.out.mono HB2.out.size)⟩
end Go.Proofs.YtgghgcilpfdbjaaGreatDoor
