/- legatelaw23.awake returns true: the walk. -/
import Derived.Test.YtgghgcilpfdbjaaGreatDoorSy27

namespace Go.Proofs.YtgghgcilpfdbjaaGreatDoor
open Go.RowKit Go.Shelf Go.Sort
set_option maxHeartbeats 8000000 in
set_option maxRecDepth 100000 in
theorem lawAwake23 (w : World) (hT : TabW w) (hP10 : Pow10 w) :
   Calls Tryz.prog 14 #[] w fun e w' => e = .returned (.bool true) ∧ Below w.heap.size w w' := by
 have hlo : 0 < w.heap.size := Nat.lt_of_le_of_lt (Nat.zero_le _) hT.lt
 obtain ⟨W2, hW2⟩ : ∃ W2, W2 = (w.alloc (.cells #[.string { data := #[97, 46, 106, 115, 111, 110] }] 9)).alloc (.cells #[.string { data := #[108, 101, 110, 103, 116, 104] }, .string { data := #[118, 101, 114, 115, 105, 111, 110] }] 9) := ⟨_, rfl⟩
 have hz1 : (w.alloc (.cells #[.string { data := #[97, 46, 106, 115, 111, 110] }] 9)).heap.size = w.heap.size + 1 := by simp
 have hz2 : W2.heap.size = w.heap.size + 2 := by rw [hW2]; simp
 have hb2 : Below w.heap.size w W2 := by rw [hW2]; exact ((Below.refl _ _).alloc (Nat.le_refl _) _).alloc (by simp) _
 have hx0 : W2.heap[w.heap.size]? = some (.cells #[.string { data := #[97, 46, 106, 115, 111, 110] }] 9 (0, 0)) := by rw [hW2, Below.heap_alloc _ _ _ (by simp)]; exact heap_alloc_new w _
 have hx1 : W2.heap[w.heap.size + 1]? = some (.cells #[.string { data := #[108, 101, 110, 103, 116, 104] }, .string { data := #[118, 101, 114, 115, 105, 111, 110] }] 9 (0, 0)) := by rw [hW2, ← hz1]; exact heap_alloc_new _ _
 have HT := Lib.hid (show ∀ w' : World, Below w.heap.size w w' → TabW w' ∧ Pow10 w' from fun w' h => ⟨hT.below h, hP10.below h⟩)
 have HW2 := Lib.hid hW2
 have HB2 := Lib.hid hb2
 have HZ2 := Lib.hid hz2
 have HX := Lib.hid (And.intro hx0 hx1)
 clear hW2 hb2 hz1 hz2 hx0 hx1 hT hP10
 go_enter Tryz.func14, Tryz.ntmps14
 go_wp2_with fail
 rw [← HW2.out]
 refine (lawNumB 7 _).mono ?_
 rintro r w1 ⟨rfl, hb1⟩
 have HB1 := Lib.hid hb1
 clear hb1
 go_wp2_with fail
 refine (lawNumB 2 _).mono ?_
 rintro r w2 ⟨rfl, hb2⟩
 have HB2b := Lib.hid (HB1.out.trans (hb2.mono HB1.out.size))
 clear hb2 HB1
 go_wp2_with fail
 refine (lawObj _ _ _ _ _ _ _).mono ?_
 rintro r w3 ⟨rfl, hw3⟩
 have HX3 := Lib.hid (show w3.heap[w2.heap.size]? = some (.cells #[.int .u8 2, .int .i64 7, .string { data := #[] }, .slice none 0 0, .slice none 0 0, .int .u8 2, .int .i64 2, .string { data := #[] }, .slice none 0 0, .slice none 0 0] 30 (0, 0)) by rw [hw3, Below.heap_alloc _ _ _ (by simp)]; exact heap_alloc_new w2 _)
 have HB3 := Lib.hid (show Below W2.heap.size W2 w3 by rw [hw3]; exact (HB2b.out.alloc HB2b.out.size _).alloc (by have := HB2b.out.size; simp; omega) _)
 have HZ3 := Lib.hid (show W2.heap.size ≤ w2.heap.size ∧ w2.heap.size < w3.heap.size from ⟨HB2b.out.size, heap_lt HX3.out⟩)
 clear hw3 HB2b
 go_wp2_with fail
 refine (lawObj _ _ _ _ _ _ _).mono ?_
 rintro r w4 ⟨rfl, hw4⟩
 have HX4 := Lib.hid (show w4.heap[w3.heap.size]? = some (.cells #[.int .u8 5, .int .i64 0, .string { data := #[] }, .slice (some ⟨w.heap.size + 1, 0, none⟩) 2 2, .slice (some ⟨w2.heap.size, 0, none⟩) 2 2] 30 (0, 0)) by rw [hw4, Below.heap_alloc _ _ _ (by simp)]; exact heap_alloc_new w3 _)
 have HB34 := Lib.hid (show Below w3.heap.size w3 w4 by rw [hw4]; exact ((Below.refl _ _).alloc (Nat.le_refl _) _).alloc (by simp) _)
 clear hw4
 have hr4 : Rep w4 w.heap.size w4.heap.size exJ (.agg #[.int .u8 5, .int .i64 0, .string { data := #[] }, .slice (some ⟨w.heap.size, 0, none⟩) 1 1, .slice (some ⟨w3.heap.size, 0, none⟩) 1 1]) := by
   have hb4 : Below W2.heap.size W2 w4 := HB3.out.trans (HB34.out.mono HB3.out.size)
   have hz2 := HZ2.out
   have hz3 := HZ3.out
   have hz4 := heap_lt HX4.out
   have x0 : w4.heap[w.heap.size]? = _ := (hb4.block _ (by omega)).trans HX.out.1
   have x1 : w4.heap[w.heap.size + 1]? = _ := (hb4.block _ (by omega)).trans HX.out.2
   have x2 : w4.heap[w2.heap.size]? = _ := (HB34.out.block _ hz3.2).trans HX3.out
   refine rep_obj (ns := [aJsN]) (its := [pinJ pinE]) x0 (fun i hi => ?_) HX4.out (fun i hi => ?_) ⟨Nat.le_refl _, by omega⟩ ⟨by omega, by omega⟩ rfl rfl
   · match i, hi with
     | 0, _ => rfl
   · match i, hi with
     | 0, _ =>
       refine ⟨_, _, _, _, _, rfl, rfl, rfl, rfl, rfl, ?_⟩
       refine rep_obj (ns := [lenN, verN]) (its := [numJ 7, numJ 2]) x1 (fun i hi => ?_) x2 (fun i hi => ?_) ⟨by omega, by omega⟩ ⟨by omega, by omega⟩ rfl rfl
       · match i, hi with
         | 0, _ => rfl
         | 1, _ => rfl
       · match i, hi with
         | 0, _ => exact ⟨_, _, _, _, _, rfl, rfl, rfl, rfl, rfl, rep_numS _ _ _ _⟩
         | 1, _ => exact ⟨_, _, _, _, _, rfl, rfl, rfl, rfl, rfl, rep_numS _ _ _ _⟩
 obtain ⟨i3, hi3⟩ : ∃ i3, i3 = w3.heap.size := ⟨_, rfl⟩
 rw [← hi3] at hr4
 have HI3 := Lib.hid hi3
 have HR4 := Lib.hid hr4
 have HB4 := Lib.hid (show Below w.heap.size w w4 from HB2.out.trans ((HB3.out.trans (HB34.out.mono HB3.out.size)).mono HB2.out.size))
 clear hr4 hi3 HX3 HX4 HX HB3 HB34 HZ3 HZ2 HB2
 go_upto_region 3 with fail
 rw [← HI3.out]
 clear HI3
 obtain ⟨W5, hW5⟩ : ∃ W5, W5 = w4.alloc (.cells #[.int .u8 5, .int .i64 0, .string { data := #[] }, .slice (some ⟨w.heap.size, 0, none⟩) 1 1, .slice (some ⟨i3, 0, none⟩) 1 1] 30) := ⟨_, rfl⟩
 have hx5 : W5.heap[w4.heap.size]? = some (.cells #[.int .u8 5, .int .i64 0, .string { data := #[] }, .slice (some ⟨w.heap.size, 0, none⟩) 1 1, .slice (some ⟨i3, 0, none⟩) 1 1] 30 (0, 0)) := by rw [hW5]; exact heap_alloc_new w4 _
 have HB5 := Lib.hid (show Below w.heap.size w W5 by rw [hW5]; exact HB4.out.alloc HB4.out.size _)
 have hb45 : Below w4.heap.size w4 W5 := by rw [hW5]; exact (Below.refl _ _).alloc (Nat.le_refl _) _
 have HC1 := Lib.hid (show ∀ w' : World, Below W5.heap.size W5 w' → w'.cell? ⟨w4.heap.size, 0, none⟩ = some (.int .u8 5) ∧ w'.cell? ⟨w4.heap.size, 1, none⟩ = some (.int .i64 0) ∧ w'.cell? ⟨w4.heap.size, 2, none⟩ = some (.string { data := #[] }) ∧ w'.cell? ⟨w4.heap.size, 3, none⟩ = some (.slice (some ⟨w.heap.size, 0, none⟩) 1 1) ∧ w'.cell? ⟨w4.heap.size, 4, none⟩ = some (.slice (some ⟨i3, 0, none⟩) 1 1) from fun w' h => by
   have x := (h.block _ (heap_lt hx5)).trans hx5
   exact ⟨box_cell x rfl, box_cell x rfl, box_cell x rfl, box_cell x rfl, box_cell x rfl⟩)
 have HSN := Lib.hid (show ∀ (kd ex : ByteArray) (n : Int) (w' : World), Below W5.heap.size W5 w' → Calls Tryz.prog 38 #[.string kd, .string ex, .agg #[.int .u8 5, .int .i64 0, .string { data := #[] }, .slice (some ⟨w.heap.size, 0, none⟩) 1 1, .slice (some ⟨i3, 0, none⟩) 1 1], .int .i64 n] w' (SnapObjPost w.heap.size kd ex exJ n w') from fun kd ex n w' h =>
   lawSnapshot kd ex exJ _ _ 1 1 n w' w.heap.size w4.heap.size (HR4.out.below (hb45.trans (h.mono hb45.size)) (Nat.le_refl _) (Nat.le_refl _) (Nat.le_refl _)) (Nat.le_trans HB5.out.size h.size) (Nat.le_trans hb45.size h.size))
 have HTW := Lib.hid (show ∀ w' : World, Below W5.heap.size W5 w' → TabW w' ∧ Pow10 w' from fun w' h => HT.out w' (HB5.out.trans (h.mono HB5.out.size)))
 have HLO := Lib.hid hlo
 rw [← hW5]
 clear hW5 hx5 hb45 HR4 HB4 hlo
 obtain ⟨q0, q1, q2, q3, q4⟩ := HC1.out W5 (Below.refl _ _)
 go_wp2_with fail
 refine (HSN.out _ _ _ _ (Below.refl _ _)).mono ?_
 clear q0 q1 q2 q3 q4
 rintro r w6 ⟨av, iv, rfl, hr6, hb6⟩
 go_upto_region 4 with fail
 obtain ⟨W7, hW7⟩ : ∃ W7, W7 = w6.alloc (.cells #[.int .u8 5, .int .i64 0, .string { data := #[] }, .slice av 4 4, .slice iv 4 4] 30) := ⟨_, rfl⟩
 have hx7 : W7.heap[w6.heap.size]? = some (.cells #[.int .u8 5, .int .i64 0, .string { data := #[] }, .slice av 4 4, .slice iv 4 4] 30 (0, 0)) := by rw [hW7]; exact heap_alloc_new w6 _
 have hb67 : Below w6.heap.size w6 W7 := by rw [hW7]; exact (Below.refl _ _).alloc (Nat.le_refl _) _
 have HB7 := Lib.hid (show Below W5.heap.size W5 W7 from hb6.trans (hb67.mono hb6.size))
 have HV := Lib.hid (show ∀ w' : World, Below W7.heap.size W7 w' → w'.cell? ⟨w6.heap.size, 0, none⟩ = some (.int .u8 5) ∧ w'.cell? ⟨w6.heap.size, 1, none⟩ = some (.int .i64 0) ∧ w'.cell? ⟨w6.heap.size, 2, none⟩ = some (.string { data := #[] }) ∧ w'.cell? ⟨w6.heap.size, 3, none⟩ = some (.slice av 4 4) ∧ w'.cell? ⟨w6.heap.size, 4, none⟩ = some (.slice iv 4 4) from fun w' h => by
   have x := (h.block _ (heap_lt hx7)).trans hx7
   exact ⟨box_cell x rfl, box_cell x rfl, box_cell x rfl, box_cell x rfl, box_cell x rfl⟩)
 have HVR := Lib.hid (show ∀ w' : World, Below W7.heap.size W7 w' → Rep w' w.heap.size w'.heap.size (snapO snpN nineN exJ 1) (.agg #[.int .u8 5, .int .i64 0, .string { data := #[] }, .slice av 4 4, .slice iv 4 4]) from fun w' h => Rep.below hr6 (hb67.trans (h.mono hb67.size)) (Nat.le_refl _) (Nat.le_refl _) (Nat.le_trans hb67.size h.size))
 rw [← hW7]
 clear hW7 hx7 hb67 hr6 hb6
 obtain ⟨q0, q1, q2, q3, q4⟩ := HV.out W7 (Below.refl _ _)
 go_wp2_with fail
 refine (awOf0 _ W7 w.heap.size HLO.out (HTW.out W7 HB7.out).1 (HVR.out W7 (Below.refl _ _))).mono ?_
 clear q0 q1 q2 q3 q4
 rintro r w8 ⟨sa, sc, rfl, hP8, hb8⟩
 go_upto_region 5 with fail
 obtain ⟨W9, hW9⟩ : ∃ W9, W9 = w8.alloc (.cells #[.int .i64 1, .int .i64 9, .slice sa 1 sc] 24) := ⟨_, rfl⟩
 have hx9 : W9.heap[w8.heap.size]? = some (.cells #[.int .i64 1, .int .i64 9, .slice sa 1 sc] 24 (0, 0)) := by rw [hW9]; exact heap_alloc_new w8 _
 have hb89 : Below w8.heap.size w8 W9 := by rw [hW9]; exact (Below.refl _ _).alloc (Nat.le_refl _) _
 have HB9 := Lib.hid (show Below W7.heap.size W7 W9 from hb8.trans (hb89.mono hb8.size))
 have HS := Lib.hid (show ∀ w' : World, Below W9.heap.size W9 w' → w'.cell? ⟨w8.heap.size, 0, none⟩ = some (.int .i64 1) ∧ w'.cell? ⟨w8.heap.size, 1, none⟩ = some (.int .i64 9) ∧ w'.cell? ⟨w8.heap.size, 2, none⟩ = some (.slice sa 1 sc) from fun w' h => by
   have x := (h.block _ (heap_lt hx9)).trans hx9
   exact ⟨box_cell x rfl, box_cell x rfl, box_cell x rfl⟩)
 have HSP := Lib.hid (show ∀ w' : World, Below W9.heap.size W9 w' → PinsAt w' 0 w'.heap.size sa [pinE] from fun w' h => hP8.below (hb89.trans (h.mono hb89.size)) (Nat.le_refl _) (Nat.zero_le _) (Nat.le_trans hb89.size h.size))
 have HB59 := Lib.hid (HB7.out.trans (HB9.out.mono HB7.out.size))
 rw [← hW9]
 clear hW9 hx9 hb89 hP8 hb8
 obtain ⟨q0, q1, q2⟩ := HS.out W9 (Below.refl _ _)
 go_wp2_with fail
 refine (awVal sa sc W9 (HSP.out W9 (Below.refl _ _)) (HTW.out W9 HB59.out).1 (HTW.out W9 HB59.out).2).mono ?_
 clear q0 q1 q2
 rintro r w10 ⟨ap, cp, ip, dp, rfl, hr10, hb10⟩
 go_upto_region 6 with fail
 obtain ⟨W11, hW11⟩ : ∃ W11, W11 = w10.alloc (.cells #[.int .u8 5, .int .i64 0, .string { data := #[] }, .slice ap 4 cp, .slice ip 4 dp] 30) := ⟨_, rfl⟩
 have hx11 : W11.heap[w10.heap.size]? = some (.cells #[.int .u8 5, .int .i64 0, .string { data := #[] }, .slice ap 4 cp, .slice ip 4 dp] 30 (0, 0)) := by rw [hW11]; exact heap_alloc_new w10 _
 have hb1011 : Below w10.heap.size w10 W11 := by rw [hW11]; exact (Below.refl _ _).alloc (Nat.le_refl _) _
 have HB11 := Lib.hid (show Below W9.heap.size W9 W11 from hb10.trans (hb1011.mono hb10.size))
 have HU := Lib.hid (show ∀ w' : World, Below W11.heap.size W11 w' → w'.cell? ⟨w10.heap.size, 0, none⟩ = some (.int .u8 5) ∧ w'.cell? ⟨w10.heap.size, 1, none⟩ = some (.int .i64 0) ∧ w'.cell? ⟨w10.heap.size, 2, none⟩ = some (.string { data := #[] }) ∧ w'.cell? ⟨w10.heap.size, 3, none⟩ = some (.slice ap 4 cp) ∧ w'.cell? ⟨w10.heap.size, 4, none⟩ = some (.slice ip 4 dp) from fun w' h => by
   have x := (h.block _ (heap_lt hx11)).trans hx11
   exact ⟨box_cell x rfl, box_cell x rfl, box_cell x rfl, box_cell x rfl, box_cell x rfl⟩)
 have HLE9 := Lib.hid (show w.heap.size ≤ W9.heap.size from Nat.le_trans HB5.out.size HB59.out.size)
 have HUR := Lib.hid (show ∀ w' : World, Below W11.heap.size W11 w' → Rep w' w.heap.size w'.heap.size (snapO snpN nineN exJ 1) (.agg #[.int .u8 5, .int .i64 0, .string { data := #[] }, .slice ap 4 cp, .slice ip 4 dp]) from fun w' h => Rep.below hr10 (hb1011.trans (h.mono hb1011.size)) (Nat.le_refl _) HLE9.out (Nat.le_trans hb1011.size h.size))
 have HB511 := Lib.hid (HB59.out.trans (HB11.out.mono HB59.out.size))
 rw [← hW11]
 clear hW11 hx11 hb1011 hr10 hb10
 obtain ⟨q0, q1, q2, q3, q4⟩ := HC1.out W11 HB511.out
 go_wp2_with fail
 refine (HSN.out _ _ _ _ HB511.out).mono ?_
 clear q0 q1 q2 q3 q4
 rintro r w12 ⟨a12, i12, rfl, hr12, hb12⟩
 have HBx12 := Lib.hid (HB511.out.trans (hb12.mono HB511.out.size))
 have HRx12 := Lib.hid hr12
 have HBy12 := Lib.hid hb12
 clear hr12 hb12
 go_wp2_with fail
 refine (awOf (snapO tgtN nineN exJ 1) 13 _ w12 w.heap.size HLO.out (HTW.out _ HBx12.out).1 ex_wt1 ex_may1 rfl ex_meta1 sn_1 HRx12.out).mono ?_
 rintro r w13 ⟨a13, c13, rfl, hb13⟩
 go_upto_region 7 with fail
 obtain ⟨W14, hW14⟩ : ∃ W14, W14 = w13.alloc (.cells #[.int .i64 0, .int .i64 0, .slice a13 0 c13] 24) := ⟨_, rfl⟩
 have HBz14 := Lib.hid (show Below W11.heap.size W11 W14 by rw [hW14]; exact (HBy12.out.trans (hb13.mono HBy12.out.size)).alloc (Nat.le_trans HBy12.out.size hb13.size) _)
 have HB514 := Lib.hid (HB511.out.trans (HBz14.out.mono HB511.out.size))
 rw [← hW14]
 clear hW14 hb13
 obtain ⟨q0, q1, q2, q3, q4⟩ := HC1.out W14 HB514.out
 go_wp2_with fail
 refine (HSN.out _ _ _ _ HB514.out).mono ?_
 clear q0 q1 q2 q3 q4
 rintro r w15 ⟨a15, i15, rfl, hr15, hb15⟩
 have HBx15 := Lib.hid (HB514.out.trans (hb15.mono HB514.out.size))
 have HRx15 := Lib.hid hr15
 have HBy15 := Lib.hid hb15
 clear hr15 hb15
 go_wp2_with fail
 refine (awOf (snapO snpN nineN exJ 0) 1 _ w15 w.heap.size HLO.out (HTW.out _ HBx15.out).1 ex_wt2 ex_may2 rfl ex_meta2 sn_2 HRx15.out).mono ?_
 rintro r w16 ⟨a16, c16, rfl, hb16⟩
 go_upto_region 8 with fail
 obtain ⟨W17, hW17⟩ : ∃ W17, W17 = w16.alloc (.cells #[.int .i64 0, .int .i64 0, .slice a16 0 c16] 24) := ⟨_, rfl⟩
 have HBz17 := Lib.hid (show Below W14.heap.size W14 W17 by rw [hW17]; exact (HBy15.out.trans (hb16.mono HBy15.out.size)).alloc (Nat.le_trans HBy15.out.size hb16.size) _)
 have HB517 := Lib.hid (HB514.out.trans (HBz17.out.mono HB514.out.size))
 rw [← hW17]
 clear hW17 hb16
 obtain ⟨q0, q1, q2, q3, q4⟩ := HC1.out W17 HB517.out
 go_wp2_with fail
 refine (HSN.out _ _ _ _ HB517.out).mono ?_
 clear q0 q1 q2 q3 q4
 rintro r w18 ⟨a18, i18, rfl, hr18, hb18⟩
 have HBx18 := Lib.hid (HB517.out.trans (hb18.mono HB517.out.size))
 have HRx18 := Lib.hid hr18
 have HBy18 := Lib.hid hb18
 clear hr18 hb18
 go_wp2_with fail
 refine (awOf (snapO snpN xN exJ 1) 3 _ w18 w.heap.size HLO.out (HTW.out _ HBx18.out).1 ex_wt3 ex_may3 rfl ex_meta3 sn_3 HRx18.out).mono ?_
 rintro r w19 ⟨a19, c19, rfl, hb19⟩
 go_upto_region 9 with fail
 obtain ⟨W20, hW20⟩ : ∃ W20, W20 = w19.alloc (.cells #[.int .i64 0, .int .i64 0, .slice a19 0 c19] 24) := ⟨_, rfl⟩
 have HBz20 := Lib.hid (show Below W17.heap.size W17 W20 by rw [hW20]; exact (HBy18.out.trans (hb19.mono HBy18.out.size)).alloc (Nat.le_trans HBy18.out.size hb19.size) _)
 have HB520 := Lib.hid (HB517.out.trans (HBz20.out.mono HB517.out.size))
 rw [← hW20]
 clear hW20 hb19
 have HB1120 := Lib.hid (HBz14.out.trans ((HBz17.out.trans (HBz20.out.mono HBz17.out.size)).mono HBz14.out.size))
 have HB920 := Lib.hid (HB11.out.trans (HB1120.out.mono HB11.out.size))
 have HB720 := Lib.hid (HB9.out.trans (HB920.out.mono HB9.out.size))
 obtain ⟨q0, q1, q2⟩ := HS.out W20 HB920.out
 go_wp2_with fail
 refine (awPinA sa sc W20 (HSP.out W20 HB920.out)).mono ?_
 clear q0 q1 q2
 rintro r w21 ⟨ha, hc, rfl, hb21⟩
 go_upto_region 10 with fail
 obtain ⟨W22, hW22⟩ : ∃ W22, W22 = w21.alloc (.cells #[.string { data := #[97, 46, 106, 115, 111, 110] }, .int .i64 2, .int .i64 7, .slice ha 0 hc] 36) := ⟨_, rfl⟩
 have hx22 : W22.heap[w21.heap.size]? = some (.cells #[.string { data := #[97, 46, 106, 115, 111, 110] }, .int .i64 2, .int .i64 7, .slice ha 0 hc] 36 (0, 0)) := by rw [hW22]; exact heap_alloc_new w21 _
 have HB2022 := Lib.hid (show Below W20.heap.size W20 W22 by rw [hW22]; exact hb21.alloc hb21.size _)
 have HP := Lib.hid (show ∀ w' : World, Below W22.heap.size W22 w' → w'.cell? ⟨w21.heap.size, 0, none⟩ = some (.string { data := #[97, 46, 106, 115, 111, 110] }) ∧ w'.cell? ⟨w21.heap.size, 1, none⟩ = some (.int .i64 2) ∧ w'.cell? ⟨w21.heap.size, 2, none⟩ = some (.int .i64 7) ∧ w'.cell? ⟨w21.heap.size, 3, none⟩ = some (.slice ha 0 hc) from fun w' h => by
   have x := (h.block _ (heap_lt hx22)).trans hx22
   exact ⟨box_cell x rfl, box_cell x rfl, box_cell x rfl, box_cell x rfl⟩)
 have HB922 := Lib.hid (HB920.out.trans (HB2022.out.mono HB920.out.size))
 rw [← hW22]
 clear hW22 hx22 hb21
 obtain ⟨q0, q1, q2⟩ := HS.out W22 HB922.out
 go_wp2_with fail
 refine (awPinB sa sc W22 (HSP.out W22 HB922.out)).mono ?_
 clear q0 q1 q2
 rintro r w23 ⟨hd, he, rfl, hb23⟩
 have HB23 := Lib.hid hb23
 clear hb23
 go_upto_region 12 with fail
 obtain ⟨W24, hW24⟩ : ∃ W24, W24 = (w23.alloc (.cells #[.string { data := #[] }, .int .i64 0, .int .i64 0, .slice hd 0 he] 36)).alloc (.cells #[.string { data := #[97, 46, 106, 115, 111, 110] }, .int .i64 2, .int .i64 7, .slice none 0 0] 36) := ⟨_, rfl⟩
 have hz24 : (w23.alloc (.cells #[.string { data := #[] }, .int .i64 0, .int .i64 0, .slice hd 0 he] 36)).heap.size = w23.heap.size + 1 := by simp
 have hx24 : W24.heap[w23.heap.size + 1]? = some (.cells #[.string { data := #[97, 46, 106, 115, 111, 110] }, .int .i64 2, .int .i64 7, .slice none 0 0] 36 (0, 0)) := by rw [hW24, ← hz24]; exact heap_alloc_new _ _
 have HB24 := Lib.hid (show Below W22.heap.size W22 W24 by rw [hW24]; exact (HB23.out.alloc HB23.out.size _).alloc (by have := HB23.out.size; simp; omega) _)
 have HQ := Lib.hid (show ∀ w' : World, Below W24.heap.size W24 w' → w'.cell? ⟨w23.heap.size + 1, 0, none⟩ = some (.string { data := #[97, 46, 106, 115, 111, 110] }) ∧ w'.cell? ⟨w23.heap.size + 1, 1, none⟩ = some (.int .i64 2) ∧ w'.cell? ⟨w23.heap.size + 1, 2, none⟩ = some (.int .i64 7) ∧ w'.cell? ⟨w23.heap.size + 1, 3, none⟩ = some (.slice none 0 0) from fun w' h => by
   have x := (h.block _ (heap_lt hx24)).trans hx24
   exact ⟨box_cell x rfl, box_cell x rfl, box_cell x rfl, box_cell x rfl⟩)
 have HB2024 := Lib.hid (HB2022.out.trans (HB24.out.mono HB2022.out.size))
 have HB1124 := Lib.hid (HB1120.out.trans (HB2024.out.mono HB1120.out.size))
 have HB924 := Lib.hid (HB11.out.trans (HB1124.out.mono HB11.out.size))
 have HB724 := Lib.hid (HB9.out.trans (HB924.out.mono HB9.out.size))
 have HB524 := Lib.hid (HB7.out.trans (HB724.out.mono HB7.out.size))
 rw [← hW24]
 clear hW24 hz24 hx24
 obtain ⟨W25, hW25⟩ : ∃ W25, W25 = W24.alloc (.cells #[.string { data := #[97, 46, 106, 115, 111, 110] }, .int .i64 2, .int .i64 7, .slice none 0 0] 36) := ⟨_, rfl⟩
 have hx25 : W25.heap[W24.heap.size]? = some (.cells #[.string { data := #[97, 46, 106, 115, 111, 110] }, .int .i64 2, .int .i64 7, .slice none 0 0] 36 (0, 0)) := by rw [hW25]; exact heap_alloc_new W24 _
 have HB2425 := Lib.hid (show Below W24.heap.size W24 W25 by rw [hW25]; exact (Below.refl _ _).alloc (Nat.le_refl _) _)
 have HPB := Lib.hid (show PinsAt W25 0 W25.heap.size (some ⟨W24.heap.size, 0, none⟩) [pinE] from .inr ⟨_, 0, rfl, Nat.zero_le _, heap_lt hx25, fun i hi => by
   match i, hi with
   | 0, _ => exact ⟨box_cell hx25 rfl, box_cell hx25 rfl, box_cell hx25 rfl, none, 0, box_cell hx25 rfl, Nat.le_refl _, .inl rfl⟩⟩)
 have HW25 := Lib.hid hW25
 clear hW25 hx25
 obtain ⟨q0, q1, q2⟩ := HS.out W24 HB924.out
 obtain ⟨y0, y1, y2, y3⟩ := HQ.out W24 (Below.refl _ _)
 go_wp2_with fail
 rw [← HW25.out]
 refine (awSame sa _ sc 1 W25 (HSP.out W25 (HB924.out.trans (HB2425.out.mono HB924.out.size))) HPB.out).mono ?_
 clear q0 q1 q2 y0 y1 y2 y3
 rintro r w26 ⟨rfl, hb26⟩
 have HB26 := Lib.hid (HB2425.out.trans (hb26.mono HB2425.out.size))
 clear hb26 HPB HW25
 obtain ⟨q0, q1, q2⟩ := HS.out w26 (HB924.out.trans (HB26.out.mono HB924.out.size))
 go_wp2_with fail
 refine (awMay sa sc w26 (HSP.out _ (HB924.out.trans (HB26.out.mono HB924.out.size))) (HTW.out _ (HB524.out.trans (HB26.out.mono HB524.out.size))).1 (HTW.out _ (HB524.out.trans (HB26.out.mono HB524.out.size))).2).mono ?_
 clear q0 q1 q2
 rintro r w27 ⟨rfl, hb27⟩
 have HB27 := Lib.hid (HB26.out.trans (hb27.mono HB26.out.size))
 clear hb27
 obtain ⟨q0, q1, q2, q3, q4⟩ := HV.out w27 (HB724.out.trans (HB27.out.mono HB724.out.size))
 obtain ⟨y0, y1, y2, y3, y4⟩ := HU.out w27 (HB1124.out.trans (HB27.out.mono HB1124.out.size))
 go_wp2_with fail
 refine (awRefSame _ _ w27 w.heap.size (HVR.out _ (HB724.out.trans (HB27.out.mono HB724.out.size))) (HUR.out _ (HB1124.out.trans (HB27.out.mono HB1124.out.size)))).mono ?_
 clear q0 q1 q2 q3 q4 y0 y1 y2 y3 y4
 rintro r w28 ⟨rfl, hb28⟩
 have HB28 := Lib.hid (HB27.out.trans (hb28.mono HB27.out.size))
 clear hb28
 obtain ⟨q0, q1, q2, q3⟩ := HP.out w28 (HB24.out.trans (HB28.out.mono HB24.out.size))
 obtain ⟨y0, y1, y2, y3⟩ := HQ.out w28 HB28.out
 go_wp2_with fail
 refine (awPins ha none hc 0 w28).mono ?_
 clear q0 q1 q2 q3 y0 y1 y2 y3
 rintro r w29 ⟨rfl, hb29⟩
 have HB29 := Lib.hid (HB28.out.trans (hb29.mono HB28.out.size))
 clear hb29
 obtain ⟨q0, q1, q2, q3⟩ := HP.out w29 (HB24.out.trans (HB29.out.mono HB24.out.size))
 obtain ⟨y0, y1, y2, y3⟩ := HQ.out w29 HB29.out
 go_wp2_with fail
 refine (snapSamePin0 { data := #[97, 46, 106, 115, 111, 110] } 2 7 ha none hc 0 w29).mono ?_
 clear q0 q1 q2 q3 y0 y1 y2 y3
 rintro r w30 ⟨rfl, hb30⟩
 have HB30 := Lib.hid (HB29.out.trans (hb30.mono HB29.out.size))
 clear hb30
 obtain ⟨q0, q1, q2⟩ := HS.out w30 (HB924.out.trans (HB30.out.mono HB924.out.size))
 go_wp2_with fail
 refine (awSame0 sa sa sc sc w30 (HSP.out _ (HB924.out.trans (HB30.out.mono HB924.out.size))) (HSP.out _ (HB924.out.trans (HB30.out.mono HB924.out.size)))).mono ?_
 clear q0 q1 q2
 rintro r w31 ⟨rfl, hb31⟩
 have HB31 := Lib.hid (HB30.out.trans (hb31.mono HB30.out.size))
 clear hb31
 obtain ⟨q0, q1, q2, q3⟩ := HP.out w31 (HB24.out.trans (HB31.out.mono HB24.out.size))
 go_wp2_with fail
 refine (awMayPin ha hc w31).mono ?_
 clear q0 q1 q2 q3
 rintro r w32 ⟨rfl, hb32⟩
 have HB32 := Lib.hid (HB31.out.trans (hb32.mono HB31.out.size))
 clear hb32
 go_wp2
 go_ret
 exact ⟨rfl, HB5.out.trans ((HB524.out.trans (HB32.out.mono HB524.out.size)).mono HB5.out.size)⟩
end Go.Proofs.YtgghgcilpfdbjaaGreatDoor
