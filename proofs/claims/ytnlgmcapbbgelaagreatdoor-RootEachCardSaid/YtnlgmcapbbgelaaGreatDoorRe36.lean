/- The contracts of legateref15.Same and legateref22.Same. Printed by genrootref.py. -/
import Derived.Test.YtnlgmcapbbgelaaGreatDoorRe35
import Derived.Test.YtnlgmcapbbgelaaGreatDoorRe26
import Derived.Test.YtnlgmcapbbgelaaGreatDoorRe12
import Derived.Test.YtnlgmcapbbgelaaGreatDoorRe02
import Derived.Test.YtnlgmcapbbgelaaGreatDoorRe03

namespace Go.Proofs.YtnlgmcapbbgelaaGreatDoor
open Go.RowKit Go.Shelf Go.Sort
def AuthRPost (x : AuthV × Bool) (w : World) (e : Ending) (w' : World) : Prop :=
 ∃ ia ic, e = .returned (.tuple #[.agg #[.int .i64 x.1.thr, .slice ia x.1.ids.length ic], .bool x.2]) ∧ StrsAt w' w.heap.size w'.heap.size ia x.1.ids ∧ Below w.heap.size w w'
theorem keep2 {W : World} {b c j : Nat} {v0 v1 u : Value} (hn : c ≠ b) (h : W.cell? ⟨c, j, none⟩ = some u) : ((W.setCell ⟨b, 0, none⟩ v0).setCell ⟨b, 1, none⟩ v1).cell? ⟨c, j, none⟩ = some u := by
 rw [World.cell?_of_block (w := W) (heap2 v0 v1 hn)]; exact h
theorem role_list0 : rootN.toList = [114, 111, 111, 116] := by rw [ByteArray.toList_eq]; rfl
theorem role_list1 : snpN.toList = [115, 110, 97, 112, 115, 104, 111, 116] := by rw [ByteArray.toList_eq]; rfl
theorem role_list2 : tgtN.toList = [116, 97, 114, 103, 101, 116, 115] := by rw [ByteArray.toList_eq]; rfl
set_option maxHeartbeats 4000000 in
set_option maxRecDepth 100000 in
theorem rootAuthF (v e : Int) (l : List Key2) (t1 t2 t3 : Int) (d1 d2 d3 : List ByteArray) (ka i1 i2 i3 : Option Addr) (kc c1 c2 c3 : Nat) (role : ByteArray) (w : World) (hI : RootIn w 0 w.heap.size ⟨v, e, l, ⟨⟨t1, d1⟩, ⟨t2, d2⟩, ⟨t3, d3⟩⟩⟩ ka i1 i2 i3) (hf : RootFits ⟨v, e, l, ⟨⟨t1, d1⟩, ⟨t2, d2⟩, ⟨t3, d3⟩⟩⟩) (hT : TopsW w) :
   Calls Tryz.prog 30 #[.agg #[.int .i64 v, .int .i64 e, .slice ka l.length kc, .int .i64 t1, .slice i1 d1.length c1, .int .i64 t2, .slice i2 d2.length c2, .int .i64 t3, .slice i3 d3.length c3], .string role] w (AuthRPost (rootAuth ⟨v, e, l, ⟨⟨t1, d1⟩, ⟨t2, d2⟩, ⟨t3, d3⟩⟩⟩ role) w) := by
 obtain ⟨W, hW⟩ : ∃ W, W = (w.alloc (.cells #[.int .i64 v, .int .i64 e, .slice ka l.length kc, .int .i64 t1, .slice i1 d1.length c1, .int .i64 t2, .slice i2 d2.length c2, .int .i64 t3, .slice i3 d3.length c3] 32)).alloc (.cells #[.int .i64 0, .slice none 0 0] 30) := ⟨_, rfl⟩
 have hb : Below w.heap.size w W := by rw [hW]; exact ((Below.refl _ _).alloc (Nat.le_refl _) _).alloc (by simp) _
 have HX := Lib.hid (show W.heap[w.heap.size]? = some (.cells #[.int .i64 v, .int .i64 e, .slice ka l.length kc, .int .i64 t1, .slice i1 d1.length c1, .int .i64 t2, .slice i2 d2.length c2, .int .i64 t3, .slice i3 d3.length c3] 32 (0, 0)) by rw [hW]; exact heap_old w _ _)
 have hr0 : W.rowIs (w.heap.size + 1) 30 2 (pick2 (.int .i64 0) (.slice none 0 0)) := by
   have := rowIs_box2 (w.alloc (.cells #[.int .i64 v, .int .i64 e, .slice ka l.length kc, .int .i64 t1, .slice i1 d1.length c1, .int .i64 t2, .slice i2 d2.length c2, .int .i64 t3, .slice i3 d3.length c3] 32)) (.int .i64 0) (.slice none 0 0) 30
   rw [show (w.alloc (.cells #[.int .i64 v, .int .i64 e, .slice ka l.length kc, .int .i64 t1, .slice i1 d1.length c1, .int .i64 t2, .slice i2 d2.length c2, .int .i64 t3, .slice i3 d3.length c3] 32)).heap.size = w.heap.size + 1 by simp, ← hW] at this
   exact this
 have HR0 := Lib.hid hr0
 have HI := Lib.hid (show ∀ w' : World, Below w.heap.size w w' → RootIn w' 0 w'.heap.size ⟨v, e, l, ⟨⟨t1, d1⟩, ⟨t2, d2⟩, ⟨t3, d3⟩⟩⟩ ka i1 i2 i3 ∧ TopsW w' from fun w' h => ⟨hI.below h (Nat.le_refl _) (Nat.le_refl _) h.size, hT.below h⟩)
 have HF := Lib.hid hf
 have HB := Lib.hid hb
 have HW := Lib.hid hW
 have HAU := Lib.hid (rootAuths v e l t1 t2 t3 d1 d2 d3 ka i1 i2 i3 kc c1 c2 c3 W)
 unfold AuthsPost at HAU
 have HV := Lib.hid (show rootAuth ⟨v, e, l, ⟨⟨t1, d1⟩, ⟨t2, d2⟩, ⟨t3, d3⟩⟩⟩ role = if rootN = role then (⟨t1, d1⟩, true) else if snpN = role then (⟨t2, d2⟩, true) else if tgtN = role then (⟨t3, d3⟩, true) else (authZ, false) from rfl)
 obtain ⟨R, hR⟩ : ∃ R, R = rootAuth ⟨v, e, l, ⟨⟨t1, d1⟩, ⟨t2, d2⟩, ⟨t3, d3⟩⟩⟩ role := ⟨_, rfl⟩
 rw [← hR] at HV ⊢
 clear hI hf hb hW hT hr0 hR
 have x0 := box_cell HX.out (j := 0) rfl; have x1 := box_cell HX.out (j := 1) rfl; have x2 := box_cell HX.out (j := 2) rfl; have x3 := box_cell HX.out (j := 3) rfl; have x4 := box_cell HX.out (j := 4) rfl; have x5 := box_cell HX.out (j := 5) rfl; have x6 := box_cell HX.out (j := 6) rfl; have x7 := box_cell HX.out (j := 7) rfl; have x8 := box_cell HX.out (j := 8) rfl
 go_enter Tryz.func30, Tryz.ntmps30
 go_upto_region 1 with fail
 rw [← HW.out]
 clear HW
 go_wp2_with fail
 refine HAU.out.mono ?_
 clear HAU x0 x1 x2 x3 x4 x5 x6 x7 x8
 rintro r w1 ⟨rfl, hb1⟩
 replace HB := Lib.hid (HB.out.trans (hb1.mono HB.out.size))
 replace HR0 := Lib.hid (below_row hb1 HR0.out HR0.out.lt)
 clear hb1 HX
 go_wp2
 go_loopw [6, 7, 10] (fun _ _ i wr => Below w1.heap.size w1 wr ∧ ((i = .int .i64 0) ∨ (i = .int .i64 1 ∧ rootN ≠ role) ∨ (i = .int .i64 2 ∧ rootN ≠ role ∧ snpN ≠ role) ∨ (i = .int .i64 3 ∧ rootN ≠ role ∧ snpN ≠ role ∧ tgtN ≠ role))) (fun _ _ i _ => 3 - (intOf i).toNat)
 case atStart => exact ⟨Below.refl _ _, .inl rfl⟩
 case round =>
   obtain ⟨hbr, hcase⟩ := hrel
   have HBL := Lib.hid hbr
   have HBR := Lib.hid (HB.out.trans (hbr.mono HB.out.size))
   have HRR := Lib.hid (below_row hbr HR0.out HR0.out.lt)
   clear hbr
   rcases hcase with rfl | ⟨rfl, ha⟩ | ⟨rfl, ha, hb⟩ | ⟨rfl, ha, hb, hc⟩
   · have HH := Lib.hid (show True from trivial)
     skip
     obtain ⟨WX, hWX⟩ : ∃ WX, WX = wr.alloc (.cells #[.int .i64 t1, .slice i1 d1.length c1] 30) := ⟨_, rfl⟩
     have hbX : Below wr.heap.size wr WX := by rw [hWX]; exact (Below.refl _ _).alloc (Nat.le_refl _) _
     have hxX : WX.heap[wr.heap.size]? = some (.cells #[.int .i64 t1, .slice i1 d1.length c1] 30 (0, 0)) := by rw [hWX]; exact heap_alloc_new wr _
     have HBX := Lib.hid (HBR.out.trans (hbX.mono HBR.out.size))
     have HBLX := Lib.hid (HBL.out.trans (hbX.mono HBL.out.size))
     have HRX := Lib.hid (below_row hbX HRR.out HRR.out.lt)
     have HWX := Lib.hid hWX
     have ix := authsIdx0 t1 t2 t3 d1 d2 d3 i1 i2 i3 c1 c2 c3
     have gk := (HI.out WX HBX.out).2.c0
     clear hWX
     by_cases hr : rootN = role
     · have hc1 : ([114, 111, 111, 116] == role.toList) = true := by rw [← role_list0, ba_eq, decide_eq_true_eq]; exact hr
       have hc2 : (({ data := #[114, 111, 111, 116] } : ByteArray).toList == role.toList) = true := by rw [show ({ data := #[114, 111, 111, 116] } : ByteArray) = rootN from rfl, ba_eq, decide_eq_true_eq]; exact hr
       have HV2 := Lib.hid (show R = (⟨t1, d1⟩, true) by rw [HV.out, if_pos hr])
       have HCL := Lib.hid (show ∀ w' : World, Below WX.heap.size WX w' → Calls Tryz.prog 75 #[.slice i1 d1.length c1] w' (fun r w2 => ∃ ja jc, r = .returned (.slice ja d1.length jc) ∧ Hid (StrsAt w2 WX.heap.size w2.heap.size ja d1) ∧ Hid (Below WX.heap.size WX w2) ∧ Hid (w2.rowIs (w.heap.size + 1) 30 2 (pick2 (.int .i64 0) (.slice none 0 0))) ∧ w2.cell? ⟨w.heap.size + 1, 0, none⟩ = some (.int .i64 0) ∧ w2.cell? ⟨w.heap.size + 1, 1, none⟩ = some (.slice none 0 0) ∧ w2.frozen? ⟨w.heap.size + 1, 0, none⟩ = false ∧ w2.frozen? ⟨w.heap.size + 1, 1, none⟩ = false ∧ w2.cell? ⟨wr.heap.size, 0, none⟩ = some (.int .i64 t1) ∧ w2.cell? ⟨wr.heap.size, 1, none⟩ = some (.slice i1 d1.length c1)) from fun w' h => by
         have hbw := HBX.out.trans (h.mono HBX.out.size)
         refine (cloneStrs d1 i1 c1 w' w'.heap.size (HI.out w' hbw).1.a HF.out.a.2.1).mono ?_
         rintro r w2 ⟨ja, jc, rfl, -, hs, hb2⟩
         have h2 := h.trans (hb2.mono h.size)
         have g0 := (h2.block _ (heap_lt hxX)).trans hxX
         have hrow := below_row h2 HRX.out HRX.out.lt
         have e0 := hrow.cell (i := 0) (by decide); have e1 := hrow.cell (i := 1) (by decide)
         exact ⟨ja, jc, rfl, Lib.hid (hs.carry h.size (Nat.le_refl _) (fun _ _ _ => rfl)), Lib.hid h2, Lib.hid hrow, e0, e1, hrow.frozen 0, hrow.frozen 1, box_cell g0 rfl, box_cell g0 rfl⟩)
       have z0 := box_cell hxX (j := 0) rfl; have z1 := box_cell hxX (j := 1) rfl
       have hbz : Below WX.heap.size WX WX.drew := (Below.refl _ _).drew
       have HZX := Lib.hid (show w.heap.size + 1 < WX.heap.size from HRX.out.lt)
       have hnq : wr.heap.size ≠ w.heap.size + 1 := by have := HRR.out.lt; omega
       clear hr hbX hxX
       go_upto_region 4 with fail
       rw [← HWX.out]
       go_wp2_with fail
       go_region_held3 (fun w' => w'.cell? ⟨wr.heap.size, 0, none⟩ = some (.int .i64 t1) ∧ w'.cell? ⟨wr.heap.size, 1, none⟩ = some (.slice i1 d1.length c1)) (first | (with_reducible exact ⟨z0, z1⟩) | (with_reducible exact ⟨keep2 hnq z0, keep2 hnq z1⟩) | (go_keep; done)) (first | (go_at_call 75; (with_reducible refine (HCL.out _ hbz).mono ?_); rintro e w5 ⟨ja, jc, rfl, HS5, HB5, HR5, r0, r1, s0, s1, z0, z1⟩))
       all_goals
         clear z0 z1
         go_wp2
         refine bodyPost_ret (results_row_tmp Tryz.results30 _ _ (w.heap.size + 1) 30 _ (0, 0) _ rfl (row2_heap (set2 _ _ HR5.out)) Tryz.underlying30 rfl (by kernel_rfl) _ rfl) rfl ?_
         rw [HV2.out]
         exact ⟨ja, jc, rfl, HS5.out.carry (by have := HZX.out; omega) (Nat.le_of_eq size2.symm) (fun b h1 h2 => heap2 _ _ (by have := HZX.out; omega)), below2 _ _ (HBX.out.trans (HB5.out.mono HBX.out.size)) (by omega)⟩
     · have hc1 : ([114, 111, 111, 116] == role.toList) = false := by rw [← role_list0, ba_eq, decide_eq_false_iff_not]; exact hr
       have hc2 : (({ data := #[114, 111, 111, 116] } : ByteArray).toList == role.toList) = false := by rw [show ({ data := #[114, 111, 111, 116] } : ByteArray) = rootN from rfl, ba_eq, decide_eq_false_iff_not]; exact hr
       have HNR := Lib.hid hr
       clear hr hbX hxX
       go_upto_region 4 with fail
       rw [← HWX.out]
       go_wp2
       go_roundw
       case rel => exact ⟨HBLX.out, .inr (.inl ⟨rfl, HNR.out⟩)⟩
       case measure => simp [intOf]
   · have HH := Lib.hid (show True ∧ rootN ≠ role from ⟨trivial, ha⟩)
     clear ha
     obtain ⟨WX, hWX⟩ : ∃ WX, WX = wr.alloc (.cells #[.int .i64 t2, .slice i2 d2.length c2] 30) := ⟨_, rfl⟩
     have hbX : Below wr.heap.size wr WX := by rw [hWX]; exact (Below.refl _ _).alloc (Nat.le_refl _) _
     have hxX : WX.heap[wr.heap.size]? = some (.cells #[.int .i64 t2, .slice i2 d2.length c2] 30 (0, 0)) := by rw [hWX]; exact heap_alloc_new wr _
     have HBX := Lib.hid (HBR.out.trans (hbX.mono HBR.out.size))
     have HBLX := Lib.hid (HBL.out.trans (hbX.mono HBL.out.size))
     have HRX := Lib.hid (below_row hbX HRR.out HRR.out.lt)
     have HWX := Lib.hid hWX
     have ix := authsIdx1 t1 t2 t3 d1 d2 d3 i1 i2 i3 c1 c2 c3
     have gk := (HI.out WX HBX.out).2.c1
     clear hWX
     by_cases hr : snpN = role
     · have hc1 : ([115, 110, 97, 112, 115, 104, 111, 116] == role.toList) = true := by rw [← role_list1, ba_eq, decide_eq_true_eq]; exact hr
       have hc2 : (({ data := #[115, 110, 97, 112, 115, 104, 111, 116] } : ByteArray).toList == role.toList) = true := by rw [show ({ data := #[115, 110, 97, 112, 115, 104, 111, 116] } : ByteArray) = snpN from rfl, ba_eq, decide_eq_true_eq]; exact hr
       have HV2 := Lib.hid (show R = (⟨t2, d2⟩, true) by rw [HV.out, if_neg HH.out.2, if_pos hr])
       have HCL := Lib.hid (show ∀ w' : World, Below WX.heap.size WX w' → Calls Tryz.prog 75 #[.slice i2 d2.length c2] w' (fun r w2 => ∃ ja jc, r = .returned (.slice ja d2.length jc) ∧ Hid (StrsAt w2 WX.heap.size w2.heap.size ja d2) ∧ Hid (Below WX.heap.size WX w2) ∧ Hid (w2.rowIs (w.heap.size + 1) 30 2 (pick2 (.int .i64 0) (.slice none 0 0))) ∧ w2.cell? ⟨w.heap.size + 1, 0, none⟩ = some (.int .i64 0) ∧ w2.cell? ⟨w.heap.size + 1, 1, none⟩ = some (.slice none 0 0) ∧ w2.frozen? ⟨w.heap.size + 1, 0, none⟩ = false ∧ w2.frozen? ⟨w.heap.size + 1, 1, none⟩ = false ∧ w2.cell? ⟨wr.heap.size, 0, none⟩ = some (.int .i64 t2) ∧ w2.cell? ⟨wr.heap.size, 1, none⟩ = some (.slice i2 d2.length c2)) from fun w' h => by
         have hbw := HBX.out.trans (h.mono HBX.out.size)
         refine (cloneStrs d2 i2 c2 w' w'.heap.size (HI.out w' hbw).1.b HF.out.b.2.1).mono ?_
         rintro r w2 ⟨ja, jc, rfl, -, hs, hb2⟩
         have h2 := h.trans (hb2.mono h.size)
         have g0 := (h2.block _ (heap_lt hxX)).trans hxX
         have hrow := below_row h2 HRX.out HRX.out.lt
         have e0 := hrow.cell (i := 0) (by decide); have e1 := hrow.cell (i := 1) (by decide)
         exact ⟨ja, jc, rfl, Lib.hid (hs.carry h.size (Nat.le_refl _) (fun _ _ _ => rfl)), Lib.hid h2, Lib.hid hrow, e0, e1, hrow.frozen 0, hrow.frozen 1, box_cell g0 rfl, box_cell g0 rfl⟩)
       have z0 := box_cell hxX (j := 0) rfl; have z1 := box_cell hxX (j := 1) rfl
       have hbz : Below WX.heap.size WX WX.drew := (Below.refl _ _).drew
       have HZX := Lib.hid (show w.heap.size + 1 < WX.heap.size from HRX.out.lt)
       have hnq : wr.heap.size ≠ w.heap.size + 1 := by have := HRR.out.lt; omega
       clear hr hbX hxX
       go_upto_region 4 with fail
       rw [← HWX.out]
       go_wp2_with fail
       go_region_held3 (fun w' => w'.cell? ⟨wr.heap.size, 0, none⟩ = some (.int .i64 t2) ∧ w'.cell? ⟨wr.heap.size, 1, none⟩ = some (.slice i2 d2.length c2)) (first | (with_reducible exact ⟨z0, z1⟩) | (with_reducible exact ⟨keep2 hnq z0, keep2 hnq z1⟩) | (go_keep; done)) (first | (go_at_call 75; (with_reducible refine (HCL.out _ hbz).mono ?_); rintro e w5 ⟨ja, jc, rfl, HS5, HB5, HR5, r0, r1, s0, s1, z0, z1⟩))
       all_goals
         clear z0 z1
         go_wp2
         refine bodyPost_ret (results_row_tmp Tryz.results30 _ _ (w.heap.size + 1) 30 _ (0, 0) _ rfl (row2_heap (set2 _ _ HR5.out)) Tryz.underlying30 rfl (by kernel_rfl) _ rfl) rfl ?_
         rw [HV2.out]
         exact ⟨ja, jc, rfl, HS5.out.carry (by have := HZX.out; omega) (Nat.le_of_eq size2.symm) (fun b h1 h2 => heap2 _ _ (by have := HZX.out; omega)), below2 _ _ (HBX.out.trans (HB5.out.mono HBX.out.size)) (by omega)⟩
     · have hc1 : ([115, 110, 97, 112, 115, 104, 111, 116] == role.toList) = false := by rw [← role_list1, ba_eq, decide_eq_false_iff_not]; exact hr
       have hc2 : (({ data := #[115, 110, 97, 112, 115, 104, 111, 116] } : ByteArray).toList == role.toList) = false := by rw [show ({ data := #[115, 110, 97, 112, 115, 104, 111, 116] } : ByteArray) = snpN from rfl, ba_eq, decide_eq_false_iff_not]; exact hr
       have HNR := Lib.hid hr
       clear hr hbX hxX
       go_upto_region 4 with fail
       rw [← HWX.out]
       go_wp2
       go_roundw
       case rel => exact ⟨HBLX.out, .inr (.inr (.inl ⟨rfl, HH.out.2, HNR.out⟩))⟩
       case measure => simp [intOf]
   · have HH := Lib.hid (show True ∧ rootN ≠ role ∧ snpN ≠ role from ⟨trivial, ha, hb⟩)
     clear ha hb
     obtain ⟨WX, hWX⟩ : ∃ WX, WX = wr.alloc (.cells #[.int .i64 t3, .slice i3 d3.length c3] 30) := ⟨_, rfl⟩
     have hbX : Below wr.heap.size wr WX := by rw [hWX]; exact (Below.refl _ _).alloc (Nat.le_refl _) _
     have hxX : WX.heap[wr.heap.size]? = some (.cells #[.int .i64 t3, .slice i3 d3.length c3] 30 (0, 0)) := by rw [hWX]; exact heap_alloc_new wr _
     have HBX := Lib.hid (HBR.out.trans (hbX.mono HBR.out.size))
     have HBLX := Lib.hid (HBL.out.trans (hbX.mono HBL.out.size))
     have HRX := Lib.hid (below_row hbX HRR.out HRR.out.lt)
     have HWX := Lib.hid hWX
     have ix := authsIdx2 t1 t2 t3 d1 d2 d3 i1 i2 i3 c1 c2 c3
     have gk := (HI.out WX HBX.out).2.c2
     clear hWX
     by_cases hr : tgtN = role
     · have hc1 : ([116, 97, 114, 103, 101, 116, 115] == role.toList) = true := by rw [← role_list2, ba_eq, decide_eq_true_eq]; exact hr
       have hc2 : (({ data := #[116, 97, 114, 103, 101, 116, 115] } : ByteArray).toList == role.toList) = true := by rw [show ({ data := #[116, 97, 114, 103, 101, 116, 115] } : ByteArray) = tgtN from rfl, ba_eq, decide_eq_true_eq]; exact hr
       have HV2 := Lib.hid (show R = (⟨t3, d3⟩, true) by rw [HV.out, if_neg HH.out.2.1, if_neg HH.out.2.2, if_pos hr])
       have HCL := Lib.hid (show ∀ w' : World, Below WX.heap.size WX w' → Calls Tryz.prog 75 #[.slice i3 d3.length c3] w' (fun r w2 => ∃ ja jc, r = .returned (.slice ja d3.length jc) ∧ Hid (StrsAt w2 WX.heap.size w2.heap.size ja d3) ∧ Hid (Below WX.heap.size WX w2) ∧ Hid (w2.rowIs (w.heap.size + 1) 30 2 (pick2 (.int .i64 0) (.slice none 0 0))) ∧ w2.cell? ⟨w.heap.size + 1, 0, none⟩ = some (.int .i64 0) ∧ w2.cell? ⟨w.heap.size + 1, 1, none⟩ = some (.slice none 0 0) ∧ w2.frozen? ⟨w.heap.size + 1, 0, none⟩ = false ∧ w2.frozen? ⟨w.heap.size + 1, 1, none⟩ = false ∧ w2.cell? ⟨wr.heap.size, 0, none⟩ = some (.int .i64 t3) ∧ w2.cell? ⟨wr.heap.size, 1, none⟩ = some (.slice i3 d3.length c3)) from fun w' h => by
         have hbw := HBX.out.trans (h.mono HBX.out.size)
         refine (cloneStrs d3 i3 c3 w' w'.heap.size (HI.out w' hbw).1.c HF.out.c.2.1).mono ?_
         rintro r w2 ⟨ja, jc, rfl, -, hs, hb2⟩
         have h2 := h.trans (hb2.mono h.size)
         have g0 := (h2.block _ (heap_lt hxX)).trans hxX
         have hrow := below_row h2 HRX.out HRX.out.lt
         have e0 := hrow.cell (i := 0) (by decide); have e1 := hrow.cell (i := 1) (by decide)
         exact ⟨ja, jc, rfl, Lib.hid (hs.carry h.size (Nat.le_refl _) (fun _ _ _ => rfl)), Lib.hid h2, Lib.hid hrow, e0, e1, hrow.frozen 0, hrow.frozen 1, box_cell g0 rfl, box_cell g0 rfl⟩)
       have z0 := box_cell hxX (j := 0) rfl; have z1 := box_cell hxX (j := 1) rfl
       have hbz : Below WX.heap.size WX WX.drew := (Below.refl _ _).drew
       have HZX := Lib.hid (show w.heap.size + 1 < WX.heap.size from HRX.out.lt)
       have hnq : wr.heap.size ≠ w.heap.size + 1 := by have := HRR.out.lt; omega
       clear hr hbX hxX
       go_upto_region 4 with fail
       rw [← HWX.out]
       go_wp2_with fail
       go_region_held3 (fun w' => w'.cell? ⟨wr.heap.size, 0, none⟩ = some (.int .i64 t3) ∧ w'.cell? ⟨wr.heap.size, 1, none⟩ = some (.slice i3 d3.length c3)) (first | (with_reducible exact ⟨z0, z1⟩) | (with_reducible exact ⟨keep2 hnq z0, keep2 hnq z1⟩) | (go_keep; done)) (first | (go_at_call 75; (with_reducible refine (HCL.out _ hbz).mono ?_); rintro e w5 ⟨ja, jc, rfl, HS5, HB5, HR5, r0, r1, s0, s1, z0, z1⟩))
       all_goals
         clear z0 z1
         go_wp2
         refine bodyPost_ret (results_row_tmp Tryz.results30 _ _ (w.heap.size + 1) 30 _ (0, 0) _ rfl (row2_heap (set2 _ _ HR5.out)) Tryz.underlying30 rfl (by kernel_rfl) _ rfl) rfl ?_
         rw [HV2.out]
         exact ⟨ja, jc, rfl, HS5.out.carry (by have := HZX.out; omega) (Nat.le_of_eq size2.symm) (fun b h1 h2 => heap2 _ _ (by have := HZX.out; omega)), below2 _ _ (HBX.out.trans (HB5.out.mono HBX.out.size)) (by omega)⟩
     · have hc1 : ([116, 97, 114, 103, 101, 116, 115] == role.toList) = false := by rw [← role_list2, ba_eq, decide_eq_false_iff_not]; exact hr
       have hc2 : (({ data := #[116, 97, 114, 103, 101, 116, 115] } : ByteArray).toList == role.toList) = false := by rw [show ({ data := #[116, 97, 114, 103, 101, 116, 115] } : ByteArray) = tgtN from rfl, ba_eq, decide_eq_false_iff_not]; exact hr
       have HNR := Lib.hid hr
       clear hr hbX hxX
       go_upto_region 4 with fail
       rw [← HWX.out]
       go_wp2
       go_roundw
       case rel => exact ⟨HBLX.out, .inr (.inr (.inr ⟨rfl, HH.out.2.1, HH.out.2.2, HNR.out⟩))⟩
       case measure => simp [intOf]
   · have HV2 := Lib.hid (show R = (authZ, false) by rw [HV.out, if_neg ha, if_neg hb, if_neg hc])
     have hres := HRR.out
     have t0 := hres.cell (i := 0) (by decide); have t1 := hres.cell (i := 1) (by decide)
     have s0 := hres.frozen 0; have s1 := hres.frozen 1
     simp only [pick2] at t0 t1
     clear ha hb hc hres
     go_wp2
     refine bodyPost_ret (results_row_tmp Tryz.results30 _ _ (w.heap.size + 1) 30 _ (0, 0) _ rfl (row2_heap (set2 _ _ HRR.out)) Tryz.underlying30 rfl (by kernel_rfl) _ rfl) rfl ?_
     rw [HV2.out]
     exact ⟨none, 0, rfl, .inl rfl, below2 _ _ HBR.out (by omega)⟩
end Go.Proofs.YtnlgmcapbbgelaaGreatDoor

namespace Go.Proofs.YtnlgmcapbbgelaaGreatDoor
open Go.RowKit
set_option maxHeartbeats 1000000 in
set_option maxRecDepth 100000 in
theorem ref14Same (l m : List Key2) (a b : Option Addr) (c d : Nat) (w : World) (hA : KeysAt w 0 w.heap.size a l) (hB : KeysAt w 0 w.heap.size b m) (hl : l.length ≤ 4294967296) (_hm : m.length ≤ 4294967296) :
   Calls Tryz.prog 61 #[.slice a l.length c, .slice b m.length d] w fun e w' => e = .returned (.bool (decide (l = m))) ∧ Below w.heap.size w w' := by
 have HA := Lib.hid hA
 have HB := Lib.hid hB
 clear hA hB
 by_cases hlm : l.length = m.length
 case neg =>
   have h1 : ((l.length : Int) != (m.length : Int)) = true := by simp; omega
   have HD := Lib.hid (show decide (l = m) = false from decide_eq_false fun e => hlm (by rw [e]))
   go_enter Tryz.func61, Tryz.ntmps61
   go_wp2
   go_ret
   exact ⟨by rw [HD.out]; rfl, Below.refl _ _⟩
 obtain ⟨n, hn⟩ : ∃ n, n = l.length := ⟨_, rfl⟩
 have HNL := Lib.hid hn
 have HNM := Lib.hid (show n = m.length by rw [hn, hlm])
 rw [← hlm, ← hn]
 have hnb : n ≤ 4294967296 := by omega
 clear hlm hn hl
 go_enter Tryz.func61, Tryz.ntmps61
 go_wp2_with fail
 go_loopw [5] (fun i wr => ∃ k : Nat, k ≤ n ∧ i = .int .i64 k ∧ l.take k = m.take k ∧ Below w.heap.size w wr) (fun i _ => n - (intOf i).toNat)
 case atStart => exact ⟨0, by omega, rfl, rfl, Below.refl _ _⟩
 case round =>
   obtain ⟨k, hk, rfl, htk, hbk⟩ := hrel
   have HTK := Lib.hid htk
   have HBK := Lib.hid hbk
   clear htk hbk
   by_cases hlt : k < n
   · have hkl : k < l.length := by rw [← HNL.out]; exact hlt
     have hkm : k < m.length := by rw [← HNM.out]; exact hlt
     obtain ⟨p, f, ha, _, hp, e0, e1⟩ := (HA.out.below HBK.out (Nat.le_refl _) (Nat.le_refl _) (Nat.le_refl _)).at k hkl
     subst ha
     obtain ⟨q, g, ha, _, hq, f0, f1⟩ := (HB.out.below HBK.out (Nat.le_refl _) (Nat.le_refl _) (Nat.le_refl _)).at k hkm
     subst ha
     have HTS := Lib.hid (show l[k] = m[k] → l.take (k + 1) = m.take (k + 1) from fun e => by rw [List.take_succ_eq_append_getElem hkl, List.take_succ_eq_append_getElem hkm, HTK.out, e])
     have HNE := Lib.hid (show l[k] ≠ m[k] → decide (l = m) = false from fun e => decide_eq_false fun e2 => e (by subst e2; rfl))
     obtain ⟨x, hx⟩ : ∃ x : Key2, x = l[k] := ⟨_, rfl⟩
     obtain ⟨y, hy⟩ : ∃ y : Key2, y = m[k] := ⟨_, rfl⟩
     replace e0 := e0.trans (congrArg (fun z : Key2 => some (Value.string z.1)) hx.symm)
     replace e1 := e1.trans (congrArg (fun z : Key2 => some (Value.string z.2)) hx.symm)
     replace f0 := f0.trans (congrArg (fun z : Key2 => some (Value.string z.1)) hy.symm)
     replace f1 := f1.trans (congrArg (fun z : Key2 => some (Value.string z.2)) hy.symm)
     rw [← hx, ← hy] at HTS HNE
     clear hx hy
     obtain ⟨xs, xp⟩ := x
     obtain ⟨ys, yp⟩ := y
     replace e0 : wr.cell? ⟨p, f + k * 2, none⟩ = some (.string xs) := e0
     replace e1 : wr.cell? ⟨p, f + k * 2 + 1, none⟩ = some (.string xp) := e1
     replace f0 : wr.cell? ⟨q, g + k * 2, none⟩ = some (.string ys) := f0
     replace f1 : wr.cell? ⟨q, g + k * 2 + 1, none⟩ = some (.string yp) := f1
     have m1 : (0 : Int) ≤ (k : Int) := by omega
     have m2 : (k : Int) < (n : Int) := by omega
     have m3 : decide ((k : Int) < (n : Int)) = true := by simpa using hlt
     cases h1 : (xs.toList == ys.toList)
     · have HR := Lib.hid (HNE.out fun e => by rw [(Prod.mk.inj e).1] at h1; simp at h1)
       go_wp2_with fail
       go_quiet (fail)
       go_wp2
       go_ret
       exact ⟨by rw [HR.out]; rfl, Below.drewN HBK.out _⟩
     · cases h2 : (xp.toList == yp.toList)
       · have HR := Lib.hid (HNE.out fun e => by rw [(Prod.mk.inj e).2] at h2; simp at h2)
         go_wp2_with fail
         go_quiet (fail)
         go_wp2
         go_ret
         exact ⟨by rw [HR.out]; rfl, Below.drewN HBK.out _⟩
       · have HR := Lib.hid (HTS.out (by rw [ba_ext (eq_of_beq h1), ba_ext (eq_of_beq h2)]))
         go_wp2_with fail
         go_quiet (fail)
         go_wp2
         go_roundw
         case rel => exact ⟨k + 1, by omega, by go_num, HR.out, Below.drewN HBK.out _⟩
         case measure => simp [intOf]; omega
   · have m3 : decide ((k : Int) < (n : Int)) = false := by simpa using hlt
     have HR := Lib.hid (show decide (l = m) = true from decide_eq_true (by
       have := HTK.out
       rwa [List.take_of_length_le (by rw [← HNL.out]; omega), List.take_of_length_le (by rw [← HNM.out]; omega)] at this))
     go_wp2
     go_ret
     exact ⟨by rw [HR.out]; rfl, HBK.out⟩
end Go.Proofs.YtnlgmcapbbgelaaGreatDoor

namespace Go.Proofs.YtnlgmcapbbgelaaGreatDoor
open Go.RowKit Go.Shelf Go.Sort
set_option maxHeartbeats 2000000 in
set_option maxRecDepth 100000 in
theorem ref15Same (t u : Int) (l m : List ByteArray) (a b : Option Addr) (c d : Nat) (w : World) (hA : StrsAt w 0 w.heap.size a l) (hB : StrsAt w 0 w.heap.size b m) (hl : l.length ≤ 4294967296) (_hm : m.length ≤ 4294967296) :
   Calls Tryz.prog 31 #[.agg #[.int .i64 t, .slice a l.length c], .agg #[.int .i64 u, .slice b m.length d]] w fun e w' => e = .returned (.bool (decide ((⟨t, l⟩ : AuthV) = ⟨u, m⟩))) ∧ Below w.heap.size w w' := by
 obtain ⟨W, hW⟩ : ∃ W, W = (w.alloc (.cells #[.int .i64 t, .slice a l.length c] 30)).alloc (.cells #[.int .i64 u, .slice b m.length d] 30) := ⟨_, rfl⟩
 have hb : Below w.heap.size w W := by rw [hW]; exact ((Below.refl _ _).alloc (Nat.le_refl _) _).alloc (by simp) _
 have hx : W.heap[w.heap.size]? = some (.cells #[.int .i64 t, .slice a l.length c] 30 (0, 0)) := by rw [hW]; exact heap_old w _ _
 have hy : W.heap[w.heap.size + 1]? = some (.cells #[.int .i64 u, .slice b m.length d] 30 (0, 0)) := by rw [hW]; exact heap_two w _ _
 have HC := Lib.hid (show ∀ w' : World, Below W.heap.size W w' → w'.cell? ⟨w.heap.size, 0, none⟩ = some (.int .i64 t) ∧ w'.cell? ⟨w.heap.size, 1, none⟩ = some (.slice a l.length c) ∧ w'.cell? ⟨w.heap.size + 1, 0, none⟩ = some (.int .i64 u) ∧ w'.cell? ⟨w.heap.size + 1, 1, none⟩ = some (.slice b m.length d) from fun w' h => by
   have h1 := (h.block _ (heap_lt hx)).trans hx
   have h2 := (h.block _ (heap_lt hy)).trans hy
   exact ⟨box_cell h1 rfl, box_cell h1 rfl, box_cell h2 rfl, box_cell h2 rfl⟩)
 have HB := Lib.hid hb
 have HW := Lib.hid hW
 have HA := Lib.hid (hA.below hb (Nat.le_refl _) (Nat.le_refl _) hb.size)
 have HBB := Lib.hid (hB.below hb (Nat.le_refl _) (Nat.le_refl _) hb.size)
 have HV := Lib.hid (show decide ((⟨t, l⟩ : AuthV) = ⟨u, m⟩) = (decide (t = u) && decide (l = m)) by
   by_cases h1 : t = u <;> by_cases h2 : l = m <;> simp [h1, h2])
 obtain ⟨q, hq⟩ : ∃ q, q = decide ((⟨t, l⟩ : AuthV) = ⟨u, m⟩) := ⟨_, rfl⟩
 rw [← hq] at HV ⊢
 clear hb hW hx hy hA hB hq
 obtain ⟨x0, x1, y0, y1⟩ := HC.out W (Below.refl _ _)
 by_cases h : t = u
 case neg =>
   have n1 : (t != u) = true := by simpa using h
   rw [decide_eq_false h, Bool.false_and] at HV
   clear h
   go_enter Tryz.func31, Tryz.ntmps31
   go_upto_region 1 with fail
   rw [← HW.out]
   go_wp2
   go_ret
   exact ⟨ret_bool HV.out.symm, HB.out⟩
 have n1 : (t != u) = false := by simpa using h
 rw [decide_eq_true h, Bool.true_and] at HV
 clear h
 by_cases hlm : l.length = m.length
 case neg =>
   have n2 : ((l.length : Int) != (m.length : Int)) = true := by simp; omega
   have HD := Lib.hid (show q = false by rw [HV.out]; exact decide_eq_false fun e => hlm (by rw [e]))
   clear hlm
   go_enter Tryz.func31, Tryz.ntmps31
   go_upto_region 1 with fail
   rw [← HW.out]
   go_wp2
   go_ret
   exact ⟨ret_bool HD.out.symm, HB.out⟩
 obtain ⟨n, hn⟩ : ∃ n, n = l.length := ⟨_, rfl⟩
 have HNL := Lib.hid hn
 have HNM := Lib.hid (show n = m.length by rw [hn, hlm])
 rw [← hlm, ← hn] at HC HW y1
 rw [← hn] at x1 ⊢
 rw [← hlm, ← hn]
 have hnb : n ≤ 4294967296 := by omega
 have n2 : ((n : Int) != (n : Int)) = false := by simp
 clear hlm hn hl
 go_enter Tryz.func31, Tryz.ntmps31
 go_upto_region 1 with fail
 rw [← HW.out]
 clear HW
 go_wp2_with fail
 clear x0 x1 y0 y1
 go_loopw [5] (fun i wr => ∃ k : Nat, k ≤ n ∧ i = .int .i64 k ∧ l.take k = m.take k ∧ Below W.heap.size W wr) (fun i _ => n - (intOf i).toNat)
 case atStart => exact ⟨0, by omega, rfl, rfl, Below.refl _ _⟩
 case round =>
   obtain ⟨k, hk, rfl, htk, hbk⟩ := hrel
   have HTK := Lib.hid htk
   have HBK := Lib.hid hbk
   obtain ⟨x0, x1, y0, y1⟩ := HC.out wr hbk
   clear htk hbk
   by_cases hlt : k < n
   · have hkl : k < l.length := by rw [← HNL.out]; exact hlt
     have hkm : k < m.length := by rw [← HNM.out]; exact hlt
     obtain ⟨p, f, ha, _, hp, e0⟩ := (HA.out.below HBK.out (Nat.le_refl _) (Nat.le_refl _) (Nat.le_refl _)).at k hkl
     subst ha
     obtain ⟨q2, g, ha, _, hq2, f0⟩ := (HBB.out.below HBK.out (Nat.le_refl _) (Nat.le_refl _) (Nat.le_refl _)).at k hkm
     subst ha
     have HTS := Lib.hid (show l[k] = m[k] → l.take (k + 1) = m.take (k + 1) from fun e => by rw [List.take_succ_eq_append_getElem hkl, List.take_succ_eq_append_getElem hkm, HTK.out, e])
     have HNE := Lib.hid (show l[k] ≠ m[k] → decide (l = m) = false from fun e => decide_eq_false fun e2 => e (by subst e2; rfl))
     obtain ⟨x, hx⟩ : ∃ x : ByteArray, x = l[k] := ⟨_, rfl⟩
     obtain ⟨y, hy⟩ : ∃ y : ByteArray, y = m[k] := ⟨_, rfl⟩
     replace e0 := e0.trans (congrArg (fun z : ByteArray => some (Value.string z)) hx.symm)
     replace f0 := f0.trans (congrArg (fun z : ByteArray => some (Value.string z)) hy.symm)
     rw [← hx, ← hy] at HTS HNE
     clear hx hy
     have m1 : (0 : Int) ≤ (k : Int) := by omega
     have m2 : (k : Int) < (n : Int) := by omega
     have m3 : decide ((k : Int) < (n : Int)) = true := by simpa using hlt
     cases h1 : (x.toList == y.toList)
     · have HR := Lib.hid (show q = false by rw [HV.out]; exact HNE.out fun e => by rw [e] at h1; simp at h1)
       go_wp2_with fail
       go_quiet (fail)
       go_wp2
       go_ret
       exact ⟨ret_bool HR.out.symm, Below.drewN (HB.out.trans (HBK.out.mono HB.out.size)) _⟩
     · have HEQ := Lib.hid (HTS.out (by rw [ba_eq, decide_eq_true_eq] at h1; exact h1))
       go_wp2_with fail
       go_quiet (fail)
       go_wp2
       go_roundw
       case rel => exact ⟨k + 1, by omega, by go_num, HEQ.out, Below.drewN HBK.out _⟩
       case measure => simp [intOf]; omega
   · obtain rfl : k = n := by omega
     have HR := Lib.hid (show q = true by
       rw [HV.out]
       have := HTK.out
       rw [List.take_of_length_le (by rw [← HNL.out]; exact Nat.le_refl _), List.take_of_length_le (by rw [← HNM.out]; exact Nat.le_refl _)] at this
       exact decide_eq_true this)
     go_wp2
     go_ret
     exact ⟨ret_bool HR.out.symm, HB.out.trans (HBK.out.mono HB.out.size)⟩
set_option maxHeartbeats 4000000 in
set_option maxRecDepth 100000 in
theorem ref22Same (v e : Int) (l : List Key2) (t1 t2 t3 : Int) (d1 d2 d3 : List ByteArray) (ka i1 i2 i3 : Option Addr) (kc c1 c2 c3 : Nat) (v2 e2 : Int) (l2 : List Key2) (u1 u2 u3 : Int) (f1 f2 f3 : List ByteArray) (kb h1 h2 h3 : Option Addr) (kd g1 g2 g3 : Nat) (w : World) (hI : RootIn w 0 w.heap.size ⟨v, e, l, ⟨⟨t1, d1⟩, ⟨t2, d2⟩, ⟨t3, d3⟩⟩⟩ ka i1 i2 i3) (hJ : RootIn w 0 w.heap.size ⟨v2, e2, l2, ⟨⟨u1, f1⟩, ⟨u2, f2⟩, ⟨u3, f3⟩⟩⟩ kb h1 h2 h3) (hf : RootFits ⟨v, e, l, ⟨⟨t1, d1⟩, ⟨t2, d2⟩, ⟨t3, d3⟩⟩⟩) (hg : RootFits ⟨v2, e2, l2, ⟨⟨u1, f1⟩, ⟨u2, f2⟩, ⟨u3, f3⟩⟩⟩) :
   Calls Tryz.prog 14 #[.agg #[.int .i64 v, .int .i64 e, .slice ka l.length kc, .int .i64 t1, .slice i1 d1.length c1, .int .i64 t2, .slice i2 d2.length c2, .int .i64 t3, .slice i3 d3.length c3], .agg #[.int .i64 v2, .int .i64 e2, .slice kb l2.length kd, .int .i64 u1, .slice h1 f1.length g1, .int .i64 u2, .slice h2 f2.length g2, .int .i64 u3, .slice h3 f3.length g3]] w fun r w' => r = .returned (.bool (sameRoot ⟨v, e, l, ⟨⟨t1, d1⟩, ⟨t2, d2⟩, ⟨t3, d3⟩⟩⟩ ⟨v2, e2, l2, ⟨⟨u1, f1⟩, ⟨u2, f2⟩, ⟨u3, f3⟩⟩⟩)) ∧ Below w.heap.size w w' := by
 obtain ⟨W, hW⟩ : ∃ W, W = (w.alloc (.cells #[.int .i64 v, .int .i64 e, .slice ka l.length kc, .int .i64 t1, .slice i1 d1.length c1, .int .i64 t2, .slice i2 d2.length c2, .int .i64 t3, .slice i3 d3.length c3] 32)).alloc (.cells #[.int .i64 v2, .int .i64 e2, .slice kb l2.length kd, .int .i64 u1, .slice h1 f1.length g1, .int .i64 u2, .slice h2 f2.length g2, .int .i64 u3, .slice h3 f3.length g3] 32) := ⟨_, rfl⟩
 have hb : Below w.heap.size w W := by rw [hW]; exact ((Below.refl _ _).alloc (Nat.le_refl _) _).alloc (by simp) _
 have HX := Lib.hid (show W.heap[w.heap.size]? = some (.cells #[.int .i64 v, .int .i64 e, .slice ka l.length kc, .int .i64 t1, .slice i1 d1.length c1, .int .i64 t2, .slice i2 d2.length c2, .int .i64 t3, .slice i3 d3.length c3] 32 (0, 0)) by rw [hW]; exact heap_old w _ _)
 have HY := Lib.hid (show W.heap[w.heap.size + 1]? = some (.cells #[.int .i64 v2, .int .i64 e2, .slice kb l2.length kd, .int .i64 u1, .slice h1 f1.length g1, .int .i64 u2, .slice h2 f2.length g2, .int .i64 u3, .slice h3 f3.length g3] 32 (0, 0)) by rw [hW]; exact heap_two w _ _)
 have HV := Lib.hid (sameRoot_parts ⟨v, e, l, ⟨⟨t1, d1⟩, ⟨t2, d2⟩, ⟨t3, d3⟩⟩⟩ ⟨v2, e2, l2, ⟨⟨u1, f1⟩, ⟨u2, f2⟩, ⟨u3, f3⟩⟩⟩)
 dsimp only at HV
 have HI := Lib.hid (show ∀ w' : World, Below w.heap.size w w' → RootIn w' 0 w'.heap.size ⟨v, e, l, ⟨⟨t1, d1⟩, ⟨t2, d2⟩, ⟨t3, d3⟩⟩⟩ ka i1 i2 i3 ∧ RootIn w' 0 w'.heap.size ⟨v2, e2, l2, ⟨⟨u1, f1⟩, ⟨u2, f2⟩, ⟨u3, f3⟩⟩⟩ kb h1 h2 h3 from fun w' h => ⟨hI.below h (Nat.le_refl _) (Nat.le_refl _) h.size, hJ.below h (Nat.le_refl _) (Nat.le_refl _) h.size⟩)
 have HF := Lib.hid (And.intro hf hg)
 have HB := Lib.hid hb
 have HW := Lib.hid hW
 have HEK := Lib.hid (ref14Same l l2 ka kb kc kd W (hI.below hb (Nat.le_refl _) (Nat.le_refl _) hb.size).keys (hJ.below hb (Nat.le_refl _) (Nat.le_refl _) hb.size).keys (by have : l.length ≤ 40 := hf.len; omega) (by have : l2.length ≤ 40 := hg.len; omega))
 obtain ⟨m0, hm0⟩ : ∃ m0, m0 = sameRoot ⟨v, e, l, ⟨⟨t1, d1⟩, ⟨t2, d2⟩, ⟨t3, d3⟩⟩⟩ ⟨v2, e2, l2, ⟨⟨u1, f1⟩, ⟨u2, f2⟩, ⟨u3, f3⟩⟩⟩ := ⟨_, rfl⟩
 rw [← hm0] at HV ⊢
 clear hm0 hI hJ hf hg hb hW
 have x0 := box_cell HX.out (j := 0) rfl; have x1 := box_cell HX.out (j := 1) rfl; have x2 := box_cell HX.out (j := 2) rfl; have x3 := box_cell HX.out (j := 3) rfl; have x4 := box_cell HX.out (j := 4) rfl; have x5 := box_cell HX.out (j := 5) rfl; have x6 := box_cell HX.out (j := 6) rfl; have x7 := box_cell HX.out (j := 7) rfl; have x8 := box_cell HX.out (j := 8) rfl; have y0 := box_cell HY.out (j := 0) rfl; have y1 := box_cell HY.out (j := 1) rfl; have y2 := box_cell HY.out (j := 2) rfl; have y3 := box_cell HY.out (j := 3) rfl; have y4 := box_cell HY.out (j := 4) rfl; have y5 := box_cell HY.out (j := 5) rfl; have y6 := box_cell HY.out (j := 6) rfl; have y7 := box_cell HY.out (j := 7) rfl; have y8 := box_cell HY.out (j := 8) rfl
 by_cases n1 : v = v2
 case neg =>
   have q1 : (v == v2) = false := by simpa using n1
   rw [decide_eq_false n1] at HV
   simp only [Bool.false_and] at HV
   clear n1
   go_enter Tryz.func14, Tryz.ntmps14
   go_upto_region 1 with fail
   rw [← HW.out]
   go_wp2
   go_ret
   exact ⟨ret_bool HV.out.symm, HB.out⟩
 have q1 : (v == v2) = true := by simpa using n1
 rw [decide_eq_true n1, Bool.true_and] at HV
 by_cases n2 : e = e2
 case neg =>
   have q2 : (e == e2) = false := by simpa using n2
   rw [decide_eq_false n2] at HV
   simp only [Bool.false_and] at HV
   clear n1 n2
   go_enter Tryz.func14, Tryz.ntmps14
   go_upto_region 1 with fail
   rw [← HW.out]
   go_wp2
   go_ret
   exact ⟨ret_bool HV.out.symm, HB.out⟩
 have q2 : (e == e2) = true := by simpa using n2
 rw [decide_eq_true n2, Bool.true_and] at HV
 clear n1 n2
 obtain ⟨ek, hek⟩ : ∃ ek, ek = decide (l = l2) := ⟨_, rfl⟩
 rw [← hek] at HEK HV
 clear hek
 go_enter Tryz.func14, Tryz.ntmps14
 go_upto_region 1 with fail
 rw [← HW.out]
 clear HW
 go_wp2_with fail
 refine HEK.out.mono ?_
 clear HEK
 clear x0 y0 x1 y1 x2 y2 x3 y3 x4 y4 x5 y5 x6 y6 x7 y7 x8 y8
 rintro r w1 ⟨rfl, hb1⟩
 replace HB := Lib.hid (HB.out.trans (hb1.mono HB.out.size))
 replace HX := Lib.hid ((hb1.block _ (heap_lt HX.out)).trans HX.out)
 replace HY := Lib.hid ((hb1.block _ (heap_lt HY.out)).trans HY.out)
 clear hb1
 cases ek with
 | false =>
   simp only [Bool.false_and] at HV
   go_wp2
   go_ret
   exact ⟨ret_bool HV.out.symm, HB.out⟩
 | true =>
   rw [Bool.true_and] at HV
   have HS := Lib.hid (ref15Same t1 u1 d1 f1 i1 h1 c1 g1 w1 (HI.out w1 HB.out).1.a (HI.out w1 HB.out).2.a HF.out.1.a.2.1 HF.out.2.a.2.1)
   obtain ⟨sb, hsb⟩ : ∃ sb, sb = decide ((⟨t1, d1⟩ : AuthV) = ⟨u1, f1⟩) := ⟨_, rfl⟩
   rw [← hsb] at HS HV
   clear hsb
   have x0 := box_cell HX.out (j := 0) rfl; have x1 := box_cell HX.out (j := 1) rfl; have x2 := box_cell HX.out (j := 2) rfl; have x3 := box_cell HX.out (j := 3) rfl; have x4 := box_cell HX.out (j := 4) rfl; have x5 := box_cell HX.out (j := 5) rfl; have x6 := box_cell HX.out (j := 6) rfl; have x7 := box_cell HX.out (j := 7) rfl; have x8 := box_cell HX.out (j := 8) rfl; have y0 := box_cell HY.out (j := 0) rfl; have y1 := box_cell HY.out (j := 1) rfl; have y2 := box_cell HY.out (j := 2) rfl; have y3 := box_cell HY.out (j := 3) rfl; have y4 := box_cell HY.out (j := 4) rfl; have y5 := box_cell HY.out (j := 5) rfl; have y6 := box_cell HY.out (j := 6) rfl; have y7 := box_cell HY.out (j := 7) rfl; have y8 := box_cell HY.out (j := 8) rfl
   go_wp2_with fail
   refine HS.out.mono ?_
   clear HS
   clear x0 y0 x1 y1 x2 y2 x3 y3 x4 y4 x5 y5 x6 y6 x7 y7 x8 y8
   rintro r w2 ⟨rfl, hb1⟩
   replace HB := Lib.hid (HB.out.trans (hb1.mono HB.out.size))
   replace HX := Lib.hid ((hb1.block _ (heap_lt HX.out)).trans HX.out)
   replace HY := Lib.hid ((hb1.block _ (heap_lt HY.out)).trans HY.out)
   clear hb1
   cases sb with
   | false =>
     simp only [Bool.false_and] at HV
     go_wp2
     go_ret
     exact ⟨ret_bool HV.out.symm, HB.out⟩
   | true =>
     rw [Bool.true_and] at HV
     have HS := Lib.hid (ref15Same t2 u2 d2 f2 i2 h2 c2 g2 w2 (HI.out w2 HB.out).1.b (HI.out w2 HB.out).2.b HF.out.1.b.2.1 HF.out.2.b.2.1)
     obtain ⟨sb, hsb⟩ : ∃ sb, sb = decide ((⟨t2, d2⟩ : AuthV) = ⟨u2, f2⟩) := ⟨_, rfl⟩
     rw [← hsb] at HS HV
     clear hsb
     have x0 := box_cell HX.out (j := 0) rfl; have x1 := box_cell HX.out (j := 1) rfl; have x2 := box_cell HX.out (j := 2) rfl; have x3 := box_cell HX.out (j := 3) rfl; have x4 := box_cell HX.out (j := 4) rfl; have x5 := box_cell HX.out (j := 5) rfl; have x6 := box_cell HX.out (j := 6) rfl; have x7 := box_cell HX.out (j := 7) rfl; have x8 := box_cell HX.out (j := 8) rfl; have y0 := box_cell HY.out (j := 0) rfl; have y1 := box_cell HY.out (j := 1) rfl; have y2 := box_cell HY.out (j := 2) rfl; have y3 := box_cell HY.out (j := 3) rfl; have y4 := box_cell HY.out (j := 4) rfl; have y5 := box_cell HY.out (j := 5) rfl; have y6 := box_cell HY.out (j := 6) rfl; have y7 := box_cell HY.out (j := 7) rfl; have y8 := box_cell HY.out (j := 8) rfl
     go_wp2_with fail
     refine HS.out.mono ?_
     clear HS
     clear x0 y0 x1 y1 x2 y2 x3 y3 x4 y4 x5 y5 x6 y6 x7 y7 x8 y8
     rintro r w3 ⟨rfl, hb1⟩
     replace HB := Lib.hid (HB.out.trans (hb1.mono HB.out.size))
     replace HX := Lib.hid ((hb1.block _ (heap_lt HX.out)).trans HX.out)
     replace HY := Lib.hid ((hb1.block _ (heap_lt HY.out)).trans HY.out)
     clear hb1
     cases sb with
     | false =>
       simp only [Bool.false_and] at HV
       go_wp2
       go_ret
       exact ⟨ret_bool HV.out.symm, HB.out⟩
     | true =>
       rw [Bool.true_and] at HV
       have HS := Lib.hid (ref15Same t3 u3 d3 f3 i3 h3 c3 g3 w3 (HI.out w3 HB.out).1.c (HI.out w3 HB.out).2.c HF.out.1.c.2.1 HF.out.2.c.2.1)
       obtain ⟨sb, hsb⟩ : ∃ sb, sb = decide ((⟨t3, d3⟩ : AuthV) = ⟨u3, f3⟩) := ⟨_, rfl⟩
       rw [← hsb] at HS HV
       clear hsb
       have x0 := box_cell HX.out (j := 0) rfl; have x1 := box_cell HX.out (j := 1) rfl; have x2 := box_cell HX.out (j := 2) rfl; have x3 := box_cell HX.out (j := 3) rfl; have x4 := box_cell HX.out (j := 4) rfl; have x5 := box_cell HX.out (j := 5) rfl; have x6 := box_cell HX.out (j := 6) rfl; have x7 := box_cell HX.out (j := 7) rfl; have x8 := box_cell HX.out (j := 8) rfl; have y0 := box_cell HY.out (j := 0) rfl; have y1 := box_cell HY.out (j := 1) rfl; have y2 := box_cell HY.out (j := 2) rfl; have y3 := box_cell HY.out (j := 3) rfl; have y4 := box_cell HY.out (j := 4) rfl; have y5 := box_cell HY.out (j := 5) rfl; have y6 := box_cell HY.out (j := 6) rfl; have y7 := box_cell HY.out (j := 7) rfl; have y8 := box_cell HY.out (j := 8) rfl
       go_wp2_with fail
       refine HS.out.mono ?_
       clear HS
       clear x0 y0 x1 y1 x2 y2 x3 y3 x4 y4 x5 y5 x6 y6 x7 y7 x8 y8
       rintro r w4 ⟨rfl, hb1⟩
       replace HB := Lib.hid (HB.out.trans (hb1.mono HB.out.size))
       replace HX := Lib.hid ((hb1.block _ (heap_lt HX.out)).trans HX.out)
       replace HY := Lib.hid ((hb1.block _ (heap_lt HY.out)).trans HY.out)
       clear hb1
       cases sb with
       | false =>
         go_wp2
         go_ret
         exact ⟨ret_bool HV.out.symm, HB.out⟩
       | true =>
         go_wp2
         go_ret
         exact ⟨ret_bool HV.out.symm, HB.out⟩
end Go.Proofs.YtnlgmcapbbgelaaGreatDoor
