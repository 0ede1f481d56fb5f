/- The contract of snap.PinOf, of an object without hashes. Printed by genpinof.py. -/
import Derived.Test.YtgghgcilpfdbjaaGreatDoorSy16
import Derived.Test.YtgghgcilpfdbjaaGreatDoorSy08
import Derived.Test.YtgghgcilpfdbjaaGreatDoorSy01

namespace Go.Proofs.YtgghgcilpfdbjaaGreatDoor
open Go.RowKit
theorem PickAt.touch {o m lo hi g : Nat} {v : JV} {an ai : Option Addr} {cn ci : Nat} {st : PS} {w w' : World} (h : PickAt o m lo hi v an ai cn ci st w) (hT : Touch (fun b => b = g) w w') (ho : g ≠ o) (hm : g ≠ m) (hh : hi ≤ g) : PickAt o m lo hi v an ai cn ci st w' := by
 have hlo : o < w.heap.size := heap_lt h.obj
 refine ⟨by rw [hT.block o hlo (fun e => ho e.symm)]; exact h.obj, ?_, ?_, h.pos, h.out, Nat.le_trans h.le hT.size, h.kind, h.rise, h.len, h.wt⟩
 · obtain ⟨D, n, h1, h2, h3⟩ := h.map
   exact ⟨D, n, h1.kept (row := some g) ⟨hT.os, hT.tape, hT.output, hT.size, fun k hk hn => hT.block k hk (fun e => hn (by rw [e]))⟩ (fun e => hm (Option.some.inj e).symm), h2, h3⟩
 · exact Rep.carry (Nat.le_refl _) (Nat.le_refl _) (fun k _ hk => hT.block k (Nat.lt_of_lt_of_le hk h.le) (by omega)) _ _ h.rep
theorem touch_put {w : World} {g j : Nat} (u : Value) : Touch (fun b => b = g) w (w.setCell ⟨g, j, none⟩ u) := Touch.setCell (S := fun b => b = g) (p := ⟨g, j, none⟩) (Touch.refl _ _) (.inl rfl) u
theorem roleErr_0 {f : ByteArray} (h : roleErr f = 0) : (roleOf f).isNone = false := by
 unfold roleErr at h; split at h
 · cases hq : roleOf f <;> simp_all
 · omega
theorem roleErr_1 {f : ByteArray} (h : ¬ roleErr f = 0) : (roleOf f).isNone = true := by
 unfold roleErr at h; split at h
 · omega
 · cases hq : roleOf f <;> simp_all
theorem num_size {v : JV} {y : ByteArray} {l h : Int} {st : PS} : (pickNum v y l h st).2.asked.length ≤ st.asked.length + 1 := by
 unfold pickNum
 split
 · simp
 split
 · simp
 split
 · simp
 split <;> simp
set_option maxHeartbeats 4000000 in
set_option maxRecDepth 100000 in
theorem snapPinOf (f : ByteArray) (v : JV) (x : Value) (w : World) (lo hi : Nat) (hN : v.wt ≤ 4294967296) (hlo : 0 < lo) (hhi : hi ≤ w.heap.size) (hR : Rep w lo hi v x) (hk : v.kind = 5) (hh : v.look hasN = none) (hf : f.size ≤ 9223372036854775807) :
   Calls Tryz.prog 29 #[.string f, x] w fun e w' => e = .returned (.tuple #[.agg #[.string (pinOfJ f v).1.name, .int .i64 (pinOfJ f v).1.ver, .int .i64 (pinOfJ f v).1.len, .slice none 0 0], .int .i64 (pinOfJ f v).2]) ∧ Below w.heap.size w w' := by
 obtain ⟨an, cn, ai, ci, hx, h1, h2, h3, h4⟩ := hR.parts
 clear h1 h2 h3 h4
 subst hx
 obtain ⟨W2, hW2⟩ : ∃ W2, W2 = (w.alloc (.cells #[.int .u8 v.kind, .int .i64 v.n, .string v.t, .slice an v.names.length cn, .slice ai v.items.length ci] 30)).alloc (.cells #[.string { data := #[] }, .int .i64 0, .int .i64 0, .slice none 0 0] 36) := ⟨_, rfl⟩
 have hz1 : (w.alloc (.cells #[.int .u8 v.kind, .int .i64 v.n, .string v.t, .slice an v.names.length cn, .slice ai v.items.length ci] 30)).heap.size = w.heap.size + 1 := by simp
 have hz2 : W2.heap.size = w.heap.size + 2 := by rw [hW2]; simp
 have hb2 : Below w.heap.size w W2 := by rw [hW2]; exact ((Below.refl _ _).alloc (Nat.le_refl _) _).alloc (by simp) _
 have hx0 : W2.heap[w.heap.size]? = some (.cells #[.int .u8 v.kind, .int .i64 v.n, .string v.t, .slice an v.names.length cn, .slice ai v.items.length ci] 30 (0, 0)) := by rw [hW2, Below.heap_alloc _ _ _ (by simp)]; exact heap_alloc_new w _
 have hr0 : W2.rowIs (w.heap.size + 1) 36 4 (pick4 (.string { data := #[] }) (.int .i64 0) (.int .i64 0) (.slice none 0 0)) := by
   have := rowIs_box4 (w.alloc (.cells #[.int .u8 v.kind, .int .i64 v.n, .string v.t, .slice an v.names.length cn, .slice ai v.items.length ci] 30)) (.string { data := #[] }) (.int .i64 0) (.int .i64 0) (.slice none 0 0) 36
   rw [hz1, ← hW2] at this
   exact this
 have HRN := Lib.hid (nameRoleOf f W2 hf)
 have HM := Lib.hid (valueMay v _ W2 hN (hR.below hb2 hhi (Nat.zero_le _) (by omega)))
 have HR := Lib.hid hR
 have HLO := Lib.hid (And.intro hlo hhi)
 have HW := Lib.hid hW2
 have HB2 := Lib.hid hb2
 have HX0 := Lib.hid hx0
 have HR0 := Lib.hid hr0
 have HZ := Lib.hid hz2
 have HK := Lib.hid hk
 have HH := Lib.hid hh
 clear hR hlo hhi hW2 hb2 hx0 hr0 hz1 hz2 hh
 have c0 : W2.cell? ⟨w.heap.size, 0, none⟩ = some (.int .u8 v.kind) := box_cell HX0.out rfl
 have c1 : W2.cell? ⟨w.heap.size, 1, none⟩ = some (.int .i64 v.n) := box_cell HX0.out rfl
 have c2 : W2.cell? ⟨w.heap.size, 2, none⟩ = some (.string v.t) := box_cell HX0.out rfl
 have c3 : W2.cell? ⟨w.heap.size, 3, none⟩ = some (.slice an v.names.length cn) := box_cell HX0.out rfl
 have c4 : W2.cell? ⟨w.heap.size, 4, none⟩ = some (.slice ai v.items.length ci) := box_cell HX0.out rfl
 by_cases hre : roleErr f = 0
 · have HRE := Lib.hid (roleErr_0 hre)
   rw [hre] at HRN
   clear hre
   cases hm : v.mayB
   · have HX := Lib.hid (show pinOfJ f v = (pinZ, 3) by unfold pinOfJ; rw [HRE.out, hm]; rfl)
     rw [hm] at HM
     clear hm hk
     go_enter Tryz.func29, Tryz.ntmps29
     go_upto_region 1 with fail
     rw [← HW.out]
     go_wp2_with fail
     refine HRN.out.mono ?_
     rintro e w' ⟨rfl, h'⟩
     subst h'
     go_wp2_with fail
     refine HM.out.mono ?_
     rintro e w1 ⟨rfl, hb1⟩
     have hr := below_row hb1 HR0.out HR0.out.lt
     have HBE := Lib.hid (HB2.out.trans (hb1.mono HB2.out.size))
     have t0 := hr.cell (i := 0) (by decide); have t1 := hr.cell (i := 1) (by decide); have t2 := hr.cell (i := 2) (by decide); have t3 := hr.cell (i := 3) (by decide); have s0 := hr.frozen 0; have s1 := hr.frozen 1; have s2 := hr.frozen 2; have s3 := hr.frozen 3
     simp only [pick4] at t0 t1 t2 t3
     have HRS := Lib.hid hr
     clear hr hb1
     go_wp2
     refine bodyPost_ret (results_row_tmp Tryz.results29 _ _ (w.heap.size + 1) 36 _ (0, 0) _ rfl (row4_heap (set4 _ _ _ _ HRS.out)) Tryz.underlying36 rfl (by kernel_rfl) _ rfl) rfl ⟨?_, below4 _ _ _ _ HBE.out (by omega)⟩
     rw [HX.out]; rfl
   · have HMB := Lib.hid hm
     obtain ⟨hri, hle, htx⟩ := may_obj hm hk
     rw [hm] at HM
     clear hm
     obtain ⟨A, hA⟩ : ∃ A, A = pickNum v verN 1 1099511627776 ⟨[], 0⟩ := ⟨_, rfl⟩
     have hAs : A.2.asked.length ≤ 1 := by rw [hA]; exact num_size
     have HA := Lib.hid hA
     have HAS := Lib.hid hAs
     have HTS := Lib.hid (show ∀ i (h : i < v.names.length), v.names[i].size ≤ 4294967296 from fun i hi => by
       have := List.all_eq_true.1 htx _ (List.getElem_mem hi)
       unfold txtOk at this; simp at this; omega)
     have HRL := Lib.hid (And.intro hri hle)
     have HS0 := Lib.hid (show pinOfJ f v = if pickDone v (if pickHas v lenN A.2 then pickNum v lenN 0 1099511627776 A.2 else (-1, A.2)).2 ≠ 0 then (pinZ, pickDone v (if pickHas v lenN A.2 then pickNum v lenN 0 1099511627776 A.2 else (-1, A.2)).2) else (⟨f, A.1, (if pickHas v lenN A.2 then pickNum v lenN 0 1099511627776 A.2 else (-1, A.2)).1, []⟩, 0) by
       unfold pinOfJ; rw [HRE.out, HMB.out, if_neg (by simp), if_neg (by simp [hk]), hA])
     clear hA hAs hri hle htx hk
     go_enter Tryz.func29, Tryz.ntmps29
     go_upto_region 1 with fail
     rw [← HW.out]
     go_wp2_with fail
     refine HRN.out.mono ?_
     rintro e w' ⟨rfl, h'⟩
     subst h'
     go_wp2_with fail
     refine HM.out.mono ?_
     clear HM c0 c1 c2 c3 c4
     rintro e w1 ⟨rfl, hb1⟩
     have hx1 := (hb1.block _ (heap_lt HX0.out)).trans HX0.out
     have HB1 := Lib.hid (HB2.out.trans (hb1.mono HB2.out.size))
     have HR1 := Lib.hid (below_row hb1 HR0.out HR0.out.lt)
     have HZ1 := Lib.hid (show w.heap.size + 2 ≤ w1.heap.size from by have := hb1.size; have := HZ.out; omega)
     have c0 : w1.cell? ⟨w.heap.size, 0, none⟩ = some (.int .u8 v.kind) := box_cell hx1 rfl
     have c1 : w1.cell? ⟨w.heap.size, 1, none⟩ = some (.int .i64 v.n) := box_cell hx1 rfl
     have c2 : w1.cell? ⟨w.heap.size, 2, none⟩ = some (.string v.t) := box_cell hx1 rfl
     have c3 : w1.cell? ⟨w.heap.size, 3, none⟩ = some (.slice an v.names.length cn) := box_cell hx1 rfl
     have c4 : w1.cell? ⟨w.heap.size, 4, none⟩ = some (.slice ai v.items.length ci) := box_cell hx1 rfl
     have HOF := Lib.hid (pickOf_good v _ w1 lo hi hN (by have := HLO.out; have := HZ1.out; omega) (HR.out.below HB1.out HLO.out.2 (Nat.le_refl _) (Nat.le_refl _)) HK.out HRL.out.1 HRL.out.2 (fun _ _ => .inl HLO.out.1))
     clear hb1 hx1
     go_wp2_with fail
     refine HOF.out.mono ?_
     clear HOF c0 c1 c2 c3 c4
     rintro e w2 ⟨o, m, lo2, hi2, an2, ai2, cn2, ci2, rfl, hp2, ho2, hm2, hb2⟩
     obtain ⟨W3, hW3⟩ : ∃ W3, W3 = w2.alloc (.cells #[.string f, .int .i64 0, .int .i64 (-1), .slice none 0 0] 36) := ⟨_, rfl⟩
     have hb3 : Below w2.heap.size w2 W3 := by rw [hW3]; exact (Below.refl _ _).alloc (Nat.le_refl _) _
     have hq3 : W3.rowIs w2.heap.size 36 4 (pick4 (.string f) (.int .i64 0) (.int .i64 (-1)) (.slice none 0 0)) := by rw [hW3]; exact rowIs_box4 _ _ _ _ _ _
     have hoz : o < w2.heap.size := heap_lt hp2.obj
     have hmz : m < w2.heap.size := by obtain ⟨D, n, h, _⟩ := hp2.map; exact h.lt
     have HO := Lib.hid (And.intro (show o < w2.heap.size ∧ m < w2.heap.size ∧ hi2 ≤ w2.heap.size from ⟨hoz, hmz, hp2.le⟩) (show w1.heap.size ≤ o ∧ w1.heap.size ≤ m from ⟨ho2, hm2⟩))
     have HP3 := Lib.hid (hp2.below hb3)
     have HR3 := Lib.hid (below_row (hb2.trans (hb3.mono hb2.size)) HR1.out HR1.out.lt)
     have HB3 := Lib.hid (HB1.out.trans ((hb2.trans (hb3.mono hb2.size)).mono (by have := HZ1.out; omega)))
     have HQ3 := Lib.hid hq3
     have HW3 := Lib.hid hW3
     have HZ3 := Lib.hid (show w2.heap.size < W3.heap.size ∧ w1.heap.size ≤ w2.heap.size from ⟨hq3.lt, hb2.size⟩)
     have HN3 := Lib.hid (pickNumF o m lo2 hi2 v an2 ai2 cn2 ci2 verN 1 1099511627776 ⟨[], 0⟩ W3 HP3.out (by decide) (by simp) (by have := HO.out; have := HZ3.out; omega) (by have := HO.out; have := HZ3.out; omega))
     clear hp2 ho2 hm2 hb2 hW3 hb3 hq3 hoz hmz HR1 HB1
     go_upto_region 6 with fail
     rw [← HW3.out]
     go_wp2_with fail
     refine HN3.out.mono ?_
     clear HN3
     rintro e w3 ⟨rfl, hp3, ht3⟩
     rw [← HA.out] at hp3 ⊢
     have hr3 := ht3.row HR3.out (by have := HO.out; have := HZ1.out; omega)
     have hq3 := ht3.row HQ3.out (by have := HO.out; omega)
     have HB4 := Lib.hid (HB3.out.trans (ht3.below (by have := HZ1.out; have := HZ3.out; omega) (fun k hk e => by have := HO.out; have := HZ1.out; omega)))
     obtain ⟨W4, hW4⟩ : ∃ W4, W4 = w3.setCell ⟨w2.heap.size, 1, none⟩ (.int .i64 A.1) := ⟨_, rfl⟩
     have ht4 : Touch (fun b => b = w2.heap.size) w3 W4 := by rw [hW4]; exact touch_put _
     have hp4 := hp3.touch ht4 (by have := HO.out; omega) (by have := HO.out; omega) HO.out.1.2.2
     have hr4 := ht4.row hr3 (by have := HZ1.out; have := HZ3.out; omega)
     have hq4 : W4.rowIs w2.heap.size 36 4 (pick4 (.string f) (.int .i64 A.1) (.int .i64 (-1)) (.slice none 0 0)) := by
       rw [hW4]
       refine (hq3.set 1 (.int .i64 A.1)).congr fun j hj => ?_
       rcases j with _ | _ | _ | _ | j <;> first | rfl | omega
     have u1 := hq3.cell (i := 1) (by decide)
     have f1 := hq3.frozen 1
     simp only [pick4] at u1
     have HPa := Lib.hid hp4
     have HRa := Lib.hid hr4
     have HQa := Lib.hid hq4
     have HBa := Lib.hid (show Below w.heap.size w W4 from by rw [hW4]; exact HB4.out.setCell (by show w.heap.size ≤ w2.heap.size; have := HZ1.out; have := HZ3.out; omega) _)
     have HW4 := Lib.hid hW4
     have HZ4 := Lib.hid (show w2.heap.size < W4.heap.size from hq4.lt)
     clear hp3 ht3 hr3 hq3 ht4 hp4 hr4 hq4 hW4 HP3 HR3 HB3 HQ3
     go_upto_region 7 with fail
     rw [← HW4.out]
     clear u1 f1
     have HHL := Lib.hid (pickHasF o m lo2 hi2 v an2 ai2 cn2 ci2 lenN A.2 W4 HPa.out)
     cases hl : pickHas v lenN A.2
     · have HS := Lib.hid (show pinOfJ f v = if pickDone v A.2 ≠ 0 then (pinZ, pickDone v A.2) else (⟨f, A.1, -1, []⟩, 0) by have h := HS0.out; rw [hl] at h; exact h)
       rw [hl] at HHL
       clear hl HS0
       go_wp2_with fail
       refine HHL.out.mono ?_
       clear HHL
       rintro e wa ⟨rfl, hb⟩
       replace HPa := Lib.hid (HPa.out.below hb)
       replace HRa := Lib.hid (below_row hb HRa.out HRa.out.lt)
       replace HQa := Lib.hid (below_row hb HQa.out HQa.out.lt)
       replace HBa := Lib.hid (HBa.out.trans (hb.mono HBa.out.size))
       clear hb
       have HHS := Lib.hid (pickHasF o m lo2 hi2 v an2 ai2 cn2 ci2 hasN A.2 wa HPa.out)
       rw [show pickHas v hasN A.2 = false by unfold pickHas; rw [HH.out]; simp] at HHS
       go_wp2_with fail
       refine HHS.out.mono ?_
       clear HHS
       rintro e wb ⟨rfl, hb⟩
       have HDO := Lib.hid (pickDoneF o m lo2 hi2 v an2 ai2 cn2 ci2 A.2 wb (HPa.out.below hb) HTS.out)
       have HRb := Lib.hid (below_row hb HRa.out HRa.out.lt)
       have HQb := Lib.hid (below_row hb HQa.out HQa.out.lt)
       have HBE := Lib.hid (HBa.out.trans (hb.mono HBa.out.size))
       clear hb
       obtain ⟨dn, hdn⟩ : ∃ dn, dn = pickDone v A.2 := ⟨_, rfl⟩
       rw [← hdn] at HDO
       have HDN := Lib.hid hdn
       clear hdn
       go_wp2_with fail
       refine HDO.out.mono ?_
       clear HDO
       rintro e w' ⟨rfl, h'⟩
       subst h'
       by_cases hd : dn = 0
       · have HX := Lib.hid (show pinOfJ f v = (⟨f, A.1, -1, []⟩, 0) by rw [HS.out, ← HDN.out, hd]; rfl)
         subst hd
         have hr := HRb.out; have hq := HQb.out
         have t0 := hr.cell (i := 0) (by decide); have t1 := hr.cell (i := 1) (by decide); have t2 := hr.cell (i := 2) (by decide); have t3 := hr.cell (i := 3) (by decide); have s0 := hr.frozen 0; have s1 := hr.frozen 1; have s2 := hr.frozen 2; have s3 := hr.frozen 3; have z0 := hq.cell (i := 0) (by decide); have z1 := hq.cell (i := 1) (by decide); have z2 := hq.cell (i := 2) (by decide); have z3 := hq.cell (i := 3) (by decide)
         simp only [pick4] at t0 t1 t2 t3 z0 z1 z2 z3
         have HRS := Lib.hid hr
         clear hr hq
         go_wp2
         refine bodyPost_ret (results_row_tmp Tryz.results29 _ _ (w.heap.size + 1) 36 _ (0, 0) _ rfl (row4_heap (set4 _ _ _ _ HRS.out)) Tryz.underlying36 rfl (by kernel_rfl) _ rfl) rfl ⟨?_, below4 _ _ _ _ HBE.out (by omega)⟩
         rw [HX.out]; rfl
       · have HX := Lib.hid (show pinOfJ f v = (pinZ, dn) by rw [HS.out, ← HDN.out]; simp [hd])
         have hd1 : (dn == 0) = false := by simpa using hd
         have hd2 : (dn != 0) = true := by simpa using hd
         clear hd
         have hr := HRb.out
         have t0 := hr.cell (i := 0) (by decide); have t1 := hr.cell (i := 1) (by decide); have t2 := hr.cell (i := 2) (by decide); have t3 := hr.cell (i := 3) (by decide); have s0 := hr.frozen 0; have s1 := hr.frozen 1; have s2 := hr.frozen 2; have s3 := hr.frozen 3
         simp only [pick4] at t0 t1 t2 t3
         have HRS := Lib.hid hr
         clear hr
         go_wp2
         refine bodyPost_ret (results_row_tmp Tryz.results29 _ _ (w.heap.size + 1) 36 _ (0, 0) _ rfl (row4_heap (set4 _ _ _ _ HRS.out)) Tryz.underlying36 rfl (by kernel_rfl) _ rfl) rfl ⟨?_, below4 _ _ _ _ HBE.out (by omega)⟩
         rw [HX.out]; rfl
     · obtain ⟨B, hB⟩ : ∃ B, B = pickNum v lenN 0 1099511627776 A.2 := ⟨_, rfl⟩
       have HS := Lib.hid (show pinOfJ f v = if pickDone v B.2 ≠ 0 then (pinZ, pickDone v B.2) else (⟨f, A.1, B.1, []⟩, 0) by have h := HS0.out; rw [hl, if_pos rfl, ← hB] at h; exact h)
       rw [hl] at HHL
       have HB := Lib.hid hB
       clear hl HS0 hB
       go_wp2_with fail
       refine HHL.out.mono ?_
       clear HHL
       rintro e w4 ⟨rfl, hb⟩
       have HN5 := Lib.hid (pickNumF o m lo2 hi2 v an2 ai2 cn2 ci2 lenN 0 1099511627776 A.2 w4 (HPa.out.below hb) (by decide) (by have := HAS.out; omega) (by have := HO.out; have := hb.size; have := HZ4.out; omega) (by have := HO.out; have := hb.size; have := HZ4.out; omega))
       have HR5 := Lib.hid (below_row hb HRa.out HRa.out.lt)
       have HQ5 := Lib.hid (below_row hb HQa.out HQa.out.lt)
       have HB5 := Lib.hid (HBa.out.trans (hb.mono HBa.out.size))
       have HZ5 := Lib.hid (show W4.heap.size ≤ w4.heap.size from hb.size)
       clear hb HPa HRa HQa HBa
       go_wp2_with fail
       refine HN5.out.mono ?_
       clear HN5
       rintro e w5 ⟨rfl, hp5, ht5⟩
       rw [← HB.out] at hp5 ⊢
       have hr5 := ht5.row HR5.out (by have := HO.out; have := HZ1.out; omega)
       have hq5 := ht5.row HQ5.out (by have := HO.out; omega)
       have HB6 := Lib.hid (HB5.out.trans (ht5.below (by have := HZ1.out; have := HZ3.out; have := HZ4.out; have := HZ5.out; omega) (fun k hk e => by have := HO.out; have := HZ1.out; omega)))
       obtain ⟨wa, hW6⟩ : ∃ W6, W6 = w5.setCell ⟨w2.heap.size, 2, none⟩ (.int .i64 B.1) := ⟨_, rfl⟩
       have ht6 : Touch (fun b => b = w2.heap.size) w5 wa := by rw [hW6]; exact touch_put _
       have hp6 := hp5.touch ht6 (by have := HO.out; omega) (by have := HO.out; omega) HO.out.1.2.2
       have hr6 := ht6.row hr5 (by have := HZ1.out; have := HZ3.out; omega)
       have hq6 : wa.rowIs w2.heap.size 36 4 (pick4 (.string f) (.int .i64 A.1) (.int .i64 B.1) (.slice none 0 0)) := by
         rw [hW6]
         refine (hq5.set 2 (.int .i64 B.1)).congr fun j hj => ?_
         rcases j with _ | _ | _ | _ | j <;> first | rfl | omega
       have u1 := hq5.cell (i := 2) (by decide)
       have f1 := hq5.frozen 2
       simp only [pick4] at u1
       have HPa := Lib.hid hp6
       have HRa := Lib.hid hr6
       have HQa := Lib.hid hq6
       have HBa := Lib.hid (show Below w.heap.size w wa from by rw [hW6]; exact HB6.out.setCell (by show w.heap.size ≤ w2.heap.size; have := HZ1.out; have := HZ3.out; omega) _)
       have HW6 := Lib.hid hW6
       clear hp5 ht5 hr5 hq5 ht6 hp6 hr6 hq6 hW6 HR5 HQ5 HB5
       go_upto_region 9 with fail
       rw [← HW6.out]
       clear u1 f1
       have HHS := Lib.hid (pickHasF o m lo2 hi2 v an2 ai2 cn2 ci2 hasN B.2 wa HPa.out)
       rw [show pickHas v hasN B.2 = false by unfold pickHas; rw [HH.out]; simp] at HHS
       go_wp2_with fail
       refine HHS.out.mono ?_
       clear HHS
       rintro e wb ⟨rfl, hb⟩
       have HDO := Lib.hid (pickDoneF o m lo2 hi2 v an2 ai2 cn2 ci2 B.2 wb (HPa.out.below hb) HTS.out)
       have HRb := Lib.hid (below_row hb HRa.out HRa.out.lt)
       have HQb := Lib.hid (below_row hb HQa.out HQa.out.lt)
       have HBE := Lib.hid (HBa.out.trans (hb.mono HBa.out.size))
       clear hb
       obtain ⟨dn, hdn⟩ : ∃ dn, dn = pickDone v B.2 := ⟨_, rfl⟩
       rw [← hdn] at HDO
       have HDN := Lib.hid hdn
       clear hdn
       go_wp2_with fail
       refine HDO.out.mono ?_
       clear HDO
       rintro e w' ⟨rfl, h'⟩
       subst h'
       by_cases hd : dn = 0
       · have HX := Lib.hid (show pinOfJ f v = (⟨f, A.1, B.1, []⟩, 0) by rw [HS.out, ← HDN.out, hd]; rfl)
         subst hd
         have hr := HRb.out; have hq := HQb.out
         have t0 := hr.cell (i := 0) (by decide); have t1 := hr.cell (i := 1) (by decide); have t2 := hr.cell (i := 2) (by decide); have t3 := hr.cell (i := 3) (by decide); have s0 := hr.frozen 0; have s1 := hr.frozen 1; have s2 := hr.frozen 2; have s3 := hr.frozen 3; have z0 := hq.cell (i := 0) (by decide); have z1 := hq.cell (i := 1) (by decide); have z2 := hq.cell (i := 2) (by decide); have z3 := hq.cell (i := 3) (by decide)
         simp only [pick4] at t0 t1 t2 t3 z0 z1 z2 z3
         have HRS := Lib.hid hr
         clear hr hq
         go_wp2
         refine bodyPost_ret (results_row_tmp Tryz.results29 _ _ (w.heap.size + 1) 36 _ (0, 0) _ rfl (row4_heap (set4 _ _ _ _ HRS.out)) Tryz.underlying36 rfl (by kernel_rfl) _ rfl) rfl ⟨?_, below4 _ _ _ _ HBE.out (by omega)⟩
         rw [HX.out]; rfl
       · have HX := Lib.hid (show pinOfJ f v = (pinZ, dn) by rw [HS.out, ← HDN.out]; simp [hd])
         have hd1 : (dn == 0) = false := by simpa using hd
         have hd2 : (dn != 0) = true := by simpa using hd
         clear hd
         have hr := HRb.out
         have t0 := hr.cell (i := 0) (by decide); have t1 := hr.cell (i := 1) (by decide); have t2 := hr.cell (i := 2) (by decide); have t3 := hr.cell (i := 3) (by decide); have s0 := hr.frozen 0; have s1 := hr.frozen 1; have s2 := hr.frozen 2; have s3 := hr.frozen 3
         simp only [pick4] at t0 t1 t2 t3
         have HRS := Lib.hid hr
         clear hr
         go_wp2
         refine bodyPost_ret (results_row_tmp Tryz.results29 _ _ (w.heap.size + 1) 36 _ (0, 0) _ rfl (row4_heap (set4 _ _ _ _ HRS.out)) Tryz.underlying36 rfl (by kernel_rfl) _ rfl) rfl ⟨?_, below4 _ _ _ _ HBE.out (by omega)⟩
         rw [HX.out]; rfl
 · have HX := Lib.hid (show pinOfJ f v = (pinZ, 3) by unfold pinOfJ; rw [roleErr_1 hre]; rfl)
   obtain ⟨re, hre'⟩ : ∃ re, re = roleErr f := ⟨_, rfl⟩
   rw [← hre'] at hre HRN
   have hd1 : (re == 0) = false := by simpa using hre
   have hd2 : (re != 0) = true := by simpa using hre
   have hr := HR0.out
   have t0 := hr.cell (i := 0) (by decide); have t1 := hr.cell (i := 1) (by decide); have t2 := hr.cell (i := 2) (by decide); have t3 := hr.cell (i := 3) (by decide); have s0 := hr.frozen 0; have s1 := hr.frozen 1; have s2 := hr.frozen 2; have s3 := hr.frozen 3
   simp only [pick4] at t0 t1 t2 t3
   have HRS := Lib.hid hr
   have HBE := Lib.hid HB2.out
   clear hr hre hre' hk
   go_enter Tryz.func29, Tryz.ntmps29
   go_upto_region 1 with fail
   rw [← HW.out]
   go_wp2_with fail
   refine HRN.out.mono ?_
   rintro e w' ⟨rfl, h'⟩
   subst h'
   go_wp2
   refine bodyPost_ret (results_row_tmp Tryz.results29 _ _ (w.heap.size + 1) 36 _ (0, 0) _ rfl (row4_heap (set4 _ _ _ _ HRS.out)) Tryz.underlying36 rfl (by kernel_rfl) _ rfl) rfl ⟨?_, below4 _ _ _ _ HBE.out (by omega)⟩
   rw [HX.out]; rfl
end Go.Proofs.YtgghgcilpfdbjaaGreatDoor
