/- The contracts of legatelaw15.Long (of three authorities) and of legatelaw22.Long: what is not long is few, and short. Printed by genlong22.py. -/
import Derived.Test.YtnlgmcapbbgelaaGreatDoorRb19
import Derived.Test.YtnlgmcapbbgelaaGreatDoorRb20
import Derived.Test.YtnlgmcapbbgelaaGreatDoorRb01

namespace Go.Proofs.YtnlgmcapbbgelaaGreatDoor
open Go.RowKit Go.WideMaps Go.Maps
set_option maxHeartbeats 1000000 in
set_option maxRecDepth 100000 in
theorem keyOfW (v : JV) (x : Value) (w : World) (hi : Nat) (hN : v.wt ≤ 4294967296) (hhi : hi ≤ w.heap.size) (hR : Rep w 0 hi v x) :
   Calls Tryz.prog 106 #[x] w (KeyOfPost v w) := by
 obtain ⟨an, cn, ai, ci, hx, h1, h2, h3, h4⟩ := hR.parts
 have HR := Lib.hid hR
 clear h1 h2 h3 h4 hR
 subst hx
 have HB0 := Lib.hid (show Below w.heap.size w ((w.alloc (.cells #[.int .u8 v.kind, .int .i64 v.n, .string v.t, .slice an v.names.length cn, .slice ai v.items.length ci] 25)).alloc (.cells #[.string { data := #[] }, .string { data := #[] }] 38)) from ((Below.refl _ _).alloc (Nat.le_refl _) _).alloc (by simp) _)
 have HX0 := Lib.hid (show ((w.alloc (.cells #[.int .u8 v.kind, .int .i64 v.n, .string v.t, .slice an v.names.length cn, .slice ai v.items.length ci] 25)).alloc (.cells #[.string { data := #[] }, .string { data := #[] }] 38)).heap[w.heap.size]? = some (.cells #[.int .u8 v.kind, .int .i64 v.n, .string v.t, .slice an v.names.length cn, .slice ai v.items.length ci] 25 (0, 0)) by rw [Below.heap_alloc _ _ _ (by simp)]; exact heap_alloc_new w _)
 have hr0 := rowIs_box2 (w.alloc (.cells #[.int .u8 v.kind, .int .i64 v.n, .string v.t, .slice an v.names.length cn, .slice ai v.items.length ci] 25)) (.string { data := #[] }) (.string { data := #[] }) 38
 rw [show (w.alloc (.cells #[.int .u8 v.kind, .int .i64 v.n, .string v.t, .slice an v.names.length cn, .slice ai v.items.length ci] 25)).heap.size = w.heap.size + 1 by simp] at hr0
 have HR0 := Lib.hid hr0
 clear hr0
 have HM := Lib.hid (valueMay v _ ((w.alloc (.cells #[.int .u8 v.kind, .int .i64 v.n, .string v.t, .slice an v.names.length cn, .slice ai v.items.length ci] 25)).alloc (.cells #[.string { data := #[] }, .string { data := #[] }] 38)) hN (HR.out.below HB0.out hhi (Nat.zero_le _) (by simp; omega)))
 cases hm : v.mayB
 · have HX := Lib.hid (show keyOfJ v = (({ data := #[] }, { data := #[] }), 3) by unfold keyOfJ; rw [if_pos hm])
   rw [hm] at HM
   clear hm
   go_enter Tryz.func106, Tryz.ntmps106
   go_wp2_with fail
   refine HM.out.mono ?_
   rintro e w1 ⟨rfl, hb1⟩
   have hres := below_row hb1 HR0.out (by simp)
   have HRS := Lib.hid hres
   have HB1 := Lib.hid (HB0.out.trans (hb1.mono (by simp; omega)))
   have t0 := hres.cell (i := 0) (by decide); have t1 := hres.cell (i := 1) (by decide)
   have s0 := hres.frozen 0; have s1 := hres.frozen 1
   simp only [pick2] at t0 t1
   clear hres hb1
   go_wp2
   refine bodyPost_ret (results_row_tmp Tryz.results106 _ _ (w.heap.size + 1) 38 _ (0, 0) _ rfl (row2_heap (set2 _ _ HRS.out)) Tryz.underlying38 rfl (by kernel_rfl) _ rfl) rfl ⟨?_, below2 _ _ HB1.out (by omega)⟩
   rw [HX.out]; rfl
 · rw [hm] at HM
   have HMB := Lib.hid hm
   clear hm
   by_cases hk : v.kind = 5
   · obtain ⟨hri, hle, htx⟩ := may_obj HMB.out hk
     obtain ⟨st1, hst1⟩ : ∃ r, r = pickText v pubN ⟨[], 0⟩ := ⟨_, rfl⟩
     obtain ⟨st2, hst2⟩ : ∃ r, r = pickText v schN st1.2 := ⟨_, rfl⟩
     obtain ⟨dn, hdn⟩ : ∃ r, r = pickDone v st2.2 := ⟨_, rfl⟩
     have HX := Lib.hid (show keyOfJ v = if dn ≠ 0 then (({ data := #[] }, { data := #[] }), dn) else if keyOk st2.1.data.toList st1.1.data.toList then ((st2.1, st1.1), 0) else (({ data := #[] }, { data := #[] }), 3) by
       unfold keyOfJ; rw [if_neg (by rw [HMB.out]; simp), if_neg (by simp [hk]), hdn, hst2, hst1])
     obtain ⟨z1, z2⟩ := text_size (y := pubN) (st := ⟨[], 0⟩) hN
     obtain ⟨z3, z4⟩ := text_size (y := schN) (st := st1.2) hN
     rw [← hst1] at z1 z2
     rw [← hst2] at z3 z4
     simp only [List.length_nil] at z2
     have HST1 := Lib.hid hst1
     have HST2 := Lib.hid hst2
     have HDN := Lib.hid hdn
     have HRI := Lib.hid hri
     have HLE := Lib.hid hle
     have HTX := Lib.hid htx
     have HK := Lib.hid hk
     clear hst1 hst2 hdn hri hle htx hk
     go_enter Tryz.func106, Tryz.ntmps106
     go_wp2_with fail
     refine HM.out.mono ?_
     clear HM
     rintro e w1 ⟨rfl, hb1⟩
     have hz1 : w.heap.size + 2 ≤ w1.heap.size := by have := hb1.size; simp at this; omega
     have HB1 := Lib.hid (HB0.out.trans (hb1.mono (by simp; omega)))
     have HR1 := Lib.hid (below_row hb1 HR0.out (by simp))
     have hx1 : w1.heap[w.heap.size]? = some (.cells #[.int .u8 v.kind, .int .i64 v.n, .string v.t, .slice an v.names.length cn, .slice ai v.items.length ci] 25 (0, 0)) := by rw [hb1.block _ (by simp; omega)]; exact HX0.out
     have c0 : w1.cell? ⟨w.heap.size, 0, none⟩ = some (.int .u8 v.kind) := box_cell hx1 rfl
     have c1 : w1.cell? ⟨w.heap.size, 1, none⟩ = some (.int .i64 v.n) := box_cell hx1 rfl
     have c2 : w1.cell? ⟨w.heap.size, 2, none⟩ = some (.string v.t) := box_cell hx1 rfl
     have c3 : w1.cell? ⟨w.heap.size, 3, none⟩ = some (.slice an v.names.length cn) := box_cell hx1 rfl
     have c4 : w1.cell? ⟨w.heap.size, 4, none⟩ = some (.slice ai v.items.length ci) := box_cell hx1 rfl
     have HOF := Lib.hid (pickOf_goodW v _ w1 hi hN (by omega) (HR.out.below HB1.out hhi (Nat.le_refl _) (Nat.le_refl _)) HK.out HRI.out HLE.out)
     clear hb1 hx1
     go_wp2_with fail
     refine HOF.out.mono ?_
     clear HOF c0 c1 c2 c3 c4 HR HX0 HB0 HR0
     rintro e w2 ⟨v', hwc, o, m, lo2, hi2, an2, ai2, cn2, ci2, rfl, hp2, ho2, hm2, hb2⟩
     have HPW := Lib.hid (pickText_weak hwc HMB.out)
     have HPD := Lib.hid (pickDone_weak hwc)
     have hwv : v'.wt ≤ v.wt := hwc.wt
     clear hwc
     have HT1 := Lib.hid (pickTextF o m lo2 hi2 v' an2 ai2 cn2 ci2 pubN ⟨[], 0⟩ w2 hp2 (by decide) (by simp))
     have HR2 := Lib.hid (below_row hb2 HR1.out (by omega))
     have hz2 := hb2.size
     have HB2 := Lib.hid (HB1.out.trans (hb2.mono (by omega)))
     clear hp2 hb2 HR1 HB1
     go_wp2_with fail
     refine HT1.out.mono ?_
     clear HT1
     rintro e w3 ⟨rfl, hp3, ht3⟩
     rw [HPW.out, ← HST1.out] at hp3 ⊢
     have HT2 := Lib.hid (pickTextF o m lo2 hi2 v' an2 ai2 cn2 ci2 schN st1.2 w3 hp3 (by decide) (by omega))
     have hz3 := ht3.size
     have HR3 := Lib.hid (ht3.row HR2.out (by omega))
     have HB3 := Lib.hid (HB2.out.trans (ht3.below (by omega) fun k hk e => by omega))
     clear hp3 ht3 HR2 HB2
     go_wp2_with fail
     refine HT2.out.mono ?_
     clear HT2
     rintro e w4 ⟨rfl, hp4, ht4⟩
     rw [HPW.out, ← HST2.out] at hp4 ⊢
     have hz4 := ht4.size
     have HR4 := Lib.hid (ht4.row HR3.out (by omega))
     have HB4 := Lib.hid (HB3.out.trans (ht4.below (by omega) fun k hk e => by omega))
     have HDO := Lib.hid (pickDoneF o m lo2 hi2 v' an2 ai2 cn2 ci2 st2.2 (w4.alloc (.cells #[.string st2.1, .string st1.1] 38)) (hp4.below ((Below.refl _ _).alloc (Nat.le_refl _) _)) (fun i hi => by have h1 := bytesSum_get v'.names i hi; have h2 := v'.wt_eq; omega))
     rw [HPD.out, ← HDN.out] at HDO
     clear hp4 ht4 HR3 HB3
     go_wp2_with fail
     refine HDO.out.mono ?_
     clear HDO
     rintro e w5 ⟨rfl, rfl⟩
     have HR5 := Lib.hid (HR4.out.alloc (.cells #[.string st2.1, .string st1.1] 38))
     have HB5 := Lib.hid (HB4.out.alloc HB4.out.size (.cells #[.string st2.1, .string st1.1] 38))
     clear HR4 HB4
     by_cases hd : dn = 0
     · rw [hd] at HX ⊢
       simp only [ne_eq, not_true_eq_false, if_false] at HX
       clear hd HDN
       have HKM := Lib.hid (keyMay st2.1 st1.1 (w4.alloc (.cells #[.string st2.1, .string st1.1] 38)) (by omega) (by omega))
       cases hko : keyOk st2.1.data.toList st1.1.data.toList
       · rw [hko] at HKM HX
         clear hko
         go_wp2_with fail
         refine HKM.out.mono ?_
         rintro e w6 ⟨rfl, hb6⟩
         have hres := below_row hb6 HR5.out (by simp; omega)
         have HRS := Lib.hid hres
         have HB6 := Lib.hid (HB5.out.trans (hb6.mono (by simp; omega)))
         have t0 := hres.cell (i := 0) (by decide); have t1 := hres.cell (i := 1) (by decide)
         have s0 := hres.frozen 0; have s1 := hres.frozen 1
         simp only [pick2] at t0 t1
         clear hres hb6
         go_wp2
         refine bodyPost_ret (results_row_tmp Tryz.results106 _ _ (w.heap.size + 1) 38 _ (0, 0) _ rfl (row2_heap (set2 _ _ HRS.out)) Tryz.underlying38 rfl (by kernel_rfl) _ rfl) rfl ⟨?_, below2 _ _ HB6.out (by omega)⟩
         rw [HX.out]; rfl
       · rw [hko] at HKM HX
         clear hko
         go_wp2_with fail
         refine HKM.out.mono ?_
         rintro e w6 ⟨rfl, hb6⟩
         have hres := below_row hb6 HR5.out (by simp; omega)
         have hx6 : w6.heap[w4.heap.size]? = some (.cells #[.string st2.1, .string st1.1] 38 (0, 0)) := by rw [hb6.block _ (by simp)]; exact heap_alloc_new _ _
         have d0 : w6.cell? ⟨w4.heap.size, 0, none⟩ = some (.string st2.1) := box_cell hx6 rfl
         have d1 : w6.cell? ⟨w4.heap.size, 1, none⟩ = some (.string st1.1) := box_cell hx6 rfl
         have HRS := Lib.hid hres
         have HB6 := Lib.hid (HB5.out.trans (hb6.mono (by simp; omega)))
         have t0 := hres.cell (i := 0) (by decide); have t1 := hres.cell (i := 1) (by decide)
         have s0 := hres.frozen 0; have s1 := hres.frozen 1
         simp only [pick2] at t0 t1
         clear hres hb6 hx6
         go_wp2
         refine bodyPost_ret (results_row_tmp Tryz.results106 _ _ (w.heap.size + 1) 38 _ (0, 0) _ rfl (row2_heap (set2 _ _ HRS.out)) Tryz.underlying38 rfl (by kernel_rfl) _ rfl) rfl ⟨?_, below2 _ _ HB6.out (by omega)⟩
         rw [HX.out]; rfl
     · rw [if_pos hd] at HX
       have hd1 : (dn == 0) = false := by simpa using hd
       have hd2 : (dn != 0) = true := by simpa using hd
       have hres := HR5.out
       have t0 := hres.cell (i := 0) (by decide); have t1 := hres.cell (i := 1) (by decide)
       have s0 := hres.frozen 0; have s1 := hres.frozen 1
       simp only [pick2] at t0 t1
       clear hres hd HDN
       go_wp2
       refine bodyPost_ret (results_row_tmp Tryz.results106 _ _ (w.heap.size + 1) 38 _ (0, 0) _ rfl (row2_heap (set2 _ _ HR5.out)) Tryz.underlying38 rfl (by kernel_rfl) _ rfl) rfl ⟨?_, below2 _ _ HB5.out (by omega)⟩
       rw [HX.out]; rfl
   · have HX := Lib.hid (show keyOfJ v = (({ data := #[] }, { data := #[] }), 10) by unfold keyOfJ; rw [if_neg (by rw [HMB.out]; simp), if_pos hk])
     have HK := Lib.hid hk
     clear hk
     go_enter Tryz.func106, Tryz.ntmps106
     go_wp2_with fail
     refine HM.out.mono ?_
     clear HM
     rintro e w1 ⟨rfl, hb1⟩
     have hz1 : w.heap.size + 2 ≤ w1.heap.size := by have := hb1.size; simp at this; omega
     have HB1 := Lib.hid (HB0.out.trans (hb1.mono (by simp; omega)))
     have HR1 := Lib.hid (below_row hb1 HR0.out (by simp))
     have hx1 : w1.heap[w.heap.size]? = some (.cells #[.int .u8 v.kind, .int .i64 v.n, .string v.t, .slice an v.names.length cn, .slice ai v.items.length ci] 25 (0, 0)) := by rw [hb1.block _ (by simp; omega)]; exact HX0.out
     have c0 : w1.cell? ⟨w.heap.size, 0, none⟩ = some (.int .u8 v.kind) := box_cell hx1 rfl
     have c1 : w1.cell? ⟨w.heap.size, 1, none⟩ = some (.int .i64 v.n) := box_cell hx1 rfl
     have c2 : w1.cell? ⟨w.heap.size, 2, none⟩ = some (.string v.t) := box_cell hx1 rfl
     have c3 : w1.cell? ⟨w.heap.size, 3, none⟩ = some (.slice an v.names.length cn) := box_cell hx1 rfl
     have c4 : w1.cell? ⟨w.heap.size, 4, none⟩ = some (.slice ai v.items.length ci) := box_cell hx1 rfl
     clear hb1 hx1
     go_wp2_with fail
     refine (pickOf_bad v.kind v.n v.t _ _ w1 HK.out).mono ?_
     clear c0 c1 c2 c3 c4
     rintro e w2 ⟨o, rfl, ho1, ho2, hp2, hb2⟩
     have HP2 := Lib.hid hp2
     have HR2 := Lib.hid (below_row hb2 HR1.out (by omega))
     have HB2 := Lib.hid (HB1.out.trans (hb2.mono (by omega)))
     clear hp2 hb2
     go_wp2_with fail
     refine (textBad o 10 _ w2 HP2.out).mono ?_
     rintro e w3 ⟨rfl, rfl⟩
     go_wp2_with fail
     refine (textBad o 10 _ w2 HP2.out).mono ?_
     rintro e w3 ⟨rfl, rfl⟩
     have HP3 := Lib.hid (HP2.out.below ((Below.refl _ _).alloc (Nat.le_refl _) (.cells #[.string { data := #[] }, .string { data := #[] }] 38)) ho2)
     obtain ⟨p1, p2, kk, p3⟩ := HP3.out
     have HD := Lib.hid (doneErr o 10 kk _ p1 p2 p3)
     clear p1 p2 p3
     go_wp2_with fail
     refine HD.out.mono ?_
     rintro e w3 ⟨rfl, rfl⟩
     have hres := HR2.out.alloc (.cells #[.string { data := #[] }, .string { data := #[] }] 38)
     have HRS := Lib.hid hres
     have HB3 := Lib.hid (HB2.out.alloc HB2.out.size (.cells #[.string { data := #[] }, .string { data := #[] }] 38))
     have t0 := hres.cell (i := 0) (by decide); have t1 := hres.cell (i := 1) (by decide)
     have s0 := hres.frozen 0; have s1 := hres.frozen 1
     simp only [pick2] at t0 t1
     clear hres
     go_wp2
     refine bodyPost_ret (results_row_tmp Tryz.results106 _ _ (w.heap.size + 1) 38 _ (0, 0) _ rfl (row2_heap (set2 _ _ HRS.out)) Tryz.underlying38 rfl (by kernel_rfl) _ rfl) rfl ⟨?_, below2 _ _ HB3.out (by omega)⟩
     rw [HX.out]; rfl
end Go.Proofs.YtnlgmcapbbgelaaGreatDoor

namespace Go.Proofs.YtnlgmcapbbgelaaGreatDoor
open Go.RowKit
def ShortA (ids : List ByteArray) : Prop := ids.length ≤ 500 ∧ ∀ s ∈ ids, s.size ≤ 5000
def Auth3Rel (P : Prop) (ids : List ByteArray) (n j : Value) : Prop :=
 ∃ (q : Nat) (r : Int), q ≤ ids.length ∧ j = .int .i64 q ∧ n = .int .i64 r ∧ 0 ≤ r ∧ r ≤ 20000 ∧ 10 * (q : Int) ≤ r ∧ (r < 5000 → P ∧ ∀ x (h : x < ids.length), x < q → ids[x].size ≤ 5000)
def Auth3At (k : Int) (P : Prop) (n i : Value) : Prop := i = .int .i64 k ∧ ∃ r : Int, n = .int .i64 r ∧ 0 ≤ r ∧ r ≤ 20000 ∧ (r < 5000 → P)
def Long3Post (d1 d2 d3 : List ByteArray) (w : World) (e : Ending) (w' : World) : Prop := ∃ b : Bool, e = .returned (.bool b) ∧ (b = false → ShortA d1 ∧ ShortA d2 ∧ ShortA d3) ∧ w = w'
set_option maxHeartbeats 2000000 in
set_option maxRecDepth 100000 in
theorem lawLong3 (t1 t2 t3 : Int) (d1 d2 d3 : List ByteArray) (i1 i2 i3 : Option Addr) (c1 c2 c3 g : Nat) (w : World) (hg : w.heap[g]? = some (.cells #[.int .i64 t1, .slice i1 d1.length c1, .int .i64 t2, .slice i2 d2.length c2, .int .i64 t3, .slice i3 d3.length c3] 30 (0, 0))) (h1 : StrsAt w 0 w.heap.size i1 d1) (h2 : StrsAt w 0 w.heap.size i2 d2) (h3 : StrsAt w 0 w.heap.size i3 d3) (l1 : d1.length ≤ 9223372036854775807) (l2 : d2.length ≤ 9223372036854775807) (l3 : d3.length ≤ 9223372036854775807) :
   Calls Tryz.prog 26 #[.slice (some ⟨g, 0, none⟩) 3 3] w (Long3Post d1 d2 d3 w) := by
 have q1 : w.cell? ⟨g, 1, none⟩ = some (.slice i1 d1.length c1) := box_cell hg rfl
 have q3 : w.cell? ⟨g, 3, none⟩ = some (.slice i2 d2.length c2) := box_cell hg rfl
 have q5 : w.cell? ⟨g, 5, none⟩ = some (.slice i3 d3.length c3) := box_cell hg rfl
 have H1 := Lib.hid h1
 have H2 := Lib.hid h2
 have H3 := Lib.hid h3
 clear h1 h2 h3 hg
 go_enter Tryz.func26, Tryz.ntmps26
 go_wp2_with fail
 go_loop [3, 4, 5] (fun n i _ => Auth3At 0 True n i ∨ Auth3At 1 (ShortA d1) n i ∨ Auth3At 2 (ShortA d1 ∧ ShortA d2) n i ∨ Auth3At 3 (ShortA d1 ∧ ShortA d2 ∧ ShortA d3) n i) (fun _ i _ => 3 - (intOf i).toNat)
 case atStart => exact .inl ⟨rfl, 0, rfl, by omega, by omega, fun _ => trivial⟩
 case round =>
   rcases hrel with ⟨rfl, r0, rfl, ha, hb, hc⟩ | ⟨rfl, r0, rfl, ha, hb, hc⟩ | ⟨rfl, r0, rfl, ha, hb, hc⟩ | ⟨rfl, r0, rfl, ha, hb, hc⟩
   · have HP := Lib.hid hc
     clear hc
     go_wp2_with fail
     go_loop [3, 5] (fun n j => Auth3Rel True d1 n j) (fun _ j => d1.length - (intOf j).toNat)
     case atStart => exact ⟨0, r0, Nat.zero_le _, rfl, rfl, ha, hb, by omega, fun h => ⟨HP.out h, fun x _ h => by omega⟩⟩
     case round =>
       obtain ⟨q, r, hq, rfl, rfl, hr0, hr1, hq10, hr2⟩ := hrel
       have HR := Lib.hid hr2
       clear hr2
       by_cases hgo : q < d1.length ∧ r < 5000
       · obtain ⟨hlt, hn⟩ := hgo
         obtain ⟨b2, off2, ha2, _, _, e5⟩ := H1.out.at q hlt
         subst ha2
         obtain ⟨nm, hnm⟩ : ∃ nm, nm = d1[q] := ⟨_, rfl⟩
         have HNM := Lib.hid hnm
         rw [← hnm] at e5
         clear hnm
         obtain ⟨mn, hmn⟩ : ∃ mn : Int, (if (nm.size : Int) < 5000 then (nm.size : Int) else 5000) = mn := ⟨_, rfl⟩
         have mn0 : 0 ≤ mn := by rw [← hmn]; split <;> omega
         have mn1 : mn ≤ 5000 := by rw [← hmn]; split <;> omega
         have HMN := Lib.hid (show mn < 5000 → nm.size ≤ 5000 by rw [← hmn]; split <;> omega)
         have hq3 : (q : Int) < 5000 := by omega
         go_wp2
         go_round
         case rel =>
           refine ⟨q + 1, _, by omega, by go_num, rfl, by omega, by omega, by push_cast; omega, fun h => ⟨(HR.out hn).1, fun x hx hxq => ?_⟩⟩
           by_cases e : x = q
           · subst e; rw [← HNM.out]; exact HMN.out (by omega)
           · exact (HR.out hn).2 x hx (by omega)
         case measure => simp [intOf]; omega
       · have HX := Lib.hid (show r < 5000 → (ShortA d1) from fun h => by
           have hql : q = d1.length := by omega
           have hsh : ShortA d1 := ⟨by omega, fun s hs => by
             obtain ⟨j, hj, rfl⟩ := List.getElem_of_mem hs
             exact (HR.out h).2 j hj (by omega)⟩
           have hp := (HR.out h).1
           exact hsh)
         clear HR
         have hdone : ∃ t : Bool, decide (q < d1.length) = t ∧ (t = true → decide (r < 5000) = false) := ⟨_, rfl, fun h => decide_eq_false fun h2 => hgo ⟨of_decide_eq_true h, h2⟩⟩
         obtain ⟨t', ht, ht2⟩ := hdone
         clear hgo
         cases t'
         all_goals
           (try have hq2 := ht2 rfl)
           clear ht2
           go_wp2
           go_round
           case rel => exact .inr (.inl ⟨by go_num, r, rfl, hr0, hr1, HX.out⟩)
           case measure => simp [intOf]
   · have HP := Lib.hid hc
     clear hc
     go_wp2_with fail
     go_loop [3, 5] (fun n j => Auth3Rel (ShortA d1) d2 n j) (fun _ j => d2.length - (intOf j).toNat)
     case atStart => exact ⟨0, r0, Nat.zero_le _, rfl, rfl, ha, hb, by omega, fun h => ⟨HP.out h, fun x _ h => by omega⟩⟩
     case round =>
       obtain ⟨q, r, hq, rfl, rfl, hr0, hr1, hq10, hr2⟩ := hrel
       have HR := Lib.hid hr2
       clear hr2
       by_cases hgo : q < d2.length ∧ r < 5000
       · obtain ⟨hlt, hn⟩ := hgo
         obtain ⟨b2, off2, ha2, _, _, e5⟩ := H2.out.at q hlt
         subst ha2
         obtain ⟨nm, hnm⟩ : ∃ nm, nm = d2[q] := ⟨_, rfl⟩
         have HNM := Lib.hid hnm
         rw [← hnm] at e5
         clear hnm
         obtain ⟨mn, hmn⟩ : ∃ mn : Int, (if (nm.size : Int) < 5000 then (nm.size : Int) else 5000) = mn := ⟨_, rfl⟩
         have mn0 : 0 ≤ mn := by rw [← hmn]; split <;> omega
         have mn1 : mn ≤ 5000 := by rw [← hmn]; split <;> omega
         have HMN := Lib.hid (show mn < 5000 → nm.size ≤ 5000 by rw [← hmn]; split <;> omega)
         have hq3 : (q : Int) < 5000 := by omega
         go_wp2
         go_round
         case rel =>
           refine ⟨q + 1, _, by omega, by go_num, rfl, by omega, by omega, by push_cast; omega, fun h => ⟨(HR.out hn).1, fun x hx hxq => ?_⟩⟩
           by_cases e : x = q
           · subst e; rw [← HNM.out]; exact HMN.out (by omega)
           · exact (HR.out hn).2 x hx (by omega)
         case measure => simp [intOf]; omega
       · have HX := Lib.hid (show r < 5000 → (ShortA d1 ∧ ShortA d2) from fun h => by
           have hql : q = d2.length := by omega
           have hsh : ShortA d2 := ⟨by omega, fun s hs => by
             obtain ⟨j, hj, rfl⟩ := List.getElem_of_mem hs
             exact (HR.out h).2 j hj (by omega)⟩
           have hp := (HR.out h).1
           exact ⟨hp, hsh⟩)
         clear HR
         have hdone : ∃ t : Bool, decide (q < d2.length) = t ∧ (t = true → decide (r < 5000) = false) := ⟨_, rfl, fun h => decide_eq_false fun h2 => hgo ⟨of_decide_eq_true h, h2⟩⟩
         obtain ⟨t', ht, ht2⟩ := hdone
         clear hgo
         cases t'
         all_goals
           (try have hq2 := ht2 rfl)
           clear ht2
           go_wp2
           go_round
           case rel => exact .inr (.inr (.inl ⟨by go_num, r, rfl, hr0, hr1, HX.out⟩))
           case measure => simp [intOf]
   · have HP := Lib.hid hc
     clear hc
     go_wp2_with fail
     go_loop [3, 5] (fun n j => Auth3Rel (ShortA d1 ∧ ShortA d2) d3 n j) (fun _ j => d3.length - (intOf j).toNat)
     case atStart => exact ⟨0, r0, Nat.zero_le _, rfl, rfl, ha, hb, by omega, fun h => ⟨HP.out h, fun x _ h => by omega⟩⟩
     case round =>
       obtain ⟨q, r, hq, rfl, rfl, hr0, hr1, hq10, hr2⟩ := hrel
       have HR := Lib.hid hr2
       clear hr2
       by_cases hgo : q < d3.length ∧ r < 5000
       · obtain ⟨hlt, hn⟩ := hgo
         obtain ⟨b2, off2, ha2, _, _, e5⟩ := H3.out.at q hlt
         subst ha2
         obtain ⟨nm, hnm⟩ : ∃ nm, nm = d3[q] := ⟨_, rfl⟩
         have HNM := Lib.hid hnm
         rw [← hnm] at e5
         clear hnm
         obtain ⟨mn, hmn⟩ : ∃ mn : Int, (if (nm.size : Int) < 5000 then (nm.size : Int) else 5000) = mn := ⟨_, rfl⟩
         have mn0 : 0 ≤ mn := by rw [← hmn]; split <;> omega
         have mn1 : mn ≤ 5000 := by rw [← hmn]; split <;> omega
         have HMN := Lib.hid (show mn < 5000 → nm.size ≤ 5000 by rw [← hmn]; split <;> omega)
         have hq3 : (q : Int) < 5000 := by omega
         go_wp2
         go_round
         case rel =>
           refine ⟨q + 1, _, by omega, by go_num, rfl, by omega, by omega, by push_cast; omega, fun h => ⟨(HR.out hn).1, fun x hx hxq => ?_⟩⟩
           by_cases e : x = q
           · subst e; rw [← HNM.out]; exact HMN.out (by omega)
           · exact (HR.out hn).2 x hx (by omega)
         case measure => simp [intOf]; omega
       · have HX := Lib.hid (show r < 5000 → (ShortA d1 ∧ ShortA d2 ∧ ShortA d3) from fun h => by
           have hql : q = d3.length := by omega
           have hsh : ShortA d3 := ⟨by omega, fun s hs => by
             obtain ⟨j, hj, rfl⟩ := List.getElem_of_mem hs
             exact (HR.out h).2 j hj (by omega)⟩
           have hp := (HR.out h).1
           exact ⟨hp.1, hp.2, hsh⟩)
         clear HR
         have hdone : ∃ t : Bool, decide (q < d3.length) = t ∧ (t = true → decide (r < 5000) = false) := ⟨_, rfl, fun h => decide_eq_false fun h2 => hgo ⟨of_decide_eq_true h, h2⟩⟩
         obtain ⟨t', ht, ht2⟩ := hdone
         clear hgo
         cases t'
         all_goals
           (try have hq2 := ht2 rfl)
           clear ht2
           go_wp2
           go_round
           case rel => exact .inr (.inr (.inr ⟨by go_num, r, rfl, hr0, hr1, HX.out⟩))
           case measure => simp [intOf]
   · have HX := Lib.hid hc
     clear hc
     go_wp2
     go_ret
     exact ⟨_, rfl, fun h => HX.out (by simpa using h), rfl⟩
structure NotLongR (r : RootV) : Prop where
 len : r.keys.length ≤ 40
 keys : ∀ k ∈ r.keys, k.1.size ≤ 300 ∧ k.2.size ≤ 300
 a : ShortA r.au.a.ids
 b : ShortA r.au.b.ids
 c : ShortA r.au.c.ids
def Long22Post (r : RootV) (w : World) (e : Ending) (w' : World) : Prop := ∃ b : Bool, e = .returned (.bool b) ∧ (b = false → NotLongR r) ∧ Below w.heap.size w w'
set_option maxHeartbeats 2000000 in
set_option maxRecDepth 100000 in
theorem lawLong22 (v e : Int) (l : List Key2) (t1 t2 t3 : Int) (d1 d2 d3 : List ByteArray) (ka i1 i2 i3 : Option Addr) (kc c1 c2 c3 : Nat) (w : World) (hI : RootIn w 0 w.heap.size ⟨v, e, l, ⟨⟨t1, d1⟩, ⟨t2, d2⟩, ⟨t3, d3⟩⟩⟩ ka i1 i2 i3) (hl : l.length ≤ 9223372036854775807) (l1 : d1.length ≤ 9223372036854775807) (l2 : d2.length ≤ 9223372036854775807) (l3 : d3.length ≤ 9223372036854775807) :
   Calls Tryz.prog 25 #[.agg #[.int .i64 v, .int .i64 e, .slice ka l.length kc, .int .i64 t1, .slice i1 d1.length c1, .int .i64 t2, .slice i2 d2.length c2, .int .i64 t3, .slice i3 d3.length c3]] w (Long22Post ⟨v, e, l, ⟨⟨t1, d1⟩, ⟨t2, d2⟩, ⟨t3, d3⟩⟩⟩ w) := by
 obtain ⟨W, hW⟩ : ∃ W, W = w.alloc (.cells #[.int .i64 v, .int .i64 e, .slice ka l.length kc, .int .i64 t1, .slice i1 d1.length c1, .int .i64 t2, .slice i2 d2.length c2, .int .i64 t3, .slice i3 d3.length c3] 32) := ⟨_, rfl⟩
 have hb : Below w.heap.size w W := by rw [hW]; exact (Below.refl _ _).alloc (Nat.le_refl _) _
 have hx : W.heap[w.heap.size]? = some (.cells #[.int .i64 v, .int .i64 e, .slice ka l.length kc, .int .i64 t1, .slice i1 d1.length c1, .int .i64 t2, .slice i2 d2.length c2, .int .i64 t3, .slice i3 d3.length c3] 32 (0, 0)) := by rw [hW]; exact heap_alloc_new w _
 have hb2 : Below W.heap.size W (W.alloc (.cells #[.int .i64 t1, .slice i1 d1.length c1, .int .i64 t2, .slice i2 d2.length c2, .int .i64 t3, .slice i3 d3.length c3] 30)) := (Below.refl _ _).alloc (Nat.le_refl _) _
 have HI := Lib.hid (show ∀ w' : World, Below w.heap.size w w' → RootIn w' 0 w'.heap.size ⟨v, e, l, ⟨⟨t1, d1⟩, ⟨t2, d2⟩, ⟨t3, d3⟩⟩⟩ ka i1 i2 i3 from fun w' h => hI.below h (Nat.le_refl _) (Nat.le_refl _) h.size)
 have HL3 := Lib.hid (lawLong3 t1 t2 t3 d1 d2 d3 i1 i2 i3 c1 c2 c3 W.heap.size (W.alloc (.cells #[.int .i64 t1, .slice i1 d1.length c1, .int .i64 t2, .slice i2 d2.length c2, .int .i64 t3, .slice i3 d3.length c3] 30)) (heap_alloc_new W _) (HI.out _ (hb.trans (hb2.mono hb.size))).a (HI.out _ (hb.trans (hb2.mono hb.size))).b (HI.out _ (hb.trans (hb2.mono hb.size))).c l1 l2 l3)
 have HC := Lib.hid (show ∀ w' : World, Below W.heap.size W w' → w'.cell? ⟨w.heap.size, 0, none⟩ = some (.int .i64 v) ∧ w'.cell? ⟨w.heap.size, 1, none⟩ = some (.int .i64 e) ∧ w'.cell? ⟨w.heap.size, 2, none⟩ = some (.slice ka l.length kc) ∧ w'.cell? ⟨w.heap.size, 3, none⟩ = some (.int .i64 t1) ∧ w'.cell? ⟨w.heap.size, 4, none⟩ = some (.slice i1 d1.length c1) ∧ w'.cell? ⟨w.heap.size, 5, none⟩ = some (.int .i64 t2) ∧ w'.cell? ⟨w.heap.size, 6, none⟩ = some (.slice i2 d2.length c2) ∧ w'.cell? ⟨w.heap.size, 7, none⟩ = some (.int .i64 t3) ∧ w'.cell? ⟨w.heap.size, 8, none⟩ = some (.slice i3 d3.length c3) from fun w' h => by
   have y := (h.block _ (heap_lt hx)).trans hx
   exact ⟨box_cell y rfl, box_cell y rfl, box_cell y rfl, box_cell y rfl, box_cell y rfl, box_cell y rfl, box_cell y rfl, box_cell y rfl, box_cell y rfl⟩)
 have HB := Lib.hid hb
 have HB2 := Lib.hid hb2
 have HW := Lib.hid hW
 clear hI hb hx hW hb2
 obtain ⟨y0, y1, y2, y3, y4, y5, y6, y7, y8⟩ := HC.out W (Below.refl _ _)
 by_cases h40 : l.length ≤ 40
 case neg =>
   have h40' : decide (40 < (l.length : Int)) = true := by simp; omega
   clear HC
   go_enter Tryz.func25, Tryz.ntmps25
   go_upto_region 1 with fail
   rw [← HW.out]
   go_wp2
   go_ret
   exact ⟨true, rfl, (fun h => by cases h), HB.out⟩
 have h40' : decide (40 < (l.length : Int)) = false := by simp; omega
 have H40 := Lib.hid h40
 obtain ⟨nn, hnn⟩ : ∃ nn, nn = l.length := ⟨_, rfl⟩
 have HNN := Lib.hid hnn
 rw [← hnn] at HC HW y2 h40'
 rw [← hnn]
 clear h40 hnn
 go_enter Tryz.func25, Tryz.ntmps25
 go_upto_region 1 with fail
 rw [← HW.out]
 clear HW
 go_wp2_with fail
 refine HL3.out.mono ?_
 clear HL3 y0 y1 y2 y3 y4 y5 y6 y7 y8
 rintro e w2 ⟨b, rfl, hsh, hw2⟩
 have HB3 := Lib.hid (show Below W.heap.size W w2 by rw [← hw2]; exact HB2.out)
 clear hw2
 cases b with
 | true =>
   clear hsh
   go_wp2
   go_ret
   exact ⟨true, rfl, (fun h => by cases h), HB.out.trans (HB3.out.mono HB.out.size)⟩
 | false =>
   have HSH := Lib.hid (hsh rfl)
   clear hsh
   go_wp2_with fail
   go_loopw [3] (fun i wr => ∃ k : Nat, k ≤ nn ∧ i = .int .i64 k ∧ (∀ j (h : j < l.length), j < k → l[j].1.size ≤ 300 ∧ l[j].2.size ≤ 300) ∧ Below W.heap.size W wr) (fun i _ => nn - (intOf i).toNat)
   case atStart => exact ⟨0, by omega, rfl, fun j _ h => by omega, HB3.out⟩
   case round =>
     obtain ⟨k, hk, rfl, hal, hbel⟩ := hrel
     have HAL := Lib.hid hal
     have HBL := Lib.hid hbel
     have HBZ := Lib.hid (HB.out.trans (hbel.mono HB.out.size))
     obtain ⟨y0, y1, y2, y3, y4, y5, y6, y7, y8⟩ := HC.out wr hbel
     clear hal hbel y0 y1 y3 y4 y5 y6 y7 y8
     by_cases hlt : k < nn
     · have hlt' : k < l.length := by rw [← HNN.out]; exact hlt
       obtain ⟨b, off, ha, _, hb, e0, e1⟩ := ((HI.out wr HBZ.out).keys).at k hlt'
       subst ha
       obtain ⟨s0, hs0⟩ : ∃ s0, s0 = l[k].1 := ⟨_, rfl⟩
       obtain ⟨s1, hs1⟩ : ∃ s1, s1 = l[k].2 := ⟨_, rfl⟩
       replace e0 := e0.trans (congrArg (fun z => some (Value.string z)) hs0.symm)
       replace e1 := e1.trans (congrArg (fun z => some (Value.string z)) hs1.symm)
       have HS1 := Lib.hid (And.intro hs0 hs1)
       have m1 : (0 : Int) ≤ (k : Int) := by omega
       have m2 : (k : Int) < (nn : Int) := by omega
       clear hs0 hs1
       by_cases g0 : s0.size ≤ 300
       · have g0' : decide (300 < (s0.size : Int)) = false := by simp; omega
         by_cases g1 : s1.size ≤ 300
         · have g1' : decide (300 < (s1.size : Int)) = false := by simp; omega
           have HN := Lib.hid (show ∀ j (h : j < l.length), j < k + 1 → l[j].1.size ≤ 300 ∧ l[j].2.size ≤ 300 from fun j hj hjk => by
             rcases Nat.lt_succ_iff_lt_or_eq.1 hjk with h | h
             · exact HAL.out j hj h
             · subst h; exact ⟨by rw [← HS1.out.1]; exact g0, by rw [← HS1.out.2]; exact g1⟩)
           clear g0 g1
           go_wp2
           go_roundw
           case rel => exact ⟨k + 1, by omega, by go_num, HN.out, HBL.out⟩
           case measure => simp [intOf]; omega
         · have g1' : decide (300 < (s1.size : Int)) = true := by simp; omega
           clear g0 g1
           go_wp2
           go_ret
           exact ⟨true, rfl, (fun h => by cases h), HBZ.out⟩
       · have g0' : decide (300 < (s0.size : Int)) = true := by simp; omega
         clear g0
         go_wp2
         go_ret
         exact ⟨true, rfl, (fun h => by cases h), HBZ.out⟩
     · obtain rfl : k = nn := by omega
       have HNL := Lib.hid (show NotLongR ⟨v, e, l, ⟨⟨t1, d1⟩, ⟨t2, d2⟩, ⟨t3, d3⟩⟩⟩ from ⟨H40.out, fun x hx => by
         obtain ⟨j, hj, rfl⟩ := List.getElem_of_mem hx
         exact HAL.out j hj (by rw [HNN.out]; exact hj), HSH.out.1, HSH.out.2.1, HSH.out.2.2⟩)
       go_wp2
       go_ret
       exact ⟨false, rfl, fun _ => HNL.out, HBZ.out⟩
theorem rootFits_long {r : RootV} (h : NotLongR r) (hv : -9223372036854775808 ≤ r.ver ∧ r.ver ≤ 9223372036854775807) (he : -9223372036854775808 ≤ r.exp ∧ r.exp ≤ 9223372036854775807) (ha : -9223372036854775808 ≤ r.au.a.thr ∧ r.au.a.thr ≤ 9223372036854775807) (hb : -9223372036854775808 ≤ r.au.b.thr ∧ r.au.b.thr ≤ 9223372036854775807) (hc : -9223372036854775808 ≤ r.au.c.thr ∧ r.au.c.thr ≤ 9223372036854775807) : RootFits r :=
 ⟨hv, he, h.len, h.keys, ⟨ha, Nat.le_trans h.a.1 (by decide), fun s hs => Nat.le_trans (h.a.2 s hs) (by decide)⟩, ⟨hb, Nat.le_trans h.b.1 (by decide), fun s hs => Nat.le_trans (h.b.2 s hs) (by decide)⟩, ⟨hc, Nat.le_trans h.c.1 (by decide), fun s hs => Nat.le_trans (h.c.2 s hs) (by decide)⟩⟩
end Go.Proofs.YtnlgmcapbbgelaaGreatDoor
