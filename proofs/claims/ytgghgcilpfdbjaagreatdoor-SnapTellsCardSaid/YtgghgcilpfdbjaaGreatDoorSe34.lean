/- The contracts of legateref21.object and legateref21.HashesValue. -/
import Derived.Test.YtgghgcilpfdbjaaGreatDoorSe33
import Derived.Test.YtgghgcilpfdbjaaGreatDoorSe17
import Derived.Test.YtgghgcilpfdbjaaGreatDoorSe20
import Derived.Test.YtgghgcilpfdbjaaGreatDoorSe27

namespace Go.Proofs.YtgghgcilpfdbjaaGreatDoor
open Go.RowKit Go.Shelf Go.Sort

set_option maxHeartbeats 4000000 in
set_option maxRecDepth 100000 in
theorem ref21Object (l : List Key2) (a : Option Addr) (c : Nat) (w : World) (hK : KeysAt w 0 w.heap.size a l) (hl : l.length ≤ 4294967296) :
    Calls Tryz.prog 100 #[.slice a l.length c] w (ObjVPost (hashJ l) w) := by
  have HK := Lib.hid hK
  clear hK
  obtain ⟨NS, hNS⟩ : ∃ NS, NS = l.map (·.1) := ⟨_, rfl⟩
  obtain ⟨IS, hIS⟩ : ∃ IS, IS = l.map fun k => txtJ k.2 := ⟨_, rfl⟩
  have HNS := Lib.hid hNS
  have HIS := Lib.hid hIS
  have HNL := Lib.hid (show NS.length = l.length by rw [hNS, List.length_map])
  have HIL := Lib.hid (show IS.length = l.length by rw [hIS, List.length_map])
  have HNT := Lib.hid (show ∀ q (h : q < l.length), NS.take (q + 1) = NS.take q ++ [l[q].1] from fun q h => by subst hNS; rw [List.take_succ_eq_append_getElem (by simpa using h)]; simp)
  have HIT := Lib.hid (show ∀ q (h : q < l.length), IS.take (q + 1) = IS.take q ++ [txtJ l[q].2] from fun q h => by subst hIS; rw [List.take_succ_eq_append_getElem (by simpa using h)]; simp)
  clear hNS hIS
  go_enter Tryz.func100, Tryz.ntmps100
  go_wp2
  obtain ⟨Z, hW2⟩ : ∃ Z, Z = (w.alloc (.cells #[.int .u8 0, .int .i64 0, .string { data := #[] }, .slice none 0 0, .slice none 0 0] 30)).alloc (.cells #[.int .u8 5, .int .i64 0, .string { data := #[] }, .slice none 0 0, .slice none 0 0] 30) := ⟨_, rfl⟩
  rw [← hW2]
  have hz1 : (w.alloc (.cells #[.int .u8 0, .int .i64 0, .string { data := #[] }, .slice none 0 0, .slice none 0 0] 30)).heap.size = w.heap.size + 1 := by simp
  have hz2 : Z.heap.size = w.heap.size + 2 := by rw [hW2]; simp
  have hb2 : Below w.heap.size w Z := by rw [hW2]; exact ((Below.refl _ _).alloc (Nat.le_refl _) _).alloc (by simp) _
  have hr0 : Z.rowIs w.heap.size 30 5 (pick5 (.int .u8 0) (.int .i64 0) (.string { data := #[] }) (.slice none 0 0) (.slice none 0 0)) := by
    rw [hW2]
    exact below_row ((Below.refl _ _).alloc (Nat.le_refl _) _) (rowIs_box5 w (.int .u8 0) (.int .i64 0) (.string { data := #[] }) (.slice none 0 0) (.slice none 0 0) 30) (by simp)
  have hr1 : Z.rowIs (w.heap.size + 1) 30 5 (pick5 (.int .u8 5) (.int .i64 0) (.string { data := #[] }) (.slice none 0 0) (.slice none 0 0)) := by
    have := rowIs_box5 (w.alloc (.cells #[.int .u8 0, .int .i64 0, .string { data := #[] }, .slice none 0 0, .slice none 0 0] 30)) (.int .u8 5) (.int .i64 0) (.string { data := #[] }) (.slice none 0 0) (.slice none 0 0) 30
    rw [hz1, ← hW2] at this
    exact this
  have HBA := Lib.hid hb2
  have HRA := Lib.hid hr0
  have HZ2 := Lib.hid hz2
  have hcb : w.heap.size + 1 < Z.heap.size := by omega
  have HO := Lib.hid (show ObjAt2 Z Z Z.heap.size (w.heap.size + 1) 30 9 30 (.slice none 0 0) (.slice none 0 0) [] [] [] from
    ⟨hcb, Nat.le_refl _, Touch.refl _ _, hr1, World.ownsRow_nil _ _ _ _, World.ownsRow_nil _ _ _ _, RepRow.nil _ _ _, fun b hb => by simp [Value.ownBlock] at hb⟩)
  clear hW2 hb2 hr0 hr1 hz1 hz2
  obtain ⟨i1, hi1, hy0, hy1, hy2⟩ := info_parts infoValue
  obtain ⟨i2, hi2, hx0, hx1, hx2⟩ := info_parts infoStr
  go_loopw [4] (fun i wr => ∃ (q : Nat) (cs : List Value) (vn vi : Value), q ≤ l.length ∧ i = .int .i64 q ∧ ObjAt2 Z wr Z.heap.size (w.heap.size + 1) 30 9 30 vn vi (NS.take q) (IS.take q) cs) (fun i _ => l.length - (intOf i).toNat)
  case atStart => exact ⟨0, [], .slice none 0 0, .slice none 0 0, by omega, rfl, by simpa using HO.out⟩
  case round =>
    obtain ⟨q, cs, vn, vi, hq, rfl, hobj⟩ := hrel
    have HW5 := Lib.hid hobj
    clear hobj
    generalize wr = V at *
    by_cases hlt : q < l.length
    · have HKV := Lib.hid (show ∀ V' : World, Touch (· = w.heap.size + 1) Z V' → KeysAt V' 0 w.heap.size a l from fun V' ht => HK.out.carry (Nat.le_refl _) (Nat.le_refl _) fun x _ hx => by rw [ht.block x (by omega) (by omega), HBA.out.block x hx])
      obtain ⟨b1, o1, ha1, _, hbl1, y0, _⟩ := (HKV.out V HW5.out.touch).at q hlt
      subst ha1
      have HTN := Lib.hid (HNT.out q hlt)
      have HTI := Lib.hid (HIT.out q hlt)
      have HE1 := Lib.hid (show ∀ V' : World, Touch (· = w.heap.size + 1) Z V' → V'.cell? ⟨b1, o1 + q * 2 + 1, none⟩ = some (.string l[q].2) from fun V' ht => by
        obtain ⟨b2, o2, ha2, _, _, _, y1⟩ := (HKV.out V' ht).at q hlt
        obtain ⟨rfl, rfl⟩ : b1 = b2 ∧ o1 = o2 := by simpa using ha2
        exact y1)
      generalize l[q].1 = nm at y0 HTN
      generalize l[q].2 = tx at HTI HE1
      have hpl : w.heap.size + 1 < V.heap.size := HW5.out.row.lt
      have hpn : some (w.heap.size + 1) ≠ vn.ownBlock := fun e => by have := (HW5.out.names.lt _ e.symm).1; omega
      have e2 : V.cell? ⟨w.heap.size + 1, 3, none⟩ = some vn := HW5.out.row.cell (by decide)
      have fp2 := HW5.out.row.frozen 3
      have HLN := Lib.hid (show (NS.take q).length = q by rw [List.length_take, HNL.out]; omega)
      have HOD := Lib.hid (show V.drew.ownsRow Z.heap.size 9 1 vn q ((NS.take q).map .string) by have := HW5.out.names; rw [HLN.out] at this; exact this)
      have hzv : Z.heap.size ≤ V.heap.size := HW5.out.touch.size
      go_upto_region 5 with fail
      go_region_law (refine step_append_lies _ (by rfl) (.tmp 13) (.tmp 19) 27 (by rfl) Z.heap.size 9 i2 _ 1 16 Tryz.underlying27 hi2 hx0 hx1 hx2 rfl (by omega) vn q ((NS.take q).map .string) (by rfl) (HOD.out.alloc _) ⟨V.heap.size, 0, none⟩ 1 1 (Array.toList #[.string nm]) (by rfl) (by rfl) (World.news_of_block (cs := #[.string nm]) (t := 9) (fr := (0, 0)) (heap_alloc_new V.drew _)) (by simp [Value.oneCell']) (by omega) (by unfold maxLen; omega) (by omega) (by simp; omega) (V.heap.size + 1) (by simp) ?_; intro g2 cap3 w4 hown4 hgrow4 hat4 hlt4; have c44 : w4.cell? ⟨w.heap.size + 1, 3, none⟩ = some vn := (World.cell?_of_block (hgrow4.block _ (by simp; omega) hpn)).trans ((cell_alloc_lt _ (show w.heap.size + 1 < V.drew.heap.size from hpl)).trans e2); have f44 : w4.frozen? ⟨w.heap.size + 1, 3, none⟩ = false := (World.frozen?_of_block (hgrow4.block _ (by simp; omega) hpn)).trans ((((Below.refl V.drew.heap.size V.drew).alloc (Nat.le_refl _) _).frozen (show w.heap.size + 1 < V.drew.heap.size from hpl)).trans fp2); have HO4 := Lib.hid hown4; have HG4 := Lib.hid hgrow4; have HA4 := Lib.hid hat4; clear hown4 hgrow4 hat4)
      all_goals
        have HO7 := Lib.hid (show ObjAt2 Z (w4.setCell ⟨w.heap.size + 1, 3, none⟩ (.slice (some ⟨g2, 0, none⟩) (q + 1) cap3)) Z.heap.size (w.heap.size + 1) 30 9 30 (.slice (some ⟨g2, 0, none⟩) (q + 1) cap3) vi (NS.take (q + 1)) (IS.take q) cs by
          have := (HW5.out.below (((Below.refl V.heap.size V).drew).alloc (Nat.le_refl _) (.cells #[.string nm] 9))).name nm (g := g2) (cap := cap3) HG4.out (by
            rcases HA4.out with h | h
            · exact .inl h
            · exact .inr (by simp; omega)) (by rw [HLN.out]; exact HO4.out)
          rw [HLN.out, ← HTN.out] at this
          exact this)
        clear HW5 HO4 HG4 HA4 c44 f44 e2 fp2 y0 HOD HLN HTN hpn hpl hzv
        generalize (w4.setCell ⟨w.heap.size + 1, 3, none⟩ (.slice (some ⟨g2, 0, none⟩) (q + 1) cap3)) = V7 at HO7 ⊢
        have hpl : w.heap.size + 1 < V7.heap.size := HO7.out.row.lt
        have hpn : some (w.heap.size + 1) ≠ vi.ownBlock := fun e => by have := (HO7.out.items.lt _ e.symm).1; omega
        have e2 : V7.cell? ⟨w.heap.size + 1, 4, none⟩ = some vi := HO7.out.row.cell (by decide)
        have fp2 := HO7.out.row.frozen 4
        have y1 := HE1.out V7 HO7.out.touch
        have HLI := Lib.hid (show (IS.take q).length = q by rw [List.length_take, HIL.out]; omega)
        have hzv : Z.heap.size ≤ V7.heap.size := HO7.out.touch.size
        have HCI := Lib.hid (show Calls Tryz.prog 49 #[.string tx] V7.drew (fun e w3 => e = .returned (.agg #[.int .u8 3, .int .i64 0, .string tx, .slice none 0 0, .slice none 0 0]) ∧ Below V7.heap.size V7 w3 ∧ w3.cell? ⟨w.heap.size + 1, 4, none⟩ = some vi ∧ w3.frozen? ⟨w.heap.size + 1, 4, none⟩ = false ∧ w3.ownsRow Z.heap.size 30 5 vi q cs ∧ V7.heap.size ≤ w3.heap.size) by
          refine (ref11TextOf tx V7.drew).mono ?_
          rintro e w3 ⟨rfl, rfl⟩
          have hb : Below V7.heap.size V7 (V7.drew.alloc (.cells #[.int .u8 3, .int .i64 0, .string tx, .slice none 0 0, .slice none 0 0] 30)) := (Below.refl _ _).drew.alloc (Nat.le_refl _) _
          exact ⟨rfl, hb, by rw [hb.cell hpl]; exact e2, by rw [hb.frozen hpl]; exact fp2, owns_below (by have := HO7.out.items; rwa [HLI.out] at this) hb, hb.size⟩)
        go_upto_region 6 with fail
        go_region_law (first | (refine step_append_lies _ (by rfl) (.tmp 23) (.tmp 30) 28 (by rfl) Z.heap.size 30 i1 _ 5 80 Tryz.underlying28 hi1 hy0 hy1 hy2 rfl (by omega) vi q cs (by rfl) (HO3.out.alloc _) ⟨w3.heap.size, 0, none⟩ 1 1 (Array.toList #[.int .u8 3, .int .i64 0, .string tx, .slice none 0 0, .slice none 0 0]) (by rfl) (by rfl) (World.news_of_block (cs := #[.int .u8 3, .int .i64 0, .string tx, .slice none 0 0, .slice none 0 0]) (t := 30) (fr := (0, 0)) (heap_alloc_new w3 _)) (by simp [Value.oneCell']) (by omega) (by unfold maxLen; omega) (by omega) (by simp; omega) (w3.heap.size + 1) (by simp) ?_; intro g6 cap6 w6 hown4 hgrow4 hat4 hlt4; have c44 := grow_cell hgrow4 hcz3 hpn c43; have f44 := grow_frozen hgrow4 hcz3 hpn f43; have HO4 := Lib.hid hown4; have HG4 := Lib.hid hgrow4; have HA4 := Lib.hid hat4; clear hown4 hgrow4 hat4) | (go_simp; go_at_call 49; (with_reducible refine HCI.out.mono ?_); rintro e w3 ⟨rfl, hb3, c43, f43, ho3, hz3⟩; have hcz3 : w.heap.size + 1 < w3.heap.size := Nat.lt_of_lt_of_le hpl hz3; have HO3 := Lib.hid ho3; have HB3 := Lib.hid hb3; clear ho3 hb3))
        all_goals
          have HO8 := Lib.hid (show ObjAt2 Z (w6.setCell ⟨w.heap.size + 1, 4, none⟩ (.slice (some ⟨g6, 0, none⟩) (q + 1) cap6)) Z.heap.size (w.heap.size + 1) 30 9 30 (.slice (some ⟨g2, 0, none⟩) (q + 1) cap3) (.slice (some ⟨g6, 0, none⟩) (q + 1) cap6) (NS.take (q + 1)) (IS.take (q + 1)) _ by
            have := (HO7.out.below (HB3.out.trans (((Below.refl w3.heap.size w3).alloc (Nat.le_refl _) (.cells #[.int .u8 3, .int .i64 0, .string tx, .slice none 0 0, .slice none 0 0] 30)).mono hz3))).item (it := txtJ tx) (lo := Z.heap.size) (hi := 0) (g := g6) (cap := cap6) (Nat.le_refl _) (by omega) (rep_txt _ _ _ _) HG4.out (by
              rcases HA4.out with h | h
              · exact .inl h
              · exact .inr (by simp; omega)) (by rw [HLI.out]; exact HO4.out)
            rw [HLI.out, ← HTI.out] at this
            exact this)
          clear HO7 HO4 HG4 HA4 c44 f44 e2 fp2 y1 HLI HTI HO3 HB3 c43 f43 HCI
          go_wp2
          go_roundw
          case rel => exact ⟨q + 1, _, _, _, by omega, by go_num, HO8.out⟩
          case measure => simp [intOf]; omega
    · obtain rfl : q = l.length := by omega
      have hn1 : NS.take l.length = NS := List.take_of_length_le (by rw [HNL.out]; exact Nat.le_refl _)
      have hn2 : IS.take l.length = IS := List.take_of_length_le (by rw [HIL.out]; exact Nat.le_refl _)
      rw [hn1, hn2] at HW5
      obtain ⟨an, cn, ai, ci, rfl, rfl, hrep⟩ := HW5.out.done
      have HRP := Lib.hid hrep
      have hrow := HW5.out.row
      have hcw := HW5.out.lt
      have hz := HW5.out.touch.size
      have hres := HW5.out.touch.row HRA.out (by omega)
      have HLN := HNL
      have HLI := HIL
      rw [HLN.out, HLI.out] at hrow
      have r0 := hrow.cell (i := 0) (by decide); have r1 := hrow.cell (i := 1) (by decide); have r2 := hrow.cell (i := 2) (by decide); have r3 := hrow.cell (i := 3) (by decide); have r4 := hrow.cell (i := 4) (by decide)
      have t0 := hres.cell (i := 0) (by decide); have t1 := hres.cell (i := 1) (by decide); have t2 := hres.cell (i := 2) (by decide); have t3 := hres.cell (i := 3) (by decide); have t4 := hres.cell (i := 4) (by decide)
      have s0 := hres.frozen 0; have s1 := hres.frozen 1; have s2 := hres.frozen 2; have s3 := hres.frozen 3; have s4 := hres.frozen 4
      simp only [pick5] at r0 r1 r2 r3 r4 t0 t1 t2 t3 t4
      have HRS := Lib.hid hres
      have HBF := Lib.hid (show Below w.heap.size w V from HBA.out.trans (HW5.out.touch.below (by omega) fun j hj e => by omega))
      clear hrow hres hrep hn1 hn2 HW5
      go_wp2
      refine bodyPost_ret (results_cell_row Tryz.results100 _ _ w.heap.size 30 _ (0, 0) _ rfl (row5_heap (set5 _ _ _ _ _ HRS.out)) Tryz.underlying30 rfl (by kernel_rfl)) rfl ⟨an, cn, ai, ci, ?_, ?_, below5 _ _ _ _ _ HBF.out (Nat.le_refl _)⟩
      · have e1 : (hashJ l).names.length = l.length := List.length_map ..
        have e2 : (hashJ l).items.length = l.length := List.length_map ..
        rw [e1, e2]
      · have h2 := HZ2.out
        exact Rep.carry (lo := Z.heap.size) (by omega) (show V.heap.size ≤ _ by simp [World.setCell]) (fun x hx _ => heap5 _ _ _ _ _ (by omega)) _ _ (by have := HRP.out; rw [HNS.out, HIS.out] at this; exact this)

set_option maxHeartbeats 4000000 in
set_option maxRecDepth 100000 in
theorem ref21HashesValue (l : List Key2) (a : Option Addr) (c : Nat) (w : World) (hK : KeysAt w 0 w.heap.size a l) (hm : mayHashes l = true) :
    Calls Tryz.prog 59 #[.slice a l.length c] w (ObjTPost (hashJ l) w) := by
  obtain ⟨hl, hok, _⟩ := mayHashes_parts hm
  obtain ⟨W2, hW2⟩ : ∃ W2, W2 = w.alloc (.cells #[.int .u8 0, .int .i64 0, .string { data := #[] }, .slice none 0 0, .slice none 0 0] 30) := ⟨_, rfl⟩
  have hz2 : W2.heap.size = w.heap.size + 1 := by rw [hW2]; simp
  have hb2 : Below w.heap.size w W2 := by rw [hW2]; exact (Below.refl _ _).alloc (Nat.le_refl _) _
  have hr0 : W2.rowIs w.heap.size 30 5 (pick5 (.int .u8 0) (.int .i64 0) (.string { data := #[] }) (.slice none 0 0) (.slice none 0 0)) := by
    rw [hW2]; exact rowIs_box5 w (.int .u8 0) (.int .i64 0) (.string { data := #[] }) (.slice none 0 0) (.slice none 0 0) 30
  have HKA := Lib.hid (hK.below hb2 (Nat.le_refl _) (Nat.le_refl _) hb2.size)
  have HMY := Lib.hid (ref21MayHashes l a c W2 HKA.out (Nat.le_trans hl.2 (by decide)) (fun k hk => ⟨Nat.le_trans (role_size2 (hok k hk).1) (by decide), Nat.le_trans (pub_size (hok k hk).2) (by decide)⟩))
  rw [hm] at HMY
  have HR0 := Lib.hid hr0
  have HB2 := Lib.hid hb2
  have HW := Lib.hid hW2
  have HM := Lib.hid hm
  have HZ2 := Lib.hid hz2
  clear hW2 hb2 hr0 hm hK hok
  go_enter Tryz.func59, Tryz.ntmps59
  go_upto_region 1 with fail
  rw [← HW.out]
  go_wp2_with fail
  refine HMY.out.mono ?_
  clear HMY
  rintro r w1 ⟨rfl, hb1⟩
  have HOB := Lib.hid (ref21Object l a c w1 (HKA.out.below hb1 (Nat.le_refl _) (Nat.le_refl _) hb1.size) (Nat.le_trans (mayHashes_parts HM.out).1.2 (by decide)))
  have HB1 := Lib.hid hb1
  clear hb1
  go_wp2_with fail
  refine HOB.out.mono ?_
  clear HOB
  rintro r w5 ⟨an, cn, ai, ci, rfl, hr5, hb5⟩
  have hb25 : Below W2.heap.size W2 w5 := HB1.out.trans (hb5.mono HB1.out.size)
  have hres := below_row hb25 HR0.out (by omega)
  have HRS := Lib.hid hres
  have HR5 := Lib.hid hr5
  have HZ5 := Lib.hid (show w.heap.size < w1.heap.size by have := HB1.out.size; omega)
  have HB5 := Lib.hid (HB2.out.trans (hb25.mono (by omega)))
  have t0 := hres.cell (i := 0) (by decide); have t1 := hres.cell (i := 1) (by decide); have t2 := hres.cell (i := 2) (by decide); have t3 := hres.cell (i := 3) (by decide); have t4 := hres.cell (i := 4) (by decide)
  have s0 := hres.frozen 0; have s1 := hres.frozen 1; have s2 := hres.frozen 2; have s3 := hres.frozen 3; have s4 := hres.frozen 4
  simp only [pick5] at t0 t1 t2 t3 t4
  clear hres hr5 hb5 hb25
  go_wp2
  refine bodyPost_ret (results_row_tmp Tryz.results59 _ _ w.heap.size 30 _ (0, 0) _ rfl (row5_heap (set5 _ _ _ _ _ HRS.out)) Tryz.underlying30 rfl (by kernel_rfl) _ rfl) rfl ?_
  refine ⟨an, cn, ai, ci, rfl, ?_, below5 _ _ _ _ _ HB5.out (Nat.le_refl _)⟩
  exact Rep.carry (Nat.le_of_lt HZ5.out) (show w5.heap.size ≤ _ by simp [World.setCell]) (fun j hj _ => heap5 _ _ _ _ _ (by have := HZ5.out; omega)) _ _ HR5.out

end Go.Proofs.YtgghgcilpfdbjaaGreatDoor
