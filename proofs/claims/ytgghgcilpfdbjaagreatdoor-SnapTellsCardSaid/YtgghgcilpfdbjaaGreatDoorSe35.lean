/- The contract of legateref23.PinValue, of a pin that may be. Printed by genrefpinval.py. -/
import Derived.Test.YtgghgcilpfdbjaaGreatDoorSe34
import Derived.Test.YtgghgcilpfdbjaaGreatDoorSe20
import Derived.Test.YtgghgcilpfdbjaaGreatDoorSe27

namespace Go.Proofs.YtgghgcilpfdbjaaGreatDoor
open Go.RowKit Go.Shelf Go.Sort

theorem names_1 : rises [verN] = true := rfl
theorem names_lv : rises [lenN, verN] = true := by kernel_rfl
theorem infoMemberR : (Tryz.prog.info? 80).map (fun i => (i.zero, i.size, i.bytes)) = some (some (.agg #[.string { data := #[] }, .int .u8 0, .int .i64 0, .string { data := #[] }, .slice none 0 0, .slice none 0 0]), 6, 96) := by kernel_rfl

set_option maxHeartbeats 4000000 in
set_option maxRecDepth 100000 in
theorem ref23PinValueH (nm : ByteArray) (vr ln : Int) (hs : List Key2) (ha : Option Addr) (hc : Nat) (w : World) (hK : KeysAt w 0 w.heap.size ha hs) (hm : mayPin ⟨nm, vr, ln, hs⟩ = true) :
    Calls Tryz.prog 28 #[.agg #[.string nm, .int .i64 vr, .int .i64 ln, .slice ha hs.length hc]] w (PinValPost ⟨nm, vr, ln, hs⟩ w) := by
  obtain ⟨hf, _, hl, hh⟩ := mayPin_parts hm
  dsimp only at hf hl hh
  have hlen : hs.length ≤ 4 := by
    rcases hh with h | h
    · rw [h]; exact Nat.zero_le _
    · exact (mayHashes_parts h).1.2
  have hsz : ∀ k ∈ hs, k.1.size ≤ 9223372036854775807 ∧ k.2.size ≤ 9223372036854775807 := fun k hk => by
    rcases hh with h | h
    · rw [h] at hk; cases hk
    · exact ⟨Nat.le_trans (role_size2 ((mayHashes_parts h).2.1 k hk).1) (by decide), Nat.le_trans (pub_size ((mayHashes_parts h).2.1 k hk).2) (by decide)⟩
  obtain ⟨W2, hW2⟩ : ∃ W2, W2 = (w.alloc (.cells #[.string nm, .int .i64 vr, .int .i64 ln, .slice ha hs.length hc] 36)).alloc (.cells #[.int .u8 0, .int .i64 0, .string { data := #[] }, .slice none 0 0, .slice none 0 0] 30) := ⟨_, rfl⟩
  have hz1 : (w.alloc (.cells #[.string nm, .int .i64 vr, .int .i64 ln, .slice ha hs.length hc] 36)).heap.size = w.heap.size + 1 := by simp
  have hz2 : W2.heap.size = w.heap.size + 2 := by rw [hW2]; simp
  have hb2 : Below w.heap.size w W2 := by rw [hW2]; exact ((Below.refl _ _).alloc (Nat.le_refl _) _).alloc (by simp) _
  have hx0 : W2.heap[w.heap.size]? = some (.cells #[.string nm, .int .i64 vr, .int .i64 ln, .slice ha hs.length hc] 36 (0, 0)) := by rw [hW2, Below.heap_alloc _ _ _ (by simp)]; exact heap_alloc_new w _
  have hr0 : W2.rowIs (w.heap.size + 1) 30 5 (pick5 (.int .u8 0) (.int .i64 0) (.string { data := #[] }) (.slice none 0 0) (.slice none 0 0)) := by
    have := rowIs_box5 (w.alloc (.cells #[.string nm, .int .i64 vr, .int .i64 ln, .slice ha hs.length hc] 36)) (.int .u8 0) (.int .i64 0) (.string { data := #[] }) (.slice none 0 0) (.slice none 0 0) 30
    rw [hz1, ← hW2] at this
    exact this
  have HMP := Lib.hid (ref23MayPin nm vr ln hs ha hc W2 (hK.below hb2 (Nat.le_refl _) (Nat.le_refl _) hb2.size) (Nat.le_trans (file_size hf) (by decide)) (by omega) hsz)
  rw [hm] at HMP
  have HC := Lib.hid (show ∀ w' : World, Below W2.heap.size W2 w' → w'.cell? ⟨w.heap.size, 0, none⟩ = some (.string nm) ∧ w'.cell? ⟨w.heap.size, 1, none⟩ = some (.int .i64 vr) ∧ w'.cell? ⟨w.heap.size, 2, none⟩ = some (.int .i64 ln) ∧ w'.cell? ⟨w.heap.size, 3, none⟩ = some (.slice ha hs.length hc) from fun w' h => by
    have x := (h.block _ (heap_lt hx0)).trans hx0
    exact ⟨box_cell x rfl, box_cell x rfl, box_cell x rfl, box_cell x rfl⟩)
  have HHV := Lib.hid (show mayHashes hs = true → ∀ w' : World, Below W2.heap.size W2 w' → Calls Tryz.prog 59 #[.slice ha hs.length hc] w' (ObjTPost (hashJ hs) w') from fun hmh w' h => ref21HashesValue hs ha hc w' (hK.below (hb2.trans (h.mono hb2.size)) (Nat.le_refl _) (Nat.le_refl _) (Nat.le_trans hb2.size h.size)) hmh)
  have HR0 := Lib.hid hr0
  have HHH := Lib.hid hh
  have HLB := Lib.hid hl
  have HB2 := Lib.hid hb2
  have HW := Lib.hid hW2
  have HZ2 := Lib.hid hz2
  have hz2' : w.heap.size < W2.heap.size := by omega
  clear hW2 hb2 hx0 hr0 hz1 hm hh hf hK hsz hl hlen
  obtain ⟨q0, q1, q2, q3⟩ := HC.out W2 (Below.refl _ _)
  go_enter Tryz.func28, Tryz.ntmps28
  go_upto_region 1 with fail
  rw [← HW.out]
  go_wp2_with fail
  refine HMP.out.mono ?_
  clear HMP q0 q1 q2 q3
  rintro e w1 ⟨rfl, hb1⟩
  have HB1 := Lib.hid hb1
  obtain ⟨q0, q1, q2, q3⟩ := HC.out w1 HB1.out
  clear hb1
  go_wp2_with fail
  refine (ref11NumOf vr w1).mono ?_
  rintro e w' ⟨rfl, rfl⟩
  clear q0 q1 q2 q3
  go_upto_region 4 with fail
  obtain ⟨W3, hW3⟩ : ∃ W3, W3 = (w1.alloc (.cells #[.int .u8 2, .int .i64 vr, .string { data := #[] }, .slice none 0 0, .slice none 0 0] 30)).alloc (.cells #[.string { data := #[118, 101, 114, 115, 105, 111, 110] }, .int .u8 2, .int .i64 vr, .string { data := #[] }, .slice none 0 0, .slice none 0 0] 80) := ⟨_, rfl⟩
  have hzz : (w1.alloc (.cells #[.int .u8 2, .int .i64 vr, .string { data := #[] }, .slice none 0 0, .slice none 0 0] 30)).heap.size = w1.heap.size + 1 := by simp
  have hb3 : Below W2.heap.size W2 W3 := by rw [hW3]; exact (HB1.out.alloc HB1.out.size _).alloc (by have := HB1.out.size; simp; omega) _
  have hx3 : W3.heap[w1.heap.size + 1]? = some (.cells (encM (memN verN vr)).toArray 80 (0, 0)) := by
    rw [hW3, ← hzz]; exact heap_alloc_new _ _
  have hM3 := MemsT.one (W0 := W2.heap.size) (memN verN vr) (numJ vr) w1.heap.size w1.heap.size (by have := HB1.out.size; omega) (by have := HB1.out.size; omega) (by omega) (rep_num W3 w1.heap.size w1.heap.size vr) hx3
  have HB3 := Lib.hid hb3
  have HM3 := Lib.hid hM3
  rw [← hW3]
  have HZ3 := Lib.hid (show w1.heap.size + 1 < W3.heap.size from heap_lt hx3)
  generalize w1.heap.size + 1 = g0 at *
  clear hW3 hzz hb3 hx3 hM3 HB1
  obtain ⟨q0, q1, q2, q3⟩ := HC.out W3 HB3.out
  by_cases hl : ln = -1
  · have HLN := Lib.hid hl
    have hd : decide (0 ≤ ln) = false := by rw [hl]; rfl
    clear hl
    by_cases hE : hs = []
    · have HNE := Lib.hid hE
      have hd2 : decide ((0 : Int) < hs.length) = false := by rw [hE]; rfl
      have hd3 : decide (0 < hs.length) = false := by rw [hE]; rfl
      clear hE
      have HMO := Lib.hid (show Calls Tryz.prog 48 #[.slice (some ⟨g0, 0, none⟩) 1 1] W3 (RObjPost (([(verN, numJ vr)].reverse).map (·.1)) (([(verN, numJ vr)].reverse).map (·.2)) W2.heap.size W3) from ref11ObjectOf W2.heap.size g0 1 W3 [(verN, numJ vr)].reverse [(verN, numJ vr)] ⟨_, HM3.out, rfl⟩ (List.reverse_perm [(verN, numJ vr)]) names_1 (by simp) (HB3.out).size (HM3.out.own.lt g0 rfl).2)
      go_wp2_with fail
      refine HMO.out.mono ?_
      clear HMO
      rintro e w8 ⟨an8, cn8, ai8, ci8, rfl, hr8, hb8⟩
      have HB8 := Lib.hid ((HB3.out).trans (hb8.mono (HB3.out).size))
      have HR8 := Lib.hid hr8
      clear hr8 hb8
      go_upto_region 10 with fail
      obtain ⟨W9, hW9⟩ : ∃ W9, W9 = w8.alloc (.cells #[.int .u8 5, .int .i64 0, .string { data := #[] }, .slice an8 1 cn8, .slice ai8 1 ci8] 30) := ⟨_, rfl⟩
      have hb89 : Below w8.heap.size w8 W9 := by rw [hW9]; exact (Below.refl _ _).alloc (Nat.le_refl _) _
      have hx9 : W9.heap[w8.heap.size]? = some (.cells #[.int .u8 5, .int .i64 0, .string { data := #[] }, .slice an8 1 cn8, .slice ai8 1 ci8] 30 (0, 0)) := by rw [hW9]; exact heap_alloc_new w8 _
      rw [← hW9]
      have y0 := box_cell hx9 (j := 0) rfl; have y1 := box_cell hx9 (j := 1) rfl; have y2 := box_cell hx9 (j := 2) rfl; have y3 := box_cell hx9 (j := 3) rfl; have y4 := box_cell hx9 (j := 4) rfl
      have hb29 : Below W2.heap.size W2 W9 := HB8.out.trans (hb89.mono HB8.out.size)
      have hres := below_row hb29 HR0.out (by omega)
      have HRS := Lib.hid hres
      have HR9 := Lib.hid (HR8.out.below (B := w8.heap.size) hb89 (Nat.le_refl _) (Nat.le_refl W2.heap.size) (Nat.le_refl _))
      have HZ9 := Lib.hid (show w.heap.size ≤ W2.heap.size ∧ w8.heap.size ≤ W9.heap.size from ⟨by omega, hb89.size⟩)
      have HB9 := Lib.hid (HB2.out.trans (hb29.mono (by omega)))
      have t0 := hres.cell (i := 0) (by decide); have t1 := hres.cell (i := 1) (by decide); have t2 := hres.cell (i := 2) (by decide); have t3 := hres.cell (i := 3) (by decide); have t4 := hres.cell (i := 4) (by decide)
      have s0 := hres.frozen 0; have s1 := hres.frozen 1; have s2 := hres.frozen 2; have s3 := hres.frozen 3; have s4 := hres.frozen 4
      simp only [pick5] at t0 t1 t2 t3 t4
      clear hres hb29 hb89 hW9 hx9
      go_wp2
      refine bodyPost_ret (results_row_tmp Tryz.results28 _ _ (w.heap.size + 1) 30 _ (0, 0) _ rfl (row5_heap (set5 _ _ _ _ _ HRS.out)) Tryz.underlying30 rfl (by kernel_rfl) _ rfl) rfl ?_
      have e : pinJ ⟨nm, vr, ln, hs⟩ = .mk 5 0 { data := #[] } (([(verN, numJ vr)].reverse).map (·.1)) (([(verN, numJ vr)].reverse).map (·.2)) := by
        have h1 : hs.isEmpty = true := by rw [HNE.out]; rfl
        simp [pinJ, pinM, h1, HLN.out]
      unfold PinValPost
      rw [e]
      refine ⟨an8, cn8, ai8, ci8, rfl, ?_, below5 _ _ _ _ _ HB9.out (by omega)⟩
      exact Rep.carry (lo := W2.heap.size) HZ9.out.1 (show w8.heap.size ≤ _ by have := HZ9.out.2; simp [World.setCell]; omega) (fun j hj _ => heap5 _ _ _ _ _ (by have := HB2.out.size; omega)) _ _ HR9.out
    · have HNE := Lib.hid hE
      have hd2 : decide ((0 : Int) < hs.length) = true := by
        have := List.length_pos_iff.2 hE
        simp; omega
      have hd3 : decide (0 < hs.length) = true := by simpa using List.length_pos_iff.2 hE
      have hmh := HHH.out.resolve_left hE
      clear hE
      go_wp2_with fail
      refine (HHV.out hmh W3 HB3.out).mono ?_
      have HMH := Lib.hid hmh
      clear q0 q1 q2 q3 hmh
      rintro r w5 ⟨an, cn, ai, ci, rfl, hr5, hb5⟩
      have HR5 := Lib.hid hr5
      have HB5 := Lib.hid hb5
      clear hr5 hb5
      go_upto_region 8 with fail
      obtain ⟨W6, hW6⟩ : ∃ W6, W6 = w5.alloc (.cells #[.int .u8 5, .int .i64 0, .string { data := #[] }, .slice an (hashJ hs).names.length cn, .slice ai (hashJ hs).items.length ci] 30) := ⟨_, rfl⟩
      have hb56 : Below w5.heap.size w5 W6 := by rw [hW6]; exact (Below.refl _ _).alloc (Nat.le_refl _) _
      have hx6 : W6.heap[w5.heap.size]? = some (.cells #[.int .u8 5, .int .i64 0, .string { data := #[] }, .slice an (hashJ hs).names.length cn, .slice ai (hashJ hs).items.length ci] 30 (0, 0)) := by rw [hW6]; exact heap_alloc_new w5 _
      rw [← hW6]
      have hb36 : Below W3.heap.size W3 W6 := HB5.out.trans (hb56.mono HB5.out.size)
      have HB26 := Lib.hid ((HB3.out).trans (hb36.mono (HB3.out).size))
      have h26z : W2.heap.size ≤ W6.heap.size := HB26.out.size
      have y0 := box_cell hx6 (j := 0) rfl; have y1 := box_cell hx6 (j := 1) rfl; have y2 := box_cell hx6 (j := 2) rfl; have y3 := box_cell hx6 (j := 3) rfl; have y4 := box_cell hx6 (j := 4) rfl
      have HM6 := Lib.hid (HM3.out.below hb36)
      have HO6 := Lib.hid (show W6.ownsRow W2.heap.size 80 6 (.slice (some ⟨g0, 0, none⟩) 1 1) 1 (flatM [memN verN vr]) from HM6.out.own)
      have HR6 := Lib.hid (HR5.out.below (B := w5.heap.size) hb56 (Nat.le_refl _) (Nat.le_refl _) (Nat.le_refl _))
      have HZ6 := Lib.hid (show W2.heap.size ≤ W3.heap.size ∧ W3.heap.size ≤ w5.heap.size ∧ w5.heap.size ≤ W6.heap.size ∧ g0 < W3.heap.size from ⟨(HB3.out).size, HB5.out.size, hb56.size, (HM3.out.own.lt g0 rfl).2⟩)
      clear hW6 hx6 hb56 hb36
      obtain ⟨i1, hi1, hy0, hy1, hy2⟩ := info_parts infoMemberR
      go_wp2_with (at_builtin; refine wpList_append_lies _ rfl (.tmp 38) (.tmp 41) 87 rfl W2.heap.size 80 i1 _ 6 96 Tryz.underlying87 hi1 hy0 hy1 hy2 rfl (by omega) (.slice (some ⟨g0, 0, none⟩) 1 1) 1 (flatM [memN verN vr]) rfl (HO6.out.alloc _) ⟨W6.heap.size, 0, none⟩ 1 1 (encM (⟨hasN, 5, 0, { data := #[] }, an, (hashJ hs).names.length, cn, ai, (hashJ hs).items.length, ci⟩ : Mem)) rfl rfl (World.news_of_block (cs := #[.string { data := #[104, 97, 115, 104, 101, 115] }, .int .u8 5, .int .i64 0, .string { data := #[] }, .slice an (hashJ hs).names.length cn, .slice ai (hashJ hs).items.length ci]) (t := 80) (fr := (0, 0)) (heap_alloc_new W6 _)) (encM_one _) (by omega) (by unfold maxLen; omega) (by omega) (by simp; omega) (W6.heap.size + 1) (by simp) ?_; intro g3 cap4 w7 hown7 hgrow7 hat7 hlt7; have HO7 := Lib.hid hown7; have HG7 := Lib.hid hgrow7; have HA7 := Lib.hid hat7; clear hown7 hgrow7 hat7)
      have hga : Below W6.heap.size W6 (W6.alloc (.cells #[.string { data := #[104, 97, 115, 104, 101, 115] }, .int .u8 5, .int .i64 0, .string { data := #[] }, .slice an (hashJ hs).names.length cn, .slice ai (hashJ hs).items.length ci] 80)) := (Below.refl _ _).alloc (Nat.le_refl _) _
      have HB7 := Lib.hid (below_grown (HB26.out.trans (hga.mono HB26.out.size)) (by simp; omega) HG7.out (fun b hb => (HO6.out.lt b hb).1))
      have hz6 := HZ6.out
      have HM7 := Lib.hid (show MemsT 80 W2.heap.size w7 (.slice (some ⟨g3, 0, none⟩) 2 cap4) ([memN verN vr] ++ [(⟨hasN, 5, 0, { data := #[] }, an, (hashJ hs).names.length, cn, ai, (hashJ hs).items.length, ci⟩ : Mem)]) (([(verN, numJ vr)]).map (·.2) ++ [hashJ hs]) from (HM6.out.below hga).snoc (v' := .slice (some ⟨g3, 0, none⟩) (1 + 1) cap4) (⟨hasN, 5, 0, { data := #[] }, an, (hashJ hs).names.length, cn, ai, (hashJ hs).items.length, ci⟩ : Mem) (hashJ hs) W3.heap.size w5.heap.size (by omega) (by simp; omega) (fun b hb => by simp only [Value.ownBlock, Option.some.injEq] at hb; omega) (HR6.out.below hga (by omega) (Nat.le_refl _) (Nat.le_refl _)) HG7.out HO7.out (by
        rcases HA7.out with h | h
        · exact .inl h.symm
        · exact .inr ⟨g3, rfl, by simp; omega⟩))
      clear hga HO7 HG7 HA7 y0 y1 y2 y3 y4
      have HMO := Lib.hid (show Calls Tryz.prog 48 #[.slice (some ⟨g3, 0, none⟩) 2 cap4] w7 (RObjPost (([(verN, numJ vr), (hasN, hashJ hs)].reverse).map (·.1)) (([(verN, numJ vr), (hasN, hashJ hs)].reverse).map (·.2)) W2.heap.size w7) from ref11ObjectOf W2.heap.size g3 cap4 w7 [(verN, numJ vr), (hasN, hashJ hs)].reverse [(verN, numJ vr), (hasN, hashJ hs)] ⟨_, HM7.out, rfl⟩ (List.reverse_perm [(verN, numJ vr), (hasN, hashJ hs)]) names_2 (by simp) (HB7.out).size (HM7.out.own.lt g3 rfl).2)
      go_wp2_with fail
      refine HMO.out.mono ?_
      clear HMO
      rintro e w8 ⟨an8, cn8, ai8, ci8, rfl, hr8, hb8⟩
      have HB8 := Lib.hid ((HB7.out).trans (hb8.mono (HB7.out).size))
      have HR8 := Lib.hid hr8
      clear hr8 hb8
      go_upto_region 10 with fail
      obtain ⟨W9, hW9⟩ : ∃ W9, W9 = w8.alloc (.cells #[.int .u8 5, .int .i64 0, .string { data := #[] }, .slice an8 2 cn8, .slice ai8 2 ci8] 30) := ⟨_, rfl⟩
      have hb89 : Below w8.heap.size w8 W9 := by rw [hW9]; exact (Below.refl _ _).alloc (Nat.le_refl _) _
      have hx9 : W9.heap[w8.heap.size]? = some (.cells #[.int .u8 5, .int .i64 0, .string { data := #[] }, .slice an8 2 cn8, .slice ai8 2 ci8] 30 (0, 0)) := by rw [hW9]; exact heap_alloc_new w8 _
      rw [← hW9]
      have y0 := box_cell hx9 (j := 0) rfl; have y1 := box_cell hx9 (j := 1) rfl; have y2 := box_cell hx9 (j := 2) rfl; have y3 := box_cell hx9 (j := 3) rfl; have y4 := box_cell hx9 (j := 4) rfl
      have hb29 : Below W2.heap.size W2 W9 := HB8.out.trans (hb89.mono HB8.out.size)
      have hres := below_row hb29 HR0.out (by omega)
      have HRS := Lib.hid hres
      have HR9 := Lib.hid (HR8.out.below (B := w8.heap.size) hb89 (Nat.le_refl _) (Nat.le_refl W2.heap.size) (Nat.le_refl _))
      have HZ9 := Lib.hid (show w.heap.size ≤ W2.heap.size ∧ w8.heap.size ≤ W9.heap.size from ⟨by omega, hb89.size⟩)
      have HB9 := Lib.hid (HB2.out.trans (hb29.mono (by omega)))
      have t0 := hres.cell (i := 0) (by decide); have t1 := hres.cell (i := 1) (by decide); have t2 := hres.cell (i := 2) (by decide); have t3 := hres.cell (i := 3) (by decide); have t4 := hres.cell (i := 4) (by decide)
      have s0 := hres.frozen 0; have s1 := hres.frozen 1; have s2 := hres.frozen 2; have s3 := hres.frozen 3; have s4 := hres.frozen 4
      simp only [pick5] at t0 t1 t2 t3 t4
      clear hres hb29 hb89 hW9 hx9
      go_wp2
      refine bodyPost_ret (results_row_tmp Tryz.results28 _ _ (w.heap.size + 1) 30 _ (0, 0) _ rfl (row5_heap (set5 _ _ _ _ _ HRS.out)) Tryz.underlying30 rfl (by kernel_rfl) _ rfl) rfl ?_
      have e : pinJ ⟨nm, vr, ln, hs⟩ = .mk 5 0 { data := #[] } (([(verN, numJ vr), (hasN, hashJ hs)].reverse).map (·.1)) (([(verN, numJ vr), (hasN, hashJ hs)].reverse).map (·.2)) := by
        have h1 : hs.isEmpty = false := by
          cases hs with
          | nil => exact absurd rfl HNE.out
          | cons _ _ => rfl
        simp [pinJ, pinM, h1, HLN.out]
      unfold PinValPost
      rw [e]
      refine ⟨an8, cn8, ai8, ci8, rfl, ?_, below5 _ _ _ _ _ HB9.out (by omega)⟩
      exact Rep.carry (lo := W2.heap.size) HZ9.out.1 (show w8.heap.size ≤ _ by have := HZ9.out.2; simp [World.setCell]; omega) (fun j hj _ => heap5 _ _ _ _ _ (by have := HB2.out.size; omega)) _ _ HR9.out
  · have HLN := Lib.hid hl
    have hd : decide (0 ≤ ln) = true := by have := HLB.out; simp; omega
    clear hl
    by_cases hE : hs = []
    · have HNE := Lib.hid hE
      have hd2 : decide ((0 : Int) < hs.length) = false := by rw [hE]; rfl
      have hd3 : decide (0 < hs.length) = false := by rw [hE]; rfl
      clear hE
      go_upto_region 5 with fail
      obtain ⟨i1, hi1, hy0, hy1, hy2⟩ := info_parts infoMemberR
      have HOD := Lib.hid (show W3.ownsRow W2.heap.size 80 6 (.slice (some ⟨g0, 0, none⟩) 1 1) 1 (flatM [memN verN vr]) from HM3.out.own)
      have hwz : W2.heap.size ≤ W3.heap.size := HB3.out.size
      go_wp2_with (first | (go_at_call 50; refine (ref11NumOf ln _).mono ?_; rintro e w' ⟨rfl, rfl⟩) | (at_builtin; refine wpList_append_lies _ rfl (.tmp 21) (.tmp 26) 87 rfl W2.heap.size 80 i1 _ 6 96 Tryz.underlying87 hi1 hy0 hy1 hy2 rfl (by omega) (.slice (some ⟨g0, 0, none⟩) 1 1) 1 (flatM [memN verN vr]) rfl ((HOD.out.alloc _).alloc _) ⟨W3.heap.size + 1, 0, none⟩ 1 1 (encM (memN lenN ln)) rfl rfl (World.news_of_block (cs := (encM (memN lenN ln)).toArray) (t := 80) (fr := (0, 0)) (heap_2nd W3 _ _)) (encM_one _) (by omega) (by unfold maxLen; omega) (by omega) (by simp; omega) (W3.heap.size + 2) (by simp) ?_; intro g2 cap3 w4 hown4 hgrow4 hat4 hlt4; have HO4 := Lib.hid hown4; have HG4 := Lib.hid hgrow4; have HA4 := Lib.hid hat4; have HB4 := Lib.hid (below_grown ((HB3.out.alloc HB3.out.size (.cells #[.int .u8 2, .int .i64 ln, .string { data := #[] }, .slice none 0 0, .slice none 0 0] 30)).alloc (by simp; omega) (.cells (encM (memN lenN ln)).toArray 80)) (by simp; omega) hgrow4 (fun b hb => (HOD.out.lt b hb).1)); obtain ⟨q0, q1, q2, q3⟩ := HC.out w4 HB4.out; clear hown4 hgrow4 hat4))
      have hga : Below W3.heap.size W3 ((W3.alloc (.cells #[.int .u8 2, .int .i64 ln, .string { data := #[] }, .slice none 0 0, .slice none 0 0] 30)).alloc (.cells (encM (memN lenN ln)).toArray 80)) := ((Below.refl _ _).alloc (Nat.le_refl _) _).alloc (by simp) _
      have hms4 := (HM3.out.below hga).snoc (v' := .slice (some ⟨g2, 0, none⟩) (1 + 1) cap3) (memN lenN ln) (numJ ln) W2.heap.size W2.heap.size (Nat.le_refl _) (by simp; omega) (fun b hb => by omega) (rep_num _ _ _ _) HG4.out HO4.out (by
        rcases HA4.out with h | h
        · exact .inl h.symm
        · exact .inr ⟨g2, rfl, by simp; omega⟩)
      have HM4 := Lib.hid (show MemsT 80 W2.heap.size w4 (.slice (some ⟨g2, 0, none⟩) 2 cap3) [memN verN vr, memN lenN ln] [numJ vr, numJ ln] from hms4)
      clear hms4 hga HO4 HG4 HA4
      have HMO := Lib.hid (show Calls Tryz.prog 48 #[.slice (some ⟨g2, 0, none⟩) 2 cap3] w4 (RObjPost (([(verN, numJ vr), (lenN, numJ ln)].reverse).map (·.1)) (([(verN, numJ vr), (lenN, numJ ln)].reverse).map (·.2)) W2.heap.size w4) from ref11ObjectOf W2.heap.size g2 cap3 w4 [(verN, numJ vr), (lenN, numJ ln)].reverse [(verN, numJ vr), (lenN, numJ ln)] ⟨_, HM4.out, rfl⟩ (List.reverse_perm [(verN, numJ vr), (lenN, numJ ln)]) names_lv (by simp) (HB4.out).size (HM4.out.own.lt g2 rfl).2)
      refine HMO.out.mono ?_
      clear HMO
      rintro e w8 ⟨an8, cn8, ai8, ci8, rfl, hr8, hb8⟩
      have HB8 := Lib.hid ((HB4.out).trans (hb8.mono (HB4.out).size))
      have HR8 := Lib.hid hr8
      clear hr8 hb8
      go_upto_region 10 with fail
      obtain ⟨W9, hW9⟩ : ∃ W9, W9 = w8.alloc (.cells #[.int .u8 5, .int .i64 0, .string { data := #[] }, .slice an8 2 cn8, .slice ai8 2 ci8] 30) := ⟨_, rfl⟩
      have hb89 : Below w8.heap.size w8 W9 := by rw [hW9]; exact (Below.refl _ _).alloc (Nat.le_refl _) _
      have hx9 : W9.heap[w8.heap.size]? = some (.cells #[.int .u8 5, .int .i64 0, .string { data := #[] }, .slice an8 2 cn8, .slice ai8 2 ci8] 30 (0, 0)) := by rw [hW9]; exact heap_alloc_new w8 _
      rw [← hW9]
      have y0 := box_cell hx9 (j := 0) rfl; have y1 := box_cell hx9 (j := 1) rfl; have y2 := box_cell hx9 (j := 2) rfl; have y3 := box_cell hx9 (j := 3) rfl; have y4 := box_cell hx9 (j := 4) rfl
      have hb29 : Below W2.heap.size W2 W9 := HB8.out.trans (hb89.mono HB8.out.size)
      have hres := below_row hb29 HR0.out (by omega)
      have HRS := Lib.hid hres
      have HR9 := Lib.hid (HR8.out.below (B := w8.heap.size) hb89 (Nat.le_refl _) (Nat.le_refl W2.heap.size) (Nat.le_refl _))
      have HZ9 := Lib.hid (show w.heap.size ≤ W2.heap.size ∧ w8.heap.size ≤ W9.heap.size from ⟨by omega, hb89.size⟩)
      have HB9 := Lib.hid (HB2.out.trans (hb29.mono (by omega)))
      have t0 := hres.cell (i := 0) (by decide); have t1 := hres.cell (i := 1) (by decide); have t2 := hres.cell (i := 2) (by decide); have t3 := hres.cell (i := 3) (by decide); have t4 := hres.cell (i := 4) (by decide)
      have s0 := hres.frozen 0; have s1 := hres.frozen 1; have s2 := hres.frozen 2; have s3 := hres.frozen 3; have s4 := hres.frozen 4
      simp only [pick5] at t0 t1 t2 t3 t4
      clear hres hb29 hb89 hW9 hx9
      go_wp2
      refine bodyPost_ret (results_row_tmp Tryz.results28 _ _ (w.heap.size + 1) 30 _ (0, 0) _ rfl (row5_heap (set5 _ _ _ _ _ HRS.out)) Tryz.underlying30 rfl (by kernel_rfl) _ rfl) rfl ?_
      have e : pinJ ⟨nm, vr, ln, hs⟩ = .mk 5 0 { data := #[] } (([(verN, numJ vr), (lenN, numJ ln)].reverse).map (·.1)) (([(verN, numJ vr), (lenN, numJ ln)].reverse).map (·.2)) := by
        have h1 : hs.isEmpty = true := by rw [HNE.out]; rfl
        simp [pinJ, pinM, h1, HLN.out]
      unfold PinValPost
      rw [e]
      refine ⟨an8, cn8, ai8, ci8, rfl, ?_, below5 _ _ _ _ _ HB9.out (by omega)⟩
      exact Rep.carry (lo := W2.heap.size) HZ9.out.1 (show w8.heap.size ≤ _ by have := HZ9.out.2; simp [World.setCell]; omega) (fun j hj _ => heap5 _ _ _ _ _ (by have := HB2.out.size; omega)) _ _ HR9.out
    · have HNE := Lib.hid hE
      have hd2 : decide ((0 : Int) < hs.length) = true := by
        have := List.length_pos_iff.2 hE
        simp; omega
      have hd3 : decide (0 < hs.length) = true := by simpa using List.length_pos_iff.2 hE
      have hmh := HHH.out.resolve_left hE
      clear hE
      go_upto_region 5 with fail
      obtain ⟨i1, hi1, hy0, hy1, hy2⟩ := info_parts infoMemberR
      have HOD := Lib.hid (show W3.ownsRow W2.heap.size 80 6 (.slice (some ⟨g0, 0, none⟩) 1 1) 1 (flatM [memN verN vr]) from HM3.out.own)
      have hwz : W2.heap.size ≤ W3.heap.size := HB3.out.size
      go_wp2_with (first | (go_at_call 50; refine (ref11NumOf ln _).mono ?_; rintro e w' ⟨rfl, rfl⟩) | (at_builtin; refine wpList_append_lies _ rfl (.tmp 21) (.tmp 26) 87 rfl W2.heap.size 80 i1 _ 6 96 Tryz.underlying87 hi1 hy0 hy1 hy2 rfl (by omega) (.slice (some ⟨g0, 0, none⟩) 1 1) 1 (flatM [memN verN vr]) rfl ((HOD.out.alloc _).alloc _) ⟨W3.heap.size + 1, 0, none⟩ 1 1 (encM (memN lenN ln)) rfl rfl (World.news_of_block (cs := (encM (memN lenN ln)).toArray) (t := 80) (fr := (0, 0)) (heap_2nd W3 _ _)) (encM_one _) (by omega) (by unfold maxLen; omega) (by omega) (by simp; omega) (W3.heap.size + 2) (by simp) ?_; intro g2 cap3 w4 hown4 hgrow4 hat4 hlt4; have HO4 := Lib.hid hown4; have HG4 := Lib.hid hgrow4; have HA4 := Lib.hid hat4; have HB4 := Lib.hid (below_grown ((HB3.out.alloc HB3.out.size (.cells #[.int .u8 2, .int .i64 ln, .string { data := #[] }, .slice none 0 0, .slice none 0 0] 30)).alloc (by simp; omega) (.cells (encM (memN lenN ln)).toArray 80)) (by simp; omega) hgrow4 (fun b hb => (HOD.out.lt b hb).1)); obtain ⟨q0, q1, q2, q3⟩ := HC.out w4 HB4.out; clear hown4 hgrow4 hat4))
      have hga : Below W3.heap.size W3 ((W3.alloc (.cells #[.int .u8 2, .int .i64 ln, .string { data := #[] }, .slice none 0 0, .slice none 0 0] 30)).alloc (.cells (encM (memN lenN ln)).toArray 80)) := ((Below.refl _ _).alloc (Nat.le_refl _) _).alloc (by simp) _
      have hms4 := (HM3.out.below hga).snoc (v' := .slice (some ⟨g2, 0, none⟩) (1 + 1) cap3) (memN lenN ln) (numJ ln) W2.heap.size W2.heap.size (Nat.le_refl _) (by simp; omega) (fun b hb => by omega) (rep_num _ _ _ _) HG4.out HO4.out (by
        rcases HA4.out with h | h
        · exact .inl h.symm
        · exact .inr ⟨g2, rfl, by simp; omega⟩)
      have HM4 := Lib.hid (show MemsT 80 W2.heap.size w4 (.slice (some ⟨g2, 0, none⟩) 2 cap3) [memN verN vr, memN lenN ln] [numJ vr, numJ ln] from hms4)
      clear hms4 hga HO4 HG4 HA4
      refine (HHV.out hmh w4 HB4.out).mono ?_
      have HMH := Lib.hid hmh
      clear q0 q1 q2 q3 hmh
      rintro r w5 ⟨an, cn, ai, ci, rfl, hr5, hb5⟩
      have HR5 := Lib.hid hr5
      have HB5 := Lib.hid hb5
      clear hr5 hb5
      go_upto_region 8 with fail
      obtain ⟨W6, hW6⟩ : ∃ W6, W6 = w5.alloc (.cells #[.int .u8 5, .int .i64 0, .string { data := #[] }, .slice an (hashJ hs).names.length cn, .slice ai (hashJ hs).items.length ci] 30) := ⟨_, rfl⟩
      have hb56 : Below w5.heap.size w5 W6 := by rw [hW6]; exact (Below.refl _ _).alloc (Nat.le_refl _) _
      have hx6 : W6.heap[w5.heap.size]? = some (.cells #[.int .u8 5, .int .i64 0, .string { data := #[] }, .slice an (hashJ hs).names.length cn, .slice ai (hashJ hs).items.length ci] 30 (0, 0)) := by rw [hW6]; exact heap_alloc_new w5 _
      rw [← hW6]
      have hb36 : Below w4.heap.size w4 W6 := HB5.out.trans (hb56.mono HB5.out.size)
      have HB26 := Lib.hid ((HB4.out).trans (hb36.mono (HB4.out).size))
      have h26z : W2.heap.size ≤ W6.heap.size := HB26.out.size
      have y0 := box_cell hx6 (j := 0) rfl; have y1 := box_cell hx6 (j := 1) rfl; have y2 := box_cell hx6 (j := 2) rfl; have y3 := box_cell hx6 (j := 3) rfl; have y4 := box_cell hx6 (j := 4) rfl
      have HM6 := Lib.hid (HM4.out.below hb36)
      have HO6 := Lib.hid (show W6.ownsRow W2.heap.size 80 6 (.slice (some ⟨g2, 0, none⟩) 2 cap3) 2 (flatM [memN verN vr, memN lenN ln]) from HM6.out.own)
      have HR6 := Lib.hid (HR5.out.below (B := w5.heap.size) hb56 (Nat.le_refl _) (Nat.le_refl _) (Nat.le_refl _))
      have HZ6 := Lib.hid (show W2.heap.size ≤ w4.heap.size ∧ w4.heap.size ≤ w5.heap.size ∧ w5.heap.size ≤ W6.heap.size ∧ g2 < w4.heap.size from ⟨(HB4.out).size, HB5.out.size, hb56.size, (HM4.out.own.lt g2 rfl).2⟩)
      clear hW6 hx6 hb56 hb36
      obtain ⟨i1, hi1, hy0, hy1, hy2⟩ := info_parts infoMemberR
      go_wp2_with (at_builtin; refine wpList_append_lies _ rfl (.tmp 38) (.tmp 41) 87 rfl W2.heap.size 80 i1 _ 6 96 Tryz.underlying87 hi1 hy0 hy1 hy2 rfl (by omega) (.slice (some ⟨g2, 0, none⟩) 2 cap3) 2 (flatM [memN verN vr, memN lenN ln]) rfl (HO6.out.alloc _) ⟨W6.heap.size, 0, none⟩ 1 1 (encM (⟨hasN, 5, 0, { data := #[] }, an, (hashJ hs).names.length, cn, ai, (hashJ hs).items.length, ci⟩ : Mem)) rfl rfl (World.news_of_block (cs := #[.string { data := #[104, 97, 115, 104, 101, 115] }, .int .u8 5, .int .i64 0, .string { data := #[] }, .slice an (hashJ hs).names.length cn, .slice ai (hashJ hs).items.length ci]) (t := 80) (fr := (0, 0)) (heap_alloc_new W6 _)) (encM_one _) (by omega) (by unfold maxLen; omega) (by omega) (by simp; omega) (W6.heap.size + 1) (by simp) ?_; intro g3 cap4 w7 hown7 hgrow7 hat7 hlt7; have HO7 := Lib.hid hown7; have HG7 := Lib.hid hgrow7; have HA7 := Lib.hid hat7; clear hown7 hgrow7 hat7)
      have hga : Below W6.heap.size W6 (W6.alloc (.cells #[.string { data := #[104, 97, 115, 104, 101, 115] }, .int .u8 5, .int .i64 0, .string { data := #[] }, .slice an (hashJ hs).names.length cn, .slice ai (hashJ hs).items.length ci] 80)) := (Below.refl _ _).alloc (Nat.le_refl _) _
      have HB7 := Lib.hid (below_grown (HB26.out.trans (hga.mono HB26.out.size)) (by simp; omega) HG7.out (fun b hb => (HO6.out.lt b hb).1))
      have hz6 := HZ6.out
      have HM7 := Lib.hid (show MemsT 80 W2.heap.size w7 (.slice (some ⟨g3, 0, none⟩) 3 cap4) ([memN verN vr, memN lenN ln] ++ [(⟨hasN, 5, 0, { data := #[] }, an, (hashJ hs).names.length, cn, ai, (hashJ hs).items.length, ci⟩ : Mem)]) (([(verN, numJ vr), (lenN, numJ ln)]).map (·.2) ++ [hashJ hs]) from (HM6.out.below hga).snoc (v' := .slice (some ⟨g3, 0, none⟩) (2 + 1) cap4) (⟨hasN, 5, 0, { data := #[] }, an, (hashJ hs).names.length, cn, ai, (hashJ hs).items.length, ci⟩ : Mem) (hashJ hs) w4.heap.size w5.heap.size (by omega) (by simp; omega) (fun b hb => by simp only [Value.ownBlock, Option.some.injEq] at hb; omega) (HR6.out.below hga (by omega) (Nat.le_refl _) (Nat.le_refl _)) HG7.out HO7.out (by
        rcases HA7.out with h | h
        · exact .inl h.symm
        · exact .inr ⟨g3, rfl, by simp; omega⟩))
      clear hga HO7 HG7 HA7 y0 y1 y2 y3 y4
      have HMO := Lib.hid (show Calls Tryz.prog 48 #[.slice (some ⟨g3, 0, none⟩) 3 cap4] w7 (RObjPost (([(verN, numJ vr), (lenN, numJ ln), (hasN, hashJ hs)].reverse).map (·.1)) (([(verN, numJ vr), (lenN, numJ ln), (hasN, hashJ hs)].reverse).map (·.2)) W2.heap.size w7) from ref11ObjectOf W2.heap.size g3 cap4 w7 [(verN, numJ vr), (lenN, numJ ln), (hasN, hashJ hs)].reverse [(verN, numJ vr), (lenN, numJ ln), (hasN, hashJ hs)] ⟨_, HM7.out, rfl⟩ (List.reverse_perm [(verN, numJ vr), (lenN, numJ ln), (hasN, hashJ hs)]) names_3 (by simp) (HB7.out).size (HM7.out.own.lt g3 rfl).2)
      go_wp2_with fail
      refine HMO.out.mono ?_
      clear HMO
      rintro e w8 ⟨an8, cn8, ai8, ci8, rfl, hr8, hb8⟩
      have HB8 := Lib.hid ((HB7.out).trans (hb8.mono (HB7.out).size))
      have HR8 := Lib.hid hr8
      clear hr8 hb8
      go_upto_region 10 with fail
      obtain ⟨W9, hW9⟩ : ∃ W9, W9 = w8.alloc (.cells #[.int .u8 5, .int .i64 0, .string { data := #[] }, .slice an8 3 cn8, .slice ai8 3 ci8] 30) := ⟨_, rfl⟩
      have hb89 : Below w8.heap.size w8 W9 := by rw [hW9]; exact (Below.refl _ _).alloc (Nat.le_refl _) _
      have hx9 : W9.heap[w8.heap.size]? = some (.cells #[.int .u8 5, .int .i64 0, .string { data := #[] }, .slice an8 3 cn8, .slice ai8 3 ci8] 30 (0, 0)) := by rw [hW9]; exact heap_alloc_new w8 _
      rw [← hW9]
      have y0 := box_cell hx9 (j := 0) rfl; have y1 := box_cell hx9 (j := 1) rfl; have y2 := box_cell hx9 (j := 2) rfl; have y3 := box_cell hx9 (j := 3) rfl; have y4 := box_cell hx9 (j := 4) rfl
      have hb29 : Below W2.heap.size W2 W9 := HB8.out.trans (hb89.mono HB8.out.size)
      have hres := below_row hb29 HR0.out (by omega)
      have HRS := Lib.hid hres
      have HR9 := Lib.hid (HR8.out.below (B := w8.heap.size) hb89 (Nat.le_refl _) (Nat.le_refl W2.heap.size) (Nat.le_refl _))
      have HZ9 := Lib.hid (show w.heap.size ≤ W2.heap.size ∧ w8.heap.size ≤ W9.heap.size from ⟨by omega, hb89.size⟩)
      have HB9 := Lib.hid (HB2.out.trans (hb29.mono (by omega)))
      have t0 := hres.cell (i := 0) (by decide); have t1 := hres.cell (i := 1) (by decide); have t2 := hres.cell (i := 2) (by decide); have t3 := hres.cell (i := 3) (by decide); have t4 := hres.cell (i := 4) (by decide)
      have s0 := hres.frozen 0; have s1 := hres.frozen 1; have s2 := hres.frozen 2; have s3 := hres.frozen 3; have s4 := hres.frozen 4
      simp only [pick5] at t0 t1 t2 t3 t4
      clear hres hb29 hb89 hW9 hx9
      go_wp2
      refine bodyPost_ret (results_row_tmp Tryz.results28 _ _ (w.heap.size + 1) 30 _ (0, 0) _ rfl (row5_heap (set5 _ _ _ _ _ HRS.out)) Tryz.underlying30 rfl (by kernel_rfl) _ rfl) rfl ?_
      have e : pinJ ⟨nm, vr, ln, hs⟩ = .mk 5 0 { data := #[] } (([(verN, numJ vr), (lenN, numJ ln), (hasN, hashJ hs)].reverse).map (·.1)) (([(verN, numJ vr), (lenN, numJ ln), (hasN, hashJ hs)].reverse).map (·.2)) := by
        have h1 : hs.isEmpty = false := by
          cases hs with
          | nil => exact absurd rfl HNE.out
          | cons _ _ => rfl
        simp [pinJ, pinM, h1, HLN.out]
      unfold PinValPost
      rw [e]
      refine ⟨an8, cn8, ai8, ci8, rfl, ?_, below5 _ _ _ _ _ HB9.out (by omega)⟩
      exact Rep.carry (lo := W2.heap.size) HZ9.out.1 (show w8.heap.size ≤ _ by have := HZ9.out.2; simp [World.setCell]; omega) (fun j hj _ => heap5 _ _ _ _ _ (by have := HB2.out.size; omega)) _ _ HR9.out
end Go.Proofs.YtgghgcilpfdbjaaGreatDoor
