/- The contract of legateref23.Value, of a snapshot that may be. Printed by genrefsv.py. -/
import Derived.Test.YtgghgcilpfdbjaaGreatDoorSe35
import Derived.Test.YtgghgcilpfdbjaaGreatDoorSe31
import Derived.Test.YtgghgcilpfdbjaaGreatDoorSe12
import Derived.Test.YtgghgcilpfdbjaaGreatDoorSe26
import Derived.Test.YtgghgcilpfdbjaaGreatDoorSe02
import Derived.Test.YtgghgcilpfdbjaaGreatDoorSe27

namespace Go.Proofs.YtgghgcilpfdbjaaGreatDoor
open Go.RowKit Go.Shelf Go.Sort

theorem ref11TextB (t : ByteArray) (w : World) : Calls Tryz.prog 49 #[.string t] w fun e w' => e = .returned (.agg #[.int .u8 3, .int .i64 0, .string t, .slice none 0 0, .slice none 0 0]) ∧ Below w.heap.size w w' :=
  (ref11TextOf t w).mono fun e w' h => ⟨h.1, by rw [h.2]; exact (Below.refl _ _).alloc (Nat.le_refl _) _⟩
theorem ref11NumB (n : Int) (w : World) : Calls Tryz.prog 50 #[.int .i64 n] w fun e w' => e = .returned (.agg #[.int .u8 2, .int .i64 n, .string { data := #[] }, .slice none 0 0, .slice none 0 0]) ∧ Below w.heap.size w w' :=
  (ref11NumOf n w).mono fun e w' h => ⟨h.1, by rw [h.2]; exact (Below.refl _ _).alloc (Nat.le_refl _) _⟩
/-- Members in a row laid anew. -/
theorem MemsT.row {T W0 : Nat} {w : World} {blk : Nat} (ms : List Mem) (its : List JV) (h0 : W0 ≤ blk) (hl : its.length = ms.length) (hn : ms.length ≤ 1000) (hx : w.heap[blk]? = some (.cells (flatM ms).toArray T (0, 0))) (hr : ∀ i (h : i < its.length), ∃ lo hi, W0 ≤ lo ∧ hi ≤ blk ∧ Rep w lo hi its[i] (ms[i]'(by omega)).val) : MemsT T W0 w (.slice (some ⟨blk, 0, none⟩) ms.length ms.length) ms its := by
  have hb := heap_lt hx
  refine ⟨⟨by rw [flatM_len], .inr ⟨blk, ms.length, _, rfl, h0, hx, Nat.le_refl _, by unfold maxLen; omega, by simp [flatM_len], ?_⟩⟩, hl, fun i hi' => ?_⟩
  · exact List.take_of_length_le (by rw [flatM_len]; simp)
  · obtain ⟨lo, hi, h1, h2, h3⟩ := hr i hi'
    exact ⟨lo, hi, h1, by omega, fun b hb => by simp [Value.ownBlock] at hb; omega, h3⟩
theorem numJ_solid (n : Int) : (numJ n).solid = true := by unfold numJ JV.solid; simp [JV.solids]
theorem txtJ_solid (t : ByteArray) : (txtJ t).solid = true := by unfold txtJ JV.solid; simp [JV.solids]
theorem solids_all : ∀ l : List JV, (∀ x ∈ l, x.solid = true) → JV.solids l = true
  | [], _ => rfl
  | x :: r, h => by rw [JV.solids, h x (List.mem_cons_self ..), solids_all r fun y hy => h y (List.mem_cons_of_mem _ hy)]; rfl
theorem objJ_solid {N : List NJ} (h : ∀ p ∈ N, p.1 ≠ { data := #[] } ∧ p.2.solid = true) : (objJ N).solid = true := by
  unfold objJ JV.solid
  have h1 : (N.map (·.1)).all (fun n => decide (n ≠ { data := #[] })) = true := by
    rw [List.all_eq_true]
    intro x hx
    obtain ⟨p, hp, rfl⟩ := List.mem_map.1 hx
    simpa using (h p hp).1
  rw [h1, solids_all _ fun x hx => by obtain ⟨p, hp, rfl⟩ := List.mem_map.1 hx; exact (h p hp).2]
  rfl
theorem role_ne {t : ByteArray} (h : roleOk t.data.toList = true) : t ≠ { data := #[] } := fun e => by
  rw [e] at h; revert h; decide
theorem file_ne {t : ByteArray} (h : (roleOf t).isSome = true) : t ≠ { data := #[] } := fun e => by
  rw [e] at h; revert h; decide
theorem names_solid : hasN ≠ { data := #[] } ∧ lenN ≠ { data := #[] } ∧ verN ≠ { data := #[] } ∧ typN ≠ { data := #[] } ∧ expN ≠ { data := #[] } ∧ metN ≠ { data := #[] } := by decide
theorem pinJ_solid {p : PinV} (h : mayPin p = true) : (pinJ p).solid = true := by
  obtain ⟨_, _, _, hh⟩ := mayPin_parts h
  rw [pinJ_obj]
  refine objJ_solid fun q hq => ?_
  rcases pinM_mem hq with ⟨rfl, h0⟩ | ⟨rfl, _⟩ | rfl
  · refine ⟨names_solid.1, ?_⟩
    show (hashJ p.hs).solid = true
    rw [hashJ_obj]
    refine objJ_solid fun k hk => ?_
    obtain ⟨x, hx, rfl⟩ := List.mem_map.1 hk
    exact ⟨role_ne ((mayHashes_parts (hh.resolve_left h0)).2.1 x hx).1, txtJ_solid _⟩
  · exact ⟨names_solid.2.1, numJ_solid _⟩
  · exact ⟨names_solid.2.2.1, numJ_solid _⟩
theorem metaJ_solid {l : List PinV} (h : ∀ p ∈ l, mayPin p = true) : (metaJ l).solid = true := by
  rw [metaJ_obj]
  refine objJ_solid fun q hq => ?_
  obtain ⟨p, hp, rfl⟩ := List.mem_map.1 hq
  exact ⟨file_ne (mayPin_parts (h p hp)).1, pinJ_solid (h p hp)⟩
theorem snapO_solid {t : ByteArray} {m : JV} {n : Int} (h : m.solid = true) : (snapO snpN t m n).solid = true := by
  obtain ⟨_, _, h3, h4, h5, h6⟩ := names_solid
  have : snapO snpN t m n = objJ [(typN, txtJ snpN), (expN, txtJ t), (metN, m), (verN, numJ n)] := rfl
  rw [this]
  refine objJ_solid fun q hq => ?_
  simp only [List.mem_cons, List.not_mem_nil, or_false] at hq
  rcases hq with rfl | rfl | rfl | rfl
  · exact ⟨h4, txtJ_solid _⟩
  · exact ⟨h5, txtJ_solid _⟩
  · exact ⟨h6, h⟩
  · exact ⟨h3, numJ_solid _⟩
theorem perm4 {α : Type} (a b c d : α) : List.Perm [a, c, d, b] [a, b, c, d] := List.Perm.cons _ (List.perm_append_comm (l₁ := [c, d]) (l₂ := [b]))

set_option maxHeartbeats 4000000 in
set_option maxRecDepth 100000 in
theorem ref23Value (v e : Int) (l : List PinV) (a : Option Addr) (c : Nat) (w : World) (hP : PinsAt w 0 w.heap.size a l) (hf : ∀ p ∈ l, PinFits p) (hm : maySnap ⟨v, e, l⟩ = true) :
    Calls Tryz.prog 16 #[.agg #[.int .i64 v, .int .i64 e, .slice a l.length c]] w (SnapValPost ⟨v, e, l⟩ w) := by
  obtain ⟨hv, he, hl, hall, hri⟩ := maySnap_parts.1 hm
  dsimp only at hv he hl hri hall
  obtain ⟨W2, hW2⟩ : ∃ W2, W2 = (w.alloc (.cells #[.int .i64 v, .int .i64 e, .slice a l.length c] 24)).alloc (.cells #[.int .u8 0, .int .i64 0, .string { data := #[] }, .slice none 0 0, .slice none 0 0] 30) := ⟨_, rfl⟩
  have hz1 : (w.alloc (.cells #[.int .i64 v, .int .i64 e, .slice a l.length c] 24)).heap.size = w.heap.size + 1 := by simp
  have hz2 : W2.heap.size = w.heap.size + 2 := by rw [hW2]; simp
  have hb2 : Below w.heap.size w W2 := by rw [hW2]; exact ((Below.refl _ _).alloc (Nat.le_refl _) _).alloc (by simp) _
  have hx0 : W2.heap[w.heap.size]? = some (.cells #[.int .i64 v, .int .i64 e, .slice a l.length c] 24 (0, 0)) := by rw [hW2, Below.heap_alloc _ _ _ (by simp)]; exact heap_alloc_new w _
  have hr0 : W2.rowIs (w.heap.size + 1) 30 5 (pick5 (.int .u8 0) (.int .i64 0) (.string { data := #[] }) (.slice none 0 0) (.slice none 0 0)) := by
    have := rowIs_box5 (w.alloc (.cells #[.int .i64 v, .int .i64 e, .slice a l.length c] 24)) (.int .u8 0) (.int .i64 0) (.string { data := #[] }) (.slice none 0 0) (.slice none 0 0) 30
    rw [hz1, ← hW2] at this
    exact this
  have HPA := Lib.hid (hP.below hb2 (Nat.le_refl _) (Nat.le_refl _) hb2.size)
  have HMY := Lib.hid (ref23May v e l a c W2 HPA.out (by omega) hf)
  rw [hm] at HMY
  have v0 : W2.cell? ⟨w.heap.size, 0, none⟩ = some (.int .i64 v) := box_cell hx0 rfl
  have v1 : W2.cell? ⟨w.heap.size, 1, none⟩ = some (.int .i64 e) := box_cell hx0 rfl
  have v2 : W2.cell? ⟨w.heap.size, 2, none⟩ = some (.slice a l.length c) := box_cell hx0 rfl
  have HX0 := Lib.hid hx0
  have HSH := Lib.hid (show ∀ w' : World, Calls Tryz.prog 47 #[.int .i64 e] w' (fun r w'' => r = .returned (.tuple #[.string ⟨(dateL e.toNat).toArray⟩, .int .i64 0]) ∧ Below w'.heap.size w' w'') from fun w' => by
    have := ref12Show e w'
    have e1 : showS e = ⟨(dateL e.toNat).toArray⟩ := by unfold showS; rw [if_pos he]
    have e2 : showE e = 0 := by unfold showE; rw [if_pos he]
    rw [e1, e2] at this
    exact this)
  have HR0 := Lib.hid hr0
  have HB2 := Lib.hid hb2
  have HW := Lib.hid hW2
  have HZ2 := Lib.hid hz2
  have HALL := Lib.hid (show ∀ p ∈ l, mayPin p = true from List.all_eq_true.1 hall)
  have HE0 := Lib.hid he
  clear hW2 hb2 hx0 hr0 hz1 hz2 hm hP hf he hv hri hall
  go_enter Tryz.func16, Tryz.ntmps16
  go_upto_region 1 with fail
  rw [← HW.out]
  go_wp2_with fail
  refine HMY.out.mono ?_
  clear HMY v0 v1 v2
  rintro r wm ⟨rfl, hbm⟩
  go_wp2
  obtain ⟨Z, hZ⟩ : ∃ Z, Z = wm.alloc (.cells #[.int .u8 5, .int .i64 0, .string { data := #[] }, .slice none 0 0, .slice none 0 0] 30) := ⟨_, rfl⟩
  rw [← hZ]
  have hzZ : Z.heap.size = wm.heap.size + 1 := by rw [hZ]; simp
  have hbZ : Below W2.heap.size W2 Z := by rw [hZ]; exact hbm.alloc hbm.size _
  have hr1 : Z.rowIs wm.heap.size 30 5 (pick5 (.int .u8 5) (.int .i64 0) (.string { data := #[] }) (.slice none 0 0) (.slice none 0 0)) := by
    rw [hZ]; exact rowIs_box5 wm (.int .u8 5) (.int .i64 0) (.string { data := #[] }) (.slice none 0 0) (.slice none 0 0) 30
  have hwm2 : W2.heap.size ≤ wm.heap.size := hbm.size
  have HBZ := Lib.hid hbZ
  have HZS := Lib.hid (show Z.heap.size = wm.heap.size + 1 ∧ W2.heap.size ≤ wm.heap.size ∧ W2.heap.size = w.heap.size + 2 from ⟨hzZ, hwm2, HZ2.out⟩)
  have HO := Lib.hid (show ObjAt2 Z Z Z.heap.size wm.heap.size 30 9 30 (.slice none 0 0) (.slice none 0 0) [] [] [] from
    ⟨by omega, Nat.le_refl _, Touch.refl _ _, hr1, World.ownsRow_nil _ _ _ _, World.ownsRow_nil _ _ _ _, RepRow.nil _ _ _, fun b hb => by simp [Value.ownBlock] at hb⟩)
  clear hZ hbZ hr1 hbm hzZ hwm2
  obtain ⟨cb, hcb⟩ : ∃ cb, cb = wm.heap.size := ⟨_, rfl⟩
  rw [← hcb] at HZS HO ⊢
  clear hcb
  have HOL := Lib.hid (show ∀ V : World, Touch (· = cb) Z V → ∀ x, x < W2.heap.size → V.heap[x]? = W2.heap[x]? from fun V ht x hx => by
    have := HZS.out
    rw [ht.block x (by omega) (by omega), HBZ.out.block x hx])
  obtain ⟨NS, hNS⟩ : ∃ NS, NS = l.map (·.name) := ⟨_, rfl⟩
  obtain ⟨IS, hIS⟩ : ∃ IS, IS = l.map pinJ := ⟨_, rfl⟩
  have HNS := Lib.hid hNS
  have HIS := Lib.hid hIS
  have HNL := Lib.hid (show NS.length = l.length by rw [hNS, List.length_map])
  have HIL := Lib.hid (show IS.length = l.length by rw [hIS, List.length_map])
  have HNT := Lib.hid (show ∀ q (h : q < l.length), NS.take (q + 1) = NS.take q ++ [l[q].name] from fun q h => by subst hNS; rw [List.take_succ_eq_append_getElem (by simpa using h)]; simp)
  have HIT := Lib.hid (show ∀ q (h : q < l.length), IS.take (q + 1) = IS.take q ++ [pinJ l[q]] from fun q h => by subst hIS; rw [List.take_succ_eq_append_getElem (by simpa using h)]; simp)
  clear hNS hIS
  obtain ⟨i1, hi1, hy0, hy1, hy2⟩ := info_parts infoValue
  obtain ⟨i2, hi2, hx0, hx1, hx2⟩ := info_parts infoStr
  go_loopw [5, 6, 7] (fun i _ _ wr => ∃ (q : Nat) (cs : List Value) (vn vi : Value), q ≤ l.length ∧ i = .int .i64 q ∧ ObjAt2 Z wr Z.heap.size cb 30 9 30 vn vi (NS.take q) (IS.take q) cs) (fun i _ _ _ => l.length - (intOf i).toNat)
  case atStart => exact ⟨0, [], .slice none 0 0, .slice none 0 0, by omega, rfl, by simpa using HO.out⟩
  case round =>
    obtain ⟨q, cs, vn, vi, hq, rfl, hobj⟩ := hrel
    have HW5 := Lib.hid hobj
    clear hobj
    generalize wr = V at *
    have hzs := HZS.out
    have hzv : Z.heap.size ≤ V.heap.size := HW5.out.touch.size
    have HXV := Lib.hid (show V.heap[w.heap.size]? = some (.cells #[.int .i64 v, .int .i64 e, .slice a l.length c] 24 (0, 0)) from (HOL.out V HW5.out.touch _ (by omega)).trans HX0.out)
    have z2 : V.cell? ⟨w.heap.size, 2, none⟩ = some (.slice a l.length c) := box_cell HXV.out rfl
    by_cases hlt : q < l.length
    · have HTN := Lib.hid (HNT.out q hlt)
      have HTI := Lib.hid (HIT.out q hlt)
      obtain ⟨b1, o1, ha1, _, hbl1, e0, e1, e2, ha, hc, e3, hle, hK⟩ := (HPA.out.carry (w' := V) (Nat.le_refl _) (Nat.le_refl W2.heap.size) (fun x _ hx => HOL.out V HW5.out.touch x hx)).at q hlt
      subst ha1
      have hmp := HALL.out l[q] (List.getElem_mem hlt)
      have HPN := Lib.hid (ref23PinValueH l[q].name l[q].ver l[q].len l[q].hs ha hc V (hK.carry (Nat.le_refl _) (by omega) fun _ _ _ => rfl) hmp)
      generalize l[q] = p at e0 e1 e2 e3 HTN HTI HPN
      obtain ⟨pn, pv, pl, phs⟩ := p
      dsimp only at e0 e1 e2 e3 HTN HTI HPN
      clear hmp hK hle
      go_wp2_with fail
      refine HPN.out.mono ?_
      clear HPN
      rintro r w5 ⟨an, cn, ai, ci, rfl, hr5, hb5⟩
      have HR5 := Lib.hid hr5
      have HB5 := Lib.hid hb5
      clear hr5 hb5
      have HK5 := Lib.hid (show (pinJ ⟨pn, pv, pl, phs⟩).kind = 5 ∧ (pinJ ⟨pn, pv, pl, phs⟩).n = 0 ∧ (pinJ ⟨pn, pv, pl, phs⟩).t = { data := #[] } from ⟨rfl, rfl, rfl⟩)
      generalize hpj : pinJ ⟨pn, pv, pl, phs⟩ = it at *
      clear hpj
      go_upto_region 8 with fail
      obtain ⟨W6, hW6⟩ : ∃ W6, W6 = w5.alloc (.cells #[.int .u8 5, .int .i64 0, .string { data := #[] }, .slice an it.names.length cn, .slice ai it.items.length ci] 30) := ⟨_, rfl⟩
      rw [← hW6]
      have hb56 : Below w5.heap.size w5 W6 := by rw [hW6]; exact (Below.refl _ _).alloc (Nat.le_refl _) _
      have hx6 : W6.heap[w5.heap.size]? = some (.cells #[.int .u8 5, .int .i64 0, .string { data := #[] }, .slice an it.names.length cn, .slice ai it.items.length ci] 30 (0, 0)) := by rw [hW6]; exact heap_alloc_new w5 _
      have hz6 : W6.heap.size = w5.heap.size + 1 := by rw [hW6]; simp
      have hbv6 : Below V.heap.size V W6 := HB5.out.trans (hb56.mono HB5.out.size)
      have HX6 := Lib.hid hx6
      have HZ6 := Lib.hid (show W6.heap.size = w5.heap.size + 1 ∧ V.heap.size ≤ w5.heap.size from ⟨hz6, HB5.out.size⟩)
      have HOB := Lib.hid (HW5.out.below hbv6)
      have HOW := Lib.hid (show (∀ b, vn.ownBlock = some b → b < V.heap.size) ∧ (∀ b, vi.ownBlock = some b → b < V.heap.size) ∧ cb < V.heap.size from ⟨fun b hb => (HW5.out.names.lt b hb).2, fun b hb => (HW5.out.items.lt b hb).2, HW5.out.row.lt⟩)
      have HR6 := Lib.hid (HR5.out.below (B := w5.heap.size) hb56 (Nat.le_refl _) (Nat.le_refl V.heap.size) (Nat.le_refl w5.heap.size))
      have f0 : W6.cell? ⟨b1, o1 + q * 4, none⟩ = some (.string pn) := (hbv6.cell (show b1 < V.heap.size by omega)).trans e0
      have f2 : W6.cell? ⟨w.heap.size, 2, none⟩ = some (.slice (some ⟨b1, o1, none⟩) l.length c) := (hbv6.cell (show w.heap.size < V.heap.size by omega)).trans z2
      have hpl : cb < W6.heap.size := HOB.out.row.lt
      have hpn : some cb ≠ vn.ownBlock := fun e => by have := (HW5.out.names.lt _ e.symm).1; omega
      have gg2 : W6.cell? ⟨cb, 3, none⟩ = some vn := HOB.out.row.cell (by decide)
      have fp2 := HOB.out.row.frozen 3
      have HLN := Lib.hid (show (NS.take q).length = q by rw [List.length_take, HNL.out]; omega)
      have HOD := Lib.hid (show W6.drew.ownsRow Z.heap.size 9 1 vn q ((NS.take q).map .string) by have := HOB.out.names; rw [HLN.out] at this; exact this)
      have hzv6 : Z.heap.size ≤ W6.heap.size := HOB.out.touch.size
      clear hW6 hb56 hx6 hz6 hbv6 HW5 e0 e1 e2 e3 z2
      go_region_law (refine step_append_lies _ (by rfl) (.tmp 34) (.tmp 41) 27 (by rfl) Z.heap.size 9 i2 _ 1 16 Tryz.underlying27 hi2 hx0 hx1 hx2 rfl (by omega) vn q ((NS.take q).map .string) (by rfl) (HOD.out.alloc _) ⟨W6.heap.size, 0, none⟩ 1 1 (Array.toList #[.string pn]) (by rfl) (by rfl) (World.news_of_block (cs := #[.string pn]) (t := 9) (fr := (0, 0)) (heap_alloc_new W6.drew _)) (by simp [Value.oneCell']) (by omega) (by unfold maxLen; omega) (by omega) (by simp; omega) (W6.heap.size + 1) (by simp) ?_; intro g2 cap3 w4 hown4 hgrow4 hat4 hlt4; have c44 : w4.cell? ⟨cb, 3, none⟩ = some vn := (World.cell?_of_block (hgrow4.block _ (by simp; omega) hpn)).trans ((cell_alloc_lt _ (show cb < W6.drew.heap.size from hpl)).trans gg2); have f44 : w4.frozen? ⟨cb, 3, none⟩ = false := (World.frozen?_of_block (hgrow4.block _ (by simp; omega) hpn)).trans ((((Below.refl W6.drew.heap.size W6.drew).alloc (Nat.le_refl _) _).frozen (show cb < W6.drew.heap.size from hpl)).trans fp2); have HO4 := Lib.hid hown4; have HG4 := Lib.hid hgrow4; have HA4 := Lib.hid hat4; clear hown4 hgrow4 hat4)
      all_goals
        have HGX := Lib.hid (show g2 < V.heap.size ∨ w5.heap.size < g2 from by
          rcases HA4.out with h | h
          · exact .inl (HOW.out.1 _ h)
          · exact .inr (by have := HZ6.out; first | omega | (simp at h; omega)))
        have HO7 := Lib.hid (show ObjAt2 Z (w4.setCell ⟨cb, 3, none⟩ (.slice (some ⟨g2, 0, none⟩) (q + 1) cap3)) Z.heap.size cb 30 9 30 (.slice (some ⟨g2, 0, none⟩) (q + 1) cap3) vi (NS.take (q + 1)) (IS.take q) cs by
          have := (HOB.out.below (((Below.refl W6.heap.size W6).drew).alloc (Nat.le_refl _) (.cells #[.string pn] 9))).name pn (g := g2) (cap := cap3) HG4.out (by
            rcases HA4.out with h | h
            · exact .inl h
            · exact .inr (by simp; omega)) (by rw [HLN.out]; exact HO4.out)
          rw [HLN.out, ← HTN.out] at this
          exact this)
        have HE7 := Lib.hid (show ∀ x, V.heap.size ≤ x → x ≤ w5.heap.size → (w4.setCell ⟨cb, 3, none⟩ (.slice (some ⟨g2, 0, none⟩) (q + 1) cap3)).heap[x]? = W6.heap[x]? from fun x h1 h2 => by
          have h3 := HOW.out
          have h4 := HZ6.out
          rw [Below.heap_setCell _ _ _ _ (show x ≠ cb by omega), HG4.out.block x (by simp; omega) (fun e => by have := h3.1 x e.symm; omega)]
          exact Below.heap_alloc _ _ _ (show x < W6.drew.heap.size from by show x < W6.heap.size; omega))
        clear HO4 HG4 HA4 c44 f44 f0 f2 gg2 fp2 HOD HLN HTN hpn hpl hzv6
        generalize (w4.setCell ⟨cb, 3, none⟩ (.slice (some ⟨g2, 0, none⟩) (q + 1) cap3)) = V7 at HO7 HE7 ⊢
        have hpl : cb < V7.heap.size := HO7.out.row.lt
        have hpn : some cb ≠ vi.ownBlock := fun e => by have := (HO7.out.items.lt _ e.symm).1; omega
        have e2 : V7.cell? ⟨cb, 4, none⟩ = some vi := HO7.out.row.cell (by decide)
        have fp2 := HO7.out.row.frozen 4
        have hx7 : V7.heap[w5.heap.size]? = some (.cells #[.int .u8 5, .int .i64 0, .string { data := #[] }, .slice an it.names.length cn, .slice ai it.items.length ci] 30 (0, 0)) := (HE7.out _ HZ6.out.2 (Nat.le_refl _)).trans HX6.out
        have y0 := box_cell hx7 (j := 0) rfl; have y1 := box_cell hx7 (j := 1) rfl; have y2 := box_cell hx7 (j := 2) rfl; have y3 := box_cell hx7 (j := 3) rfl; have y4 := box_cell hx7 (j := 4) rfl
        have HZ7 := Lib.hid (heap_lt hx7)
        have HLI := Lib.hid (show (IS.take q).length = q by rw [List.length_take, HIL.out]; omega)
        have HOD := Lib.hid (show V7.ownsRow Z.heap.size 30 5 vi q cs by have := HO7.out.items; rw [HLI.out] at this; exact this)
        have hzv7 : Z.heap.size ≤ V7.heap.size := HO7.out.touch.size
        clear hx7
        go_wp2_with (at_builtin; refine wpList_append_lies _ rfl (.tmp 45) (.tmp 47) 28 rfl Z.heap.size 30 i1 _ 5 80 Tryz.underlying28 hi1 hy0 hy1 hy2 rfl (by omega) vi q cs rfl (HOD.out.alloc _) ⟨V7.heap.size, 0, none⟩ 1 1 (Array.toList #[.int .u8 5, .int .i64 0, .string { data := #[] }, .slice an it.names.length cn, .slice ai it.items.length ci]) rfl rfl (World.news_of_block (cs := #[.int .u8 5, .int .i64 0, .string { data := #[] }, .slice an it.names.length cn, .slice ai it.items.length ci]) (t := 30) (fr := (0, 0)) (heap_alloc_new V7 _)) (by simp [Value.oneCell']) (by omega) (by unfold maxLen; omega) (by omega) (by simp; omega) (V7.heap.size + 1) (by simp) ?_; intro g6 cap6 w6 hown4 hgrow4 hat4 hlt4; have c44 := grow_cell hgrow4 hpl hpn e2; have f44 := grow_frozen hgrow4 hpl hpn fp2; have HO4 := Lib.hid hown4; have HG4 := Lib.hid hgrow4; have HA4 := Lib.hid hat4; clear hown4 hgrow4 hat4)
        have HO8 := Lib.hid (show ∃ cs', ObjAt2 Z (w6.setCell ⟨cb, 4, none⟩ (.slice (some ⟨g6, 0, none⟩) (q + 1) cap6)) Z.heap.size cb 30 9 30 (.slice (some ⟨g2, 0, none⟩) (q + 1) cap3) (.slice (some ⟨g6, 0, none⟩) (q + 1) cap6) (NS.take (q + 1)) (IS.take (q + 1)) cs' by
          obtain ⟨k1, k2, k3⟩ := HK5.out
          have h3 := HOW.out
          have h4 := HZ6.out
          have h7 := HZ7.out
          have := (HO7.out.below ((Below.refl V7.heap.size V7).alloc (Nat.le_refl _) (.cells #[.int .u8 5, .int .i64 0, .string { data := #[] }, .slice an it.names.length cn, .slice ai it.items.length ci] 30))).itemG (it := it) (an := an) (ai := ai) (cn := cn) (ci := ci) (lo := V.heap.size) (hi := w5.heap.size) (g := g6) (cap := cap6) hzv (by simp; omega) (fun x hx hb => by
            rcases hx with hx | hx | hx
            · omega
            · simp only [Value.ownBlock, Option.some.injEq] at hx
              have := HGX.out
              omega
            · have := h3.2.1 x hx; omega) (by
            rw [k1, k2, k3]
            exact Rep.carry (Nat.le_refl _) (Nat.le_refl _) (fun x h1 h2 => (Below.heap_alloc _ _ _ (show x < V7.heap.size by omega)).trans (HE7.out x h1 (Nat.le_of_lt h2))) _ _ HR6.out) HG4.out (by
            rcases HA4.out with h | h
            · exact .inl h
            · exact .inr (by first | omega | (simp; omega))) (by rw [HLI.out, k1, k2, k3]; exact HO4.out)
          rw [HLI.out, ← HTI.out] at this
          exact ⟨_, this⟩)
        clear HO7 HO4 HG4 HA4 c44 f44 e2 fp2 y0 y1 y2 y3 y4 HLI HTI HOD HE7 HGX HR6 HX6 HOB HOW
        go_wp2
        go_roundw
        case rel =>
          obtain ⟨cs', h⟩ := HO8.out
          exact ⟨q + 1, cs', _, _, by omega, by go_num, h⟩
        case measure => simp [intOf]; omega
    · obtain rfl : q = l.length := by omega
      have hn1 : NS.take l.length = NS := List.take_of_length_le (by rw [HNL.out]; exact Nat.le_refl _)
      have hn2 : IS.take l.length = IS := List.take_of_length_le (by rw [HIL.out]; exact Nat.le_refl _)
      rw [hn1, hn2] at HW5
      obtain ⟨an, cn, ai, ci, rfl, rfl, hrep⟩ := HW5.out.done
      have hrow := HW5.out.row
      have HBV := Lib.hid (show Below w.heap.size w V from HB2.out.trans ((HBZ.out.trans (HW5.out.touch.below (B := W2.heap.size) (by omega) fun j hj e => by omega)).mono (by omega)))
      have HRV := Lib.hid (show V.rowIs (w.heap.size + 1) 30 5 (pick5 (.int .u8 0) (.int .i64 0) (.string { data := #[] }) (.slice none 0 0) (.slice none 0 0)) from HR0.out.of_block (HOL.out V HW5.out.touch _ (by omega)))
      rw [HNL.out, HIL.out] at hrow
      have z1 : V.cell? ⟨w.heap.size, 1, none⟩ = some (.int .i64 e) := box_cell HXV.out rfl
      have HMT := Lib.hid (show Rep V Z.heap.size V.heap.size (metaJ l) (.agg #[.int .u8 5, .int .i64 0, .string { data := #[] }, .slice an l.length cn, .slice ai l.length ci]) from by
        have h := hrep
        rw [HNL.out, HIL.out, HNS.out, HIS.out] at h
        exact h)
      obtain ⟨ds, hds⟩ : ∃ ds : ByteArray, ds = ⟨(dateL e.toNat).toArray⟩ := ⟨_, rfl⟩
      rw [← hds] at HSH
      have HDS := Lib.hid hds
      have HSOL := Lib.hid (show (snapO snpN ds (metaJ l) v).solid = true from snapO_solid (metaJ_solid HALL.out))
      have HRW := Lib.hid hrow
      clear hrep hrow hn1 hn2 hds
      go_wp2_with fail
      refine (HSH.out V).mono ?_
      clear z1 z2
      rintro r w5 ⟨rfl, hb5⟩
      have HB5 := Lib.hid hb5
      have HZ5 := Lib.hid (show Z.heap.size ≤ V.heap.size ∧ V.heap.size ≤ w5.heap.size from ⟨hzv, hb5.size⟩)
      have HC5 := Lib.hid (show ∀ w' : World, Below w5.heap.size w5 w' → w'.cell? ⟨w.heap.size, 0, none⟩ = some (.int .i64 v) ∧ w'.cell? ⟨cb, 0, none⟩ = some (.int .u8 5) ∧ w'.cell? ⟨cb, 1, none⟩ = some (.int .i64 0) ∧ w'.cell? ⟨cb, 2, none⟩ = some (.string { data := #[] }) ∧ w'.cell? ⟨cb, 3, none⟩ = some (.slice an l.length cn) ∧ w'.cell? ⟨cb, 4, none⟩ = some (.slice ai l.length ci) from fun w' h => by
        have hx := HB5.out.trans (h.mono HB5.out.size)
        have hr := below_row hx HRW.out HRW.out.lt
        have r0 := hr.cell (i := 0) (by decide); have r1 := hr.cell (i := 1) (by decide); have r2 := hr.cell (i := 2) (by decide); have r3 := hr.cell (i := 3) (by decide); have r4 := hr.cell (i := 4) (by decide)
        simp only [pick5] at r0 r1 r2 r3 r4
        exact ⟨(hx.cell (show w.heap.size < V.heap.size by omega)).trans (box_cell HXV.out rfl), r0, r1, r2, r3, r4⟩)
      have HOBJ := Lib.hid (show ∀ (w' : World) (b : Nat), Below w5.heap.size w5 w' → w5.heap.size ≤ b → w'.heap[b]? = some (.cells #[.string { data := #[95, 116, 121, 112, 101] }, .int .u8 3, .int .i64 0, .string { data := #[115, 110, 97, 112, 115, 104, 111, 116] }, .slice none 0 0, .slice none 0 0, .string { data := #[118, 101, 114, 115, 105, 111, 110] }, .int .u8 2, .int .i64 v, .string { data := #[] }, .slice none 0 0, .slice none 0 0, .string { data := #[101, 120, 112, 105, 114, 101, 115] }, .int .u8 3, .int .i64 0, .string ds, .slice none 0 0, .slice none 0 0, .string { data := #[109, 101, 116, 97] }, .int .u8 5, .int .i64 0, .string { data := #[] }, .slice an l.length cn, .slice ai l.length ci] 80 (0, 0)) → Calls Tryz.prog 48 #[.slice (some ⟨b, 0, none⟩) 4 4] w' (fun e w2 => ∃ y, e = .returned y ∧ IsTup4 Z.heap.size (snapO snpN ds (metaJ l) v) w2 y ∧ Below w'.heap.size w' w2) from fun w' b hbw hbb hm => by
        have hz5 := HZ5.out
        have hms := MemsT.row (T := 80) (W0 := Z.heap.size) (w := w') (blk := b) [memT typN snpN, memN verN v, memT expN ds, ⟨metN, 5, 0, { data := #[] }, an, l.length, cn, ai, l.length, ci⟩] [txtJ snpN, numJ v, txtJ ds, metaJ l] (by omega) rfl (by simp) (by rw [hm]; rfl) (fun i hi => by
          match i, hi with
          | 0, _ => exact ⟨Z.heap.size, Z.heap.size, Nat.le_refl _, by omega, rep_txt _ _ _ _⟩
          | 1, _ => exact ⟨Z.heap.size, Z.heap.size, Nat.le_refl _, by omega, rep_num _ _ _ _⟩
          | 2, _ => exact ⟨Z.heap.size, Z.heap.size, Nat.le_refl _, by omega, rep_txt _ _ _ _⟩
          | 3, _ => exact ⟨Z.heap.size, V.heap.size, Nat.le_refl _, by omega, HMT.out.below (B := V.heap.size) (HB5.out.trans (hbw.mono HB5.out.size)) (Nat.le_refl _) (Nat.le_refl _) (Nat.le_refl _)⟩)
        refine Calls.mono (show Calls Tryz.prog 48 #[.slice (some ⟨b, 0, none⟩) 4 4] w' (RObjPost [typN, expN, metN, verN] [txtJ snpN, txtJ ds, metaJ l, numJ v] Z.heap.size w') from ref11ObjectOf Z.heap.size b 4 w' [(typN, txtJ snpN), (expN, txtJ ds), (metN, metaJ l), (verN, numJ v)] [(typN, txtJ snpN), (verN, numJ v), (expN, txtJ ds), (metN, metaJ l)] ⟨_, hms, rfl⟩ (perm4 _ _ _ _) names_4 (by simp) (by have := hbw.size; omega) (heap_lt hm)) ?_
        rintro e w2 ⟨a7, c7, i7, d7, rfl, hr7, hb7⟩
        exact ⟨_, rfl, ⟨a7, c7, i7, d7, rfl, hr7⟩, hb7⟩)
      have HR5 := Lib.hid (below_row hb5 HRV.out (by omega))
      have HBF := Lib.hid (HBV.out.trans (hb5.mono HBV.out.size))
      clear hb5 HRW HMT HW5
      go_upto_region 11 with fail
      obtain ⟨V, hV⟩ : ∃ V : List MP, V = [.con (.agg #[.int .u8 3, .int .i64 0, .string { data := #[115, 110, 97, 112, 115, 104, 111, 116] }, .slice none 0 0, .slice none 0 0]), .con (.agg #[.string { data := #[95, 116, 121, 112, 101] }, .int .u8 3, .int .i64 0, .string { data := #[115, 110, 97, 112, 115, 104, 111, 116] }, .slice none 0 0, .slice none 0 0]), .con (.pointer (some ⟨w.heap.size, 0, none⟩)), .con (.int .i64 v), .con (.agg #[.int .u8 2, .int .i64 v, .string { data := #[] }, .slice none 0 0, .slice none 0 0]), .con (.agg #[.string { data := #[118, 101, 114, 115, 105, 111, 110] }, .int .u8 2, .int .i64 v, .string { data := #[] }, .slice none 0 0, .slice none 0 0]), .con (.string ds), .con (.agg #[.int .u8 3, .int .i64 0, .string ds, .slice none 0 0, .slice none 0 0]), .con (.agg #[.string { data := #[101, 120, 112, 105, 114, 101, 115] }, .int .u8 3, .int .i64 0, .string ds, .slice none 0 0, .slice none 0 0]), .con (.agg #[.int .u8 5, .int .i64 0, .string { data := #[] }, .slice an l.length cn, .slice ai l.length ci]), .con (.agg #[.string { data := #[109, 101, 116, 97] }, .int .u8 5, .int .i64 0, .string { data := #[] }, .slice an l.length cn, .slice ai l.length ci]), .row w5.heap.size 4 80 #[.string { data := #[95, 116, 121, 112, 101] }, .int .u8 3, .int .i64 0, .string { data := #[115, 110, 97, 112, 115, 104, 111, 116] }, .slice none 0 0, .slice none 0 0, .string { data := #[118, 101, 114, 115, 105, 111, 110] }, .int .u8 2, .int .i64 v, .string { data := #[] }, .slice none 0 0, .slice none 0 0, .string { data := #[101, 120, 112, 105, 114, 101, 115] }, .int .u8 3, .int .i64 0, .string ds, .slice none 0 0, .slice none 0 0, .string { data := #[109, 101, 116, 97] }, .int .u8 5, .int .i64 0, .string { data := #[] }, .slice an l.length cn, .slice ai l.length ci], .tup4 Z.heap.size (snapO snpN ds (metaJ l) v), .tup4 Z.heap.size (snapO snpN ds (metaJ l) v), .obj4 Z.heap.size (snapO snpN ds (metaJ l) v), .con (.int .i64 0), .blk w5.heap.size 30 #[.int .u8 0, .int .i64 0, .string { data := #[] }, .slice none 0 0, .slice none 0 0]] := ⟨_, rfl⟩
      have HV := Lib.hid hV
      clear hV
      refine wp_region_free 17 15 (fun d a' w' => ∃ x57 x58 x59 x60 x61 x62 x63 x64 x65 x66 x67 x68 x69 x56 x70 x71 x10, a' = ⟨#[Value.agg #[Value.int IntKind.i64 v, Value.int IntKind.i64 e, Value.slice a l.length c], Value.pointer (some { block := w.heap.size, off := 0 }), Value.pointer (some { block := w.heap.size + 1, off := 0 }), Value.int IntKind.i64 0, Value.pointer (some { block := cb, off := 0 }), Value.int IntKind.i64 (l.length : Int), u6, u7, Value.string ds, Value.int IntKind.i64 0, x10, undef, Value.agg #[Value.int IntKind.i64 v, Value.int IntKind.i64 e, Value.slice a l.length c], Value.bool true, Value.bool false, undef, Value.agg #[Value.int IntKind.u8 5, Value.int IntKind.i64 0, Value.string { data := #[] }, Value.slice none 0 0, Value.slice none 0 0], Value.int IntKind.i64 (l.length : Int), Value.pointer (some { block := w.heap.size, off := 2 }), Value.slice a l.length c, Value.int IntKind.i64 (l.length : Int), Value.bool false, u22, u23, u24, u25, u26, u27, u28, u29, u30, u31, u32, u33, u34, u35, u36, u37, u38, u39, u40, u41, u42, u43, u44, u45, u46, u47, u48, u49, Value.tuple #[Value.string ds, Value.int IntKind.i64 0], Value.pointer (some { block := w.heap.size, off := 1 }), Value.int IntKind.i64 e, Value.tuple #[Value.string ds, Value.int IntKind.i64 0], Value.string ds, Value.int IntKind.i64 0, x56, x57, x58, x59, x60, x61, x62, x63, x64, x65, x66, x67, x68, x69, x70, x71, undef], []⟩ ∧ RegI w5 V d w' [x57, x58, x59, x60, x61, x62, x63, x64, x65, x66, x67, x68, x69, x56, x70, x71, x10]) (fun ee a' w' => ∃ x57 x58 x59 x60 x61 x62 x63 x64 x65 x66 x67 x68 x69 x70 x71 b10 an7 cn7 ai7 ci7 an8 cn8 ai8 ci8, a' = ⟨#[Value.agg #[Value.int IntKind.i64 v, Value.int IntKind.i64 e, Value.slice a l.length c], Value.pointer (some { block := w.heap.size, off := 0 }), Value.pointer (some { block := w.heap.size + 1, off := 0 }), Value.int IntKind.i64 0, Value.pointer (some { block := cb, off := 0 }), Value.int IntKind.i64 (l.length : Int), u6, u7, Value.string ds, Value.int IntKind.i64 0, .pointer (some ⟨b10, 0, none⟩), undef, Value.agg #[Value.int IntKind.i64 v, Value.int IntKind.i64 e, Value.slice a l.length c], Value.bool true, Value.bool false, undef, Value.agg #[Value.int IntKind.u8 5, Value.int IntKind.i64 0, Value.string { data := #[] }, Value.slice none 0 0, Value.slice none 0 0], Value.int IntKind.i64 (l.length : Int), Value.pointer (some { block := w.heap.size, off := 2 }), Value.slice a l.length c, Value.int IntKind.i64 (l.length : Int), Value.bool false, u22, u23, u24, u25, u26, u27, u28, u29, u30, u31, u32, u33, u34, u35, u36, u37, u38, u39, u40, u41, u42, u43, u44, u45, u46, u47, u48, u49, Value.tuple #[Value.string ds, Value.int IntKind.i64 0], Value.pointer (some { block := w.heap.size, off := 1 }), Value.int IntKind.i64 e, Value.tuple #[Value.string ds, Value.int IntKind.i64 0], Value.string ds, Value.int IntKind.i64 0, .tuple #[.agg #[.int .u8 5, .int .i64 0, .string { data := #[] }, .slice an7 4 cn7, .slice ai7 4 ci7], .int .i64 0], x57, x58, x59, x60, x61, x62, x63, x64, x65, x66, x67, x68, x69, x70, x71, undef], []⟩ ∧ (ee → x71 = .int .i64 0) ∧ Below w5.heap.size w5 w' ∧ w5.heap.size ≤ b10 ∧ w'.heap[b10]? = some (.cells #[.int .u8 5, .int .i64 0, .string { data := #[] }, .slice an8 4 cn8, .slice ai8 4 ci8] 30 (0, 0)) ∧ Rep w' Z.heap.size w'.heap.size (snapO snpN ds (metaJ l) v) (.agg #[.int .u8 5, .int .i64 0, .string { data := #[] }, .slice an8 4 cn8, .slice ai8 4 ci8])) (by kernel_rfl) (by kernel_rfl) (by kernel_rfl) ?first ?step ?store ?late ?last
      case first => exact ⟨_, _, _, _, _, _, _, _, _, _, _, _, _, _, _, _, _, rfl, RegI.first _ _ _ (by rw [HV.out]; rfl)⟩
      case step =>
        rintro d a' w' ⟨x57, x58, x59, x60, x61, x62, x63, x64, x65, x66, x67, x68, x69, x56, x70, x71, x10, rfl, h⟩ q hq hn hw
        rcases q with _ | _ | _ | _ | _ | _ | _ | _ | _ | _ | _ | _ | _ | _ | _ | _ | _ | q
        · obtain ⟨q0, y0, y1, y2, y3, y4⟩ := HC5.out w' h.1
          refine wpOp_step rfl fun K hK => ?_
          go_simp
          refine (ref11TextB _ w').mono ?_
          rintro e w2 ⟨rfl, hb2⟩
          exact hK _ _ ⟨_, x58, x59, x60, x61, x62, x63, x64, x65, x66, x67, x68, x69, x56, x70, x71, x10, rfl, h.did hb2 0 _ (.con (.agg #[.int .u8 3, .int .i64 0, .string { data := #[115, 110, 97, 112, 115, 104, 111, 116] }, .slice none 0 0, .slice none 0 0])) (by rw [HV.out]; rfl) rfl⟩
        · obtain rfl : x57 = .agg #[.int .u8 3, .int .i64 0, .string { data := #[115, 110, 97, 112, 115, 104, 111, 116] }, .slice none 0 0, .slice none 0 0] := h.get 0 (hw _ rfl ⟨0, .data⟩ (by simp) rfl) (.con (.agg #[.int .u8 3, .int .i64 0, .string { data := #[115, 110, 97, 112, 115, 104, 111, 116] }, .slice none 0 0, .slice none 0 0])) (by rw [HV.out]; rfl) _ rfl
          refine wpOp_step rfl fun K hK => ?_
          go_simp
          exact hK _ _ ⟨_, _, x59, x60, x61, x62, x63, x64, x65, x66, x67, x68, x69, x56, x70, x71, x10, rfl, h.same 1 _ (.con (.agg #[.string { data := #[95, 116, 121, 112, 101] }, .int .u8 3, .int .i64 0, .string { data := #[115, 110, 97, 112, 115, 104, 111, 116] }, .slice none 0 0, .slice none 0 0])) (by rw [HV.out]; rfl) rfl⟩
        · refine wpOp_step rfl fun K hK => ?_
          go_simp
          exact hK _ _ ⟨x57, x58, _, x60, x61, x62, x63, x64, x65, x66, x67, x68, x69, x56, x70, x71, x10, rfl, h.same 2 _ (.con (.pointer (some ⟨w.heap.size, 0, none⟩))) (by rw [HV.out]; rfl) rfl⟩
        · obtain rfl : x59 = .pointer (some ⟨w.heap.size, 0, none⟩) := h.get 2 (hw _ rfl ⟨2, .data⟩ (by simp) rfl) (.con (.pointer (some ⟨w.heap.size, 0, none⟩))) (by rw [HV.out]; rfl) _ rfl
          obtain ⟨q0, y0, y1, y2, y3, y4⟩ := HC5.out w' h.1
          refine wpOp_step rfl fun K hK => ?_
          go_simp
          exact hK _ _ ⟨x57, x58, _, _, x61, x62, x63, x64, x65, x66, x67, x68, x69, x56, x70, x71, x10, rfl, h.same 3 _ (.con (.int .i64 v)) (by rw [HV.out]; rfl) rfl⟩
        · obtain rfl : x60 = .int .i64 v := h.get 3 (hw _ rfl ⟨3, .data⟩ (by simp) rfl) (.con (.int .i64 v)) (by rw [HV.out]; rfl) _ rfl
          obtain ⟨q0, y0, y1, y2, y3, y4⟩ := HC5.out w' h.1
          refine wpOp_step rfl fun K hK => ?_
          go_simp
          refine (ref11NumB v w').mono ?_
          rintro e w2 ⟨rfl, hb2⟩
          exact hK _ _ ⟨x57, x58, x59, _, _, x62, x63, x64, x65, x66, x67, x68, x69, x56, x70, x71, x10, rfl, h.did hb2 4 _ (.con (.agg #[.int .u8 2, .int .i64 v, .string { data := #[] }, .slice none 0 0, .slice none 0 0])) (by rw [HV.out]; rfl) rfl⟩
        · obtain rfl : x61 = .agg #[.int .u8 2, .int .i64 v, .string { data := #[] }, .slice none 0 0, .slice none 0 0] := h.get 4 (hw _ rfl ⟨4, .data⟩ (by simp) rfl) (.con (.agg #[.int .u8 2, .int .i64 v, .string { data := #[] }, .slice none 0 0, .slice none 0 0])) (by rw [HV.out]; rfl) _ rfl
          refine wpOp_step rfl fun K hK => ?_
          go_simp
          exact hK _ _ ⟨x57, x58, x59, x60, _, _, x63, x64, x65, x66, x67, x68, x69, x56, x70, x71, x10, rfl, h.same 5 _ (.con (.agg #[.string { data := #[118, 101, 114, 115, 105, 111, 110] }, .int .u8 2, .int .i64 v, .string { data := #[] }, .slice none 0 0, .slice none 0 0])) (by rw [HV.out]; rfl) rfl⟩
        · refine wpOp_step rfl fun K hK => ?_
          go_simp
          exact hK _ _ ⟨x57, x58, x59, x60, x61, x62, _, x64, x65, x66, x67, x68, x69, x56, x70, x71, x10, rfl, h.same 6 _ (.con (.string ds)) (by rw [HV.out]; rfl) rfl⟩
        · obtain rfl : x63 = .string ds := h.get 6 (hw _ rfl ⟨6, .data⟩ (by simp) rfl) (.con (.string ds)) (by rw [HV.out]; rfl) _ rfl
          obtain ⟨q0, y0, y1, y2, y3, y4⟩ := HC5.out w' h.1
          refine wpOp_step rfl fun K hK => ?_
          go_simp
          refine (ref11TextB ds w').mono ?_
          rintro e w2 ⟨rfl, hb2⟩
          exact hK _ _ ⟨x57, x58, x59, x60, x61, x62, _, _, x65, x66, x67, x68, x69, x56, x70, x71, x10, rfl, h.did hb2 7 _ (.con (.agg #[.int .u8 3, .int .i64 0, .string ds, .slice none 0 0, .slice none 0 0])) (by rw [HV.out]; rfl) rfl⟩
        · obtain rfl : x64 = .agg #[.int .u8 3, .int .i64 0, .string ds, .slice none 0 0, .slice none 0 0] := h.get 7 (hw _ rfl ⟨7, .data⟩ (by simp) rfl) (.con (.agg #[.int .u8 3, .int .i64 0, .string ds, .slice none 0 0, .slice none 0 0])) (by rw [HV.out]; rfl) _ rfl
          refine wpOp_step rfl fun K hK => ?_
          go_simp
          exact hK _ _ ⟨x57, x58, x59, x60, x61, x62, x63, _, _, x66, x67, x68, x69, x56, x70, x71, x10, rfl, h.same 8 _ (.con (.agg #[.string { data := #[101, 120, 112, 105, 114, 101, 115] }, .int .u8 3, .int .i64 0, .string ds, .slice none 0 0, .slice none 0 0])) (by rw [HV.out]; rfl) rfl⟩
        · obtain ⟨q0, y0, y1, y2, y3, y4⟩ := HC5.out w' h.1
          refine wpOp_step rfl fun K hK => ?_
          go_simp
          exact hK _ _ ⟨x57, x58, x59, x60, x61, x62, x63, x64, x65, _, x67, x68, x69, x56, x70, x71, x10, rfl, h.same 9 _ (.con (.agg #[.int .u8 5, .int .i64 0, .string { data := #[] }, .slice an l.length cn, .slice ai l.length ci])) (by rw [HV.out]; rfl) rfl⟩
        · obtain rfl : x66 = .agg #[.int .u8 5, .int .i64 0, .string { data := #[] }, .slice an l.length cn, .slice ai l.length ci] := h.get 9 (hw _ rfl ⟨9, .data⟩ (by simp) rfl) (.con (.agg #[.int .u8 5, .int .i64 0, .string { data := #[] }, .slice an l.length cn, .slice ai l.length ci])) (by rw [HV.out]; rfl) _ rfl
          refine wpOp_step rfl fun K hK => ?_
          go_simp
          exact hK _ _ ⟨x57, x58, x59, x60, x61, x62, x63, x64, x65, _, _, x68, x69, x56, x70, x71, x10, rfl, h.same 10 _ (.con (.agg #[.string { data := #[109, 101, 116, 97] }, .int .u8 5, .int .i64 0, .string { data := #[] }, .slice an l.length cn, .slice ai l.length ci])) (by rw [HV.out]; rfl) rfl⟩
        · obtain rfl : x58 = .agg #[.string { data := #[95, 116, 121, 112, 101] }, .int .u8 3, .int .i64 0, .string { data := #[115, 110, 97, 112, 115, 104, 111, 116] }, .slice none 0 0, .slice none 0 0] := h.get 1 (hw _ rfl ⟨1, .data⟩ (by simp) rfl) (.con (.agg #[.string { data := #[95, 116, 121, 112, 101] }, .int .u8 3, .int .i64 0, .string { data := #[115, 110, 97, 112, 115, 104, 111, 116] }, .slice none 0 0, .slice none 0 0])) (by rw [HV.out]; rfl) _ rfl
          obtain rfl : x62 = .agg #[.string { data := #[118, 101, 114, 115, 105, 111, 110] }, .int .u8 2, .int .i64 v, .string { data := #[] }, .slice none 0 0, .slice none 0 0] := h.get 5 (hw _ rfl ⟨5, .data⟩ (by simp) rfl) (.con (.agg #[.string { data := #[118, 101, 114, 115, 105, 111, 110] }, .int .u8 2, .int .i64 v, .string { data := #[] }, .slice none 0 0, .slice none 0 0])) (by rw [HV.out]; rfl) _ rfl
          obtain rfl : x65 = .agg #[.string { data := #[101, 120, 112, 105, 114, 101, 115] }, .int .u8 3, .int .i64 0, .string ds, .slice none 0 0, .slice none 0 0] := h.get 8 (hw _ rfl ⟨8, .data⟩ (by simp) rfl) (.con (.agg #[.string { data := #[101, 120, 112, 105, 114, 101, 115] }, .int .u8 3, .int .i64 0, .string ds, .slice none 0 0, .slice none 0 0])) (by rw [HV.out]; rfl) _ rfl
          obtain rfl : x67 = .agg #[.string { data := #[109, 101, 116, 97] }, .int .u8 5, .int .i64 0, .string { data := #[] }, .slice an l.length cn, .slice ai l.length ci] := h.get 10 (hw _ rfl ⟨10, .data⟩ (by simp) rfl) (.con (.agg #[.string { data := #[109, 101, 116, 97] }, .int .u8 5, .int .i64 0, .string { data := #[] }, .slice an l.length cn, .slice ai l.length ci])) (by rw [HV.out]; rfl) _ rfl
          refine wpOp_step rfl fun K hK => ?_
          go_simp
          exact hK _ _ ⟨x57, _, x59, x60, x61, _, x63, x64, _, x66, _, _, x69, x56, x70, x71, x10, rfl, h.new _ 11 _ (.row w5.heap.size 4 80 #[.string { data := #[95, 116, 121, 112, 101] }, .int .u8 3, .int .i64 0, .string { data := #[115, 110, 97, 112, 115, 104, 111, 116] }, .slice none 0 0, .slice none 0 0, .string { data := #[118, 101, 114, 115, 105, 111, 110] }, .int .u8 2, .int .i64 v, .string { data := #[] }, .slice none 0 0, .slice none 0 0, .string { data := #[101, 120, 112, 105, 114, 101, 115] }, .int .u8 3, .int .i64 0, .string ds, .slice none 0 0, .slice none 0 0, .string { data := #[109, 101, 116, 97] }, .int .u8 5, .int .i64 0, .string { data := #[] }, .slice an l.length cn, .slice ai l.length ci]) (by rw [HV.out]; rfl) (IsRow.made _ h.1.size)⟩
        · obtain ⟨b68, k68, rfl, m68⟩ := h.get 11 (hw _ rfl ⟨11, .data⟩ (by simp) rfl) (.row w5.heap.size 4 80 #[.string { data := #[95, 116, 121, 112, 101] }, .int .u8 3, .int .i64 0, .string { data := #[115, 110, 97, 112, 115, 104, 111, 116] }, .slice none 0 0, .slice none 0 0, .string { data := #[118, 101, 114, 115, 105, 111, 110] }, .int .u8 2, .int .i64 v, .string { data := #[] }, .slice none 0 0, .slice none 0 0, .string { data := #[101, 120, 112, 105, 114, 101, 115] }, .int .u8 3, .int .i64 0, .string ds, .slice none 0 0, .slice none 0 0, .string { data := #[109, 101, 116, 97] }, .int .u8 5, .int .i64 0, .string { data := #[] }, .slice an l.length cn, .slice ai l.length ci]) (by rw [HV.out]; rfl) _ rfl
          obtain ⟨q0, y0, y1, y2, y3, y4⟩ := HC5.out w' h.1
          refine wpOp_step rfl fun K hK => ?_
          go_simp
          refine (HOBJ.out w' b68 h.1 k68 m68).mono ?_
          rintro e w2 ⟨y, rfl, hy, hb2⟩
          exact hK _ _ ⟨x57, x58, x59, x60, x61, x62, x63, x64, x65, x66, x67, _, _, x56, x70, x71, x10, rfl, h.did hb2 12 _ (.tup4 Z.heap.size (snapO snpN ds (metaJ l) v)) (by rw [HV.out]; rfl) hy⟩
        · have hs69 := h.get 12 (hw _ rfl ⟨12, .data⟩ (by simp) rfl) (.tup4 Z.heap.size (snapO snpN ds (metaJ l) v)) (by rw [HV.out]; rfl) _ rfl
          obtain ⟨an7, cn7, ai7, ci7, rfl, hr7⟩ := hs69
          refine wpOp_step rfl fun K hK => ?_
          go_simp
          exact hK _ _ ⟨x57, x58, x59, x60, x61, x62, x63, x64, x65, x66, x67, x68, _, _, x70, x71, x10, rfl, h.same 13 _ (.tup4 Z.heap.size (snapO snpN ds (metaJ l) v)) (by rw [HV.out]; rfl) ⟨_, _, _, _, rfl, hr7⟩⟩
        · have hs56 := h.get 13 (hw _ rfl ⟨13, .data⟩ (by simp) rfl) (.tup4 Z.heap.size (snapO snpN ds (metaJ l) v)) (by rw [HV.out]; rfl) _ rfl
          obtain ⟨an7, cn7, ai7, ci7, rfl, hr7⟩ := hs56
          refine wpOp_step rfl fun K hK => ?_
          go_simp
          exact hK _ _ ⟨x57, x58, x59, x60, x61, x62, x63, x64, x65, x66, x67, x68, x69, _, _, x71, x10, rfl, h.same 14 _ (.obj4 Z.heap.size (snapO snpN ds (metaJ l) v)) (by rw [HV.out]; rfl) ⟨_, _, _, _, rfl, hr7⟩⟩
        · have hs56 := h.get 13 (hw _ rfl ⟨13, .data⟩ (by simp) rfl) (.tup4 Z.heap.size (snapO snpN ds (metaJ l) v)) (by rw [HV.out]; rfl) _ rfl
          obtain ⟨an7, cn7, ai7, ci7, rfl, hr7⟩ := hs56
          refine wpOp_step rfl fun K hK => ?_
          go_simp
          exact hK _ _ ⟨x57, x58, x59, x60, x61, x62, x63, x64, x65, x66, x67, x68, x69, _, x70, _, x10, rfl, h.same 15 _ (.con (.int .i64 0)) (by rw [HV.out]; rfl) rfl⟩
        · refine wpOp_step rfl fun K hK => ?_
          go_simp
          exact hK _ _ ⟨x57, x58, x59, x60, x61, x62, x63, x64, x65, x66, x67, x68, x69, x56, x70, x71, _, rfl, h.new _ 16 _ (.blk w5.heap.size 30 #[.int .u8 0, .int .i64 0, .string { data := #[] }, .slice none 0 0, .slice none 0 0]) (by rw [HV.out]; rfl) (IsBlk.made _ h.1.size)⟩
        · omega
      case store =>
        rintro d a' w' ⟨x57, x58, x59, x60, x61, x62, x63, x64, x65, x66, x67, x68, x69, x56, x70, x71, x10, rfl, h⟩ hall
        obtain ⟨b10, k10, rfl, m10⟩ := h.get 16 (hall 16 (by omega) (by omega)) (.blk w5.heap.size 30 #[.int .u8 0, .int .i64 0, .string { data := #[] }, .slice none 0 0, .slice none 0 0]) (by rw [HV.out]; rfl) _ rfl
        obtain ⟨an7, cn7, ai7, ci7, rfl, hr7⟩ := h.get 13 (hall 13 (by omega) (by omega)) (.tup4 Z.heap.size (snapO snpN ds (metaJ l) v)) (by rw [HV.out]; rfl) _ rfl
        obtain ⟨an8, cn8, ai8, ci8, rfl, hr8⟩ := h.get 14 (hall 14 (by omega) (by omega)) (.obj4 Z.heap.size (snapO snpN ds (metaJ l) v)) (by rw [HV.out]; rfl) _ rfl
        refine wpOp_step rfl fun K hK => ?_
        refine step_store_row rfl 30 (.tmp 10) (.tmp 70) rfl b10 #[.int .u8 5, .int .i64 0, .string { data := #[] }, .slice an8 4 cn8, .slice ai8 4 ci8] rfl rfl 30 _ m10 (by kernel_rfl) rfl (by simp [Value.oneCell']) ?_
        have hsk := Rep.skip (w' := w'.setRow b10 #[.int .u8 5, .int .i64 0, .string { data := #[] }, .slice an8 4 cn8, .slice ai8 4 ci8]) (show w'.heap[b10]? = some (.cells zero5 30 (0, 0)) from m10) (fun x hx => by simp only [World.setRow, Array.getElem?_modify]; rw [if_neg (fun e => hx e.symm)]) _ _ HSOL.out hr8
        exact hK _ _ ⟨x57, x58, x59, x60, x61, x62, x63, x64, x65, x66, x67, x68, x69, _, x71, b10, an7, cn7, ai7, ci7, an8, cn8, ai8, ci8, rfl, fun hd => h.get 15 hd (.con (.int .i64 0)) (by rw [HV.out]; rfl) _ rfl, below_setRowN h.1 k10 _, k10, by simp [World.setRow, Array.getElem?_modify, m10], Rep.carry (Nat.le_refl _) (by simp [World.setRow]) (fun _ _ _ => rfl) _ _ hsk⟩
      case late =>
        rintro a' w' ⟨x57, x58, x59, x60, x61, x62, x63, x64, x65, x66, x67, x68, x69, x70, x71, b10, an7, cn7, ai7, ci7, an8, cn8, ai8, ci8, rfl, hF⟩
        obtain ⟨-, hb, k10, m10, hr⟩ := hF
        refine wpOp_step rfl fun K hK => ?_
        go_simp
        exact hK _ _ ⟨x57, x58, x59, x60, x61, x62, x63, x64, x65, x66, x67, x68, x69, x70, _, b10, an7, cn7, ai7, ci7, an8, cn8, ai8, ci8, rfl, fun _ => rfl, hb, k10, m10, hr⟩
      case last =>
        rintro a' w' ⟨x57, x58, x59, x60, x61, x62, x63, x64, x65, x66, x67, x68, x69, x70, x71, b10, an7, cn7, ai7, ci7, an8, cn8, ai8, ci8, rfl, hF⟩
        obtain ⟨h71, hle, k10, m10, hr8⟩ := hF
        obtain rfl := h71 trivial
        clear h71 HV
        have HLE := Lib.hid hle
        have HR8 := Lib.hid hr8
        have HM10 := Lib.hid m10
        clear hr8 hle m10
        go_upto_region 12 with fail
        have hx9 := HM10.out
        have y0 := box_cell hx9 (j := 0) rfl; have y1 := box_cell hx9 (j := 1) rfl; have y2 := box_cell hx9 (j := 2) rfl; have y3 := box_cell hx9 (j := 3) rfl; have y4 := box_cell hx9 (j := 4) rfl
        have hz5 := HZ5.out
        have hb29 : Below w5.heap.size w5 w' := HLE.out
        have hres := below_row hb29 HR5.out (by omega)
        have HRS := Lib.hid hres
        have HB9 := Lib.hid (HBF.out.trans (hb29.mono HBF.out.size))
        have t0 := hres.cell (i := 0) (by decide); have t1 := hres.cell (i := 1) (by decide); have t2 := hres.cell (i := 2) (by decide); have t3 := hres.cell (i := 3) (by decide); have t4 := hres.cell (i := 4) (by decide)
        have s0 := hres.frozen 0; have s1 := hres.frozen 1; have s2 := hres.frozen 2; have s3 := hres.frozen 3; have s4 := hres.frozen 4
        simp only [pick5] at t0 t1 t2 t3 t4
        clear hres hb29 hx9 HOBJ
        go_wp2
        refine bodyPost_ret (results_row_tmp Tryz.results16 _ _ (w.heap.size + 1) 30 _ (0, 0) _ rfl (row5_heap (set5 _ _ _ _ _ HRS.out)) Tryz.underlying30 rfl (by kernel_rfl) _ rfl) rfl ?_
        unfold SnapValPost
        refine ⟨an8, cn8, ai8, ci8, rfl, ?_, below5 _ _ _ _ _ HB9.out (by omega)⟩
        have e9 : snapJ ⟨v, e, l⟩ = snapO snpN ds (metaJ l) v := by rw [HDS.out]; rfl
        rw [e9]
        exact Rep.carry (lo := Z.heap.size) (by omega) (show w'.heap.size ≤ _ by simp [World.setCell]) (fun j hj _ => heap5 _ _ _ _ _ (by omega)) _ _ HR8.out
end Go.Proofs.YtgghgcilpfdbjaaGreatDoor
