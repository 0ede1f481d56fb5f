/- The contract of snap.Value, of a snapshot that may be. Printed by gensnapval.py. -/
import Derived.Test.YtgghgcilpfdbjaaGreatDoorSy25
import Derived.Outline

namespace Go.Proofs.YtgghgcilpfdbjaaGreatDoor
open Go.RowKit Go.Shelf Go.Sort
theorem pickTextB (t : ByteArray) (w : World) : Calls Tryz.prog 45 #[.string t] w fun e w' => e = .returned (.agg #[.int .u8 3, .int .i64 0, .string t, .slice none 0 0, .slice none 0 0]) ∧ Below w.heap.size w w' :=
 (pickTextOf t w).mono fun e w' h => ⟨h.1, by rw [h.2]; exact (Below.refl _ _).alloc (Nat.le_refl _) _⟩
theorem flat_four (a b c d : Mem) : flatK encM 6 #[a, b, c, d] = #[.string a.name, .int .u8 a.k, .int .i64 a.n, .string a.t, .slice a.an a.nn a.cn, .slice a.ai a.ni a.ci, .string b.name, .int .u8 b.k, .int .i64 b.n, .string b.t, .slice b.an b.nn b.cn, .slice b.ai b.ni b.ci, .string c.name, .int .u8 c.k, .int .i64 c.n, .string c.t, .slice c.an c.nn c.cn, .slice c.ai c.ni c.ci, .string d.name, .int .u8 d.k, .int .i64 d.n, .string d.t, .slice d.an d.nn d.cn, .slice d.ai d.ni d.ci] := by
 apply Array.ext
 · simp
 · intro i h1 h2
   have h3 : i < 24 := by simpa using h2
   simp only [flatK, Array.getElem_map, Array.getElem_range]
   match i, h3 with
   | 0, _ => rfl
   | 1, _ => rfl
   | 2, _ => rfl
   | 3, _ => rfl
   | 4, _ => rfl
   | 5, _ => rfl
   | 6, _ => rfl
   | 7, _ => rfl
   | 8, _ => rfl
   | 9, _ => rfl
   | 10, _ => rfl
   | 11, _ => rfl
   | 12, _ => rfl
   | 13, _ => rfl
   | 14, _ => rfl
   | 15, _ => rfl
   | 16, _ => rfl
   | 17, _ => rfl
   | 18, _ => rfl
   | 19, _ => rfl
   | 20, _ => rfl
   | 21, _ => rfl
   | 22, _ => rfl
   | 23, _ => rfl
   | n + 24, h => exact absurd h (by omega)
theorem pickNumB (n : Int) (w : World) : Calls Tryz.prog 46 #[.int .i64 n] w fun e w' => e = .returned (.agg #[.int .u8 2, .int .i64 n, .string { data := #[] }, .slice none 0 0, .slice none 0 0]) ∧ Below w.heap.size w w' :=
 (pickNumOf n w).mono fun e w' h => ⟨h.1, by rw [h.2]; exact (Below.refl _ _).alloc (Nat.le_refl _) _⟩
def IsTup4 (lo : Nat) (v : JV) (w : World) (x : Value) : Prop := ∃ an cn ai ci, x = .tuple #[.agg #[.int .u8 5, .int .i64 0, .string { data := #[] }, .slice an 4 cn, .slice ai 4 ci], .int .i64 0] ∧ Rep w lo w.heap.size v (.agg #[.int .u8 5, .int .i64 0, .string { data := #[] }, .slice an 4 cn, .slice ai 4 ci])
def IsObj4 (lo : Nat) (v : JV) (w : World) (x : Value) : Prop := ∃ an cn ai ci, x = .agg #[.int .u8 5, .int .i64 0, .string { data := #[] }, .slice an 4 cn, .slice ai 4 ci] ∧ Rep w lo w.heap.size v (.agg #[.int .u8 5, .int .i64 0, .string { data := #[] }, .slice an 4 cn, .slice ai 4 ci])
def MP.tup4 (lo : Nat) (v : JV) : MP := ⟨IsTup4 lo v, fun _ _ _ hb ⟨an, cn, ai, ci, e, hr⟩ => ⟨an, cn, ai, ci, e, hr.below hb (Nat.le_refl _) (Nat.le_refl _) hb.size⟩⟩
def MP.obj4 (lo : Nat) (v : JV) : MP := ⟨IsObj4 lo v, fun _ _ _ hb ⟨an, cn, ai, ci, e, hr⟩ => ⟨an, cn, ai, ci, e, hr.below hb (Nat.le_refl _) (Nat.le_refl _) hb.size⟩⟩
set_option maxHeartbeats 4000000 in
set_option maxRecDepth 100000 in
theorem snapValue (v e : Int) (l : List PinV) (a : Option Addr) (c : Nat) (w : World) (hP : PinsAt w 0 w.heap.size a l) (hf : ∀ p ∈ l, PinFits p) (hT : TabW w) (hP10 : Pow10 w) (hm : maySnap ⟨v, e, l⟩ = true) (hpm : PinsMade l) (hwt : ∀ p ∈ l, (pinJ p).wt ≤ 4294967296) (hwm : (metaJ l).wt ≤ 4294967296) :
   Calls Tryz.prog 15 #[.agg #[.int .i64 v, .int .i64 e, .slice a l.length c]] w (SnapValPost ⟨v, e, l⟩ w) := by
 obtain ⟨hv, he, hl, -, hri⟩ := maySnap_parts.1 hm
 dsimp only at hv he hl hri
 obtain ⟨W2, hW2⟩ : ∃ W2, W2 = (w.alloc (.cells #[.int .i64 v, .int .i64 e, .slice a l.length c] 24)).alloc (.cells #[.int .u8 0, .int .i64 0, .string { data := #[] }, .slice none 0 0, .slice none 0 0] 30) := ⟨_, rfl⟩
 have hz1 : (w.alloc (.cells #[.int .i64 v, .int .i64 e, .slice a l.length c] 24)).heap.size = w.heap.size + 1 := by simp
 have hz2 : W2.heap.size = w.heap.size + 2 := by rw [hW2]; simp
 have hb2 : Below w.heap.size w W2 := by rw [hW2]; exact ((Below.refl _ _).alloc (Nat.le_refl _) _).alloc (by simp) _
 have hx0 : W2.heap[w.heap.size]? = some (.cells #[.int .i64 v, .int .i64 e, .slice a l.length c] 24 (0, 0)) := by rw [hW2, Below.heap_alloc _ _ _ (by simp)]; exact heap_alloc_new w _
 have hr0 : W2.rowIs (w.heap.size + 1) 30 5 (pick5 (.int .u8 0) (.int .i64 0) (.string { data := #[] }) (.slice none 0 0) (.slice none 0 0)) := by
   have := rowIs_box5 (w.alloc (.cells #[.int .i64 v, .int .i64 e, .slice a l.length c] 24)) (.int .u8 0) (.int .i64 0) (.string { data := #[] }) (.slice none 0 0) (.slice none 0 0) 30
   rw [hz1, ← hW2] at this
   exact this
 have HPA := Lib.hid (hP.below hb2 (Nat.le_refl _) (Nat.le_refl _) hb2.size)
 have HMY := Lib.hid (snapMay v e l a c W2 HPA.out (by omega) hf (hT.below hb2) (hP10.below hb2))
 rw [hm] at HMY
 have HC := Lib.hid (show ∀ w' : World, Below W2.heap.size W2 w' → w'.cell? ⟨w.heap.size, 0, none⟩ = some (.int .i64 v) ∧ w'.cell? ⟨w.heap.size, 1, none⟩ = some (.int .i64 e) ∧ w'.cell? ⟨w.heap.size, 2, none⟩ = some (.slice a l.length c) from fun w' h => by
   have x := (h.block _ (heap_lt hx0)).trans hx0
   exact ⟨box_cell x rfl, box_cell x rfl, box_cell x rfl⟩)
 have HSH := Lib.hid (show ∀ w' : World, Below W2.heap.size W2 w' → Calls Tryz.prog 44 #[.int .i64 e] w' (fun r w'' => r = .returned (.tuple #[.string ⟨(dateL e.toNat).toArray⟩, .int .i64 0]) ∧ Below w'.heap.size w' w'') from fun w' h => by
   have := whenShow e w' ((hT.below hb2).below h) ((hP10.below hb2).below h)
   have e1 : showS e = ⟨(dateL e.toNat).toArray⟩ := by unfold showS; rw [if_pos he]
   have e2 : showE e = 0 := by unfold showE; rw [if_pos he]
   rw [e1, e2] at this
   exact this)
 have HR0 := Lib.hid hr0
 have HB2 := Lib.hid hb2
 have HW := Lib.hid hW2
 have HZ2 := Lib.hid hz2
 have HPM := Lib.hid hpm
 have HWT := Lib.hid (And.intro hwt hwm)
 have HRI := Lib.hid hri
 have hlw : 0 < W2.heap.size := by omega
 have HTX := Lib.hid (show ((⟨(dateL e.toNat).toArray⟩ : ByteArray)).size ≤ 4294967000 from by rw [show ((⟨(dateL e.toNat).toArray⟩ : ByteArray)).size = (dateL e.toNat).length by simp [ByteArray.size]]; exact Nat.le_trans (dateL_short _ (by omega)) (by decide))
 clear hW2 hb2 hx0 hr0 hz1 hm hP hf hT hP10 hpm hwt hwm hri hv he
 obtain ⟨q0, q1, q2⟩ := HC.out W2 (Below.refl _ _)
 go_enter Tryz.func15, Tryz.ntmps15
 go_upto_region 1 with fail
 rw [← HW.out]
 go_wp2_with fail
 refine HMY.out.mono ?_
 clear HMY q0 q1 q2
 rintro r w1 ⟨rfl, hb1⟩
 have HB1 := Lib.hid hb1
 have HS1 := Lib.hid (HSH.out w1 hb1)
 obtain ⟨q0, q1, q2⟩ := HC.out w1 hb1
 clear hb1
 go_wp2_with fail
 refine HS1.out.mono ?_
 clear HS1 HSH q0 q1 q2
 rintro r w3 ⟨rfl, hb3⟩
 have HB3 := Lib.hid (HB1.out.trans (hb3.mono HB1.out.size))
 obtain ⟨q0, q1, q2⟩ := HC.out w3 HB3.out
 clear hb3
 obtain ⟨ds, hds⟩ : ∃ ds : ByteArray, ds = ⟨(dateL e.toNat).toArray⟩ := ⟨_, rfl⟩
 rw [← hds]
 have HDS := Lib.hid hds
 rw [← hds] at HTX
 clear hds
 obtain ⟨i1, hi1, hy0, hy1, hy2⟩ := info_parts infoMember
 have h3z : W2.heap.size ≤ w3.heap.size := HB3.out.size
 go_upto_region 8 with (at_make; refine wpList_make_own _ rfl (.const (.int .i64 0)) (.tmp 27) 70 rfl W2.heap.size 74 i1 _ 6 Tryz.underlying70 hi1 hy0 hy1 .i64 .i64 _ l.length rfl rfl rfl (by rw [hy2]; omega) (by unfold maxLen; omega) h3z ?_; intro w4 hown4 hgrow4; have HO4 := Lib.hid hown4; have HB4 := Lib.hid (below_grown (v := .slice none 0 0) HB3.out h3z hgrow4 (fun b hb => by cases hb)); obtain ⟨q0, q1, q2⟩ := HC.out w4 HB4.out; clear hown4 hgrow4)
 go_loopw [6, 8, 9, 10, 32] (fun s6 _ _ _ i wr => ∃ k : Nat, k ≤ l.length ∧ i = .int .i64 k ∧ MembsAt W2.heap.size wr s6 l k ∧ Below W2.heap.size W2 wr) (fun _ _ _ _ i _ => l.length - (intOf i).toNat)
 case atStart => exact ⟨0, by omega, rfl, ⟨⟨_, _, rfl⟩, [], ⟨by simpa [flatM] using HO4.out, rfl, fun i h => by simp at h⟩, rfl⟩, HB4.out⟩
 case round =>
   obtain ⟨k, hk, rfl, hMB, hb⟩ := hrel
   have HB := Lib.hid hb
   have HMB := Lib.hid hMB
   clear HO4 HB4 HB3 HB1 h3z
   by_cases hlt : k < l.length
   · obtain ⟨b1, o1, ha1, _, hbl1, e0, e1, e2, hh, hc, e3, _, hk1⟩ := (HPA.out.below hb (Nat.le_refl _) (Nat.le_refl _) hb.size).at k hlt
     subst ha1
     have hmem : l[k] ∈ l := List.getElem_mem hlt
     have HPK := Lib.hid (HPM.out l[k] hmem)
     have HTK := Lib.hid (show l.take (k + 1) = l.take k ++ [l[k]] from List.take_succ_eq_append_getElem hlt)
     obtain ⟨p, hp⟩ : ∃ p, p = l[k] := ⟨_, rfl⟩
     rw [← hp] at HPK HTK e0 e1 e2 e3 hk1
     obtain ⟨nm, vr, ln, hs⟩ := p
     dsimp only at e0 e1 e2 e3 hk1
     clear hMB hb hp hmem q0 q1 q2
     obtain ⟨⟨g0, cap0, hs6⟩, ms, hms, hnm⟩ := HMB.out
     subst hs6
     have HMS := Lib.hid hms
     have HNM := Lib.hid hnm
     clear hms hnm
     go_upto_region 10 with fail
     obtain ⟨WP, hWP⟩ : ∃ WP, WP = wr.alloc (.cells #[.string nm, .int .i64 vr, .int .i64 ln, .slice hh hs.length hc] 36) := ⟨_, rfl⟩
     have hbP : Below wr.heap.size wr WP := by rw [hWP]; exact (Below.refl _ _).alloc (Nat.le_refl _) _
     have hxP : WP.heap[wr.heap.size]? = some (.cells #[.string nm, .int .i64 vr, .int .i64 ln, .slice hh hs.length hc] 36 (0, 0)) := by rw [hWP]; exact heap_alloc_new wr _
     rw [← hWP]
     have HCP := Lib.hid (show ∀ w' : World, Below WP.heap.size WP w' → w'.cell? ⟨wr.heap.size, 0, none⟩ = some (.string nm) ∧ w'.cell? ⟨wr.heap.size, 1, none⟩ = some (.int .i64 vr) ∧ w'.cell? ⟨wr.heap.size, 2, none⟩ = some (.int .i64 ln) ∧ w'.cell? ⟨wr.heap.size, 3, none⟩ = some (.slice hh hs.length hc) from fun w' h => by
       have x := (h.block _ (heap_lt hxP)).trans hxP
       exact ⟨box_cell x rfl, box_cell x rfl, box_cell x rfl, box_cell x rfl⟩)
     have HPV := Lib.hid (HPK.out hh hc WP (hk1.below hbP (Nat.le_refl _) (Nat.le_refl _) hbP.size))
     have HBP := Lib.hid hbP
     clear hWP hbP hxP HPK hk1 e0 e1 e2 e3
     obtain ⟨e0, e1, e2, e3⟩ := HCP.out WP (Below.refl _ _)
     go_wp2_with fail
     refine HPV.out.mono ?_
     clear HPV e0 e1 e2 e3
     rintro r w5 ⟨an, cn, ai, ci, rfl, hr5, hb5⟩
     have HR5 := Lib.hid hr5
     have HB5 := Lib.hid hb5
     clear hr5 hb5
     go_upto_region 13 with fail
     obtain ⟨W6, hW6⟩ : ∃ W6, W6 = w5.alloc (.cells #[.int .u8 5, .int .i64 0, .string { data := #[] }, .slice an (pinJ ⟨nm, vr, ln, hs⟩).names.length cn, .slice ai (pinJ ⟨nm, vr, ln, hs⟩).items.length ci] 30) := ⟨_, rfl⟩
     have hb6 : Below WP.heap.size WP W6 := by rw [hW6]; exact HB5.out.alloc HB5.out.size _
     have hx6 : W6.heap[w5.heap.size]? = some (.cells #[.int .u8 5, .int .i64 0, .string { data := #[] }, .slice an (pinJ ⟨nm, vr, ln, hs⟩).names.length cn, .slice ai (pinJ ⟨nm, vr, ln, hs⟩).items.length ci] 30 (0, 0)) := by rw [hW6]; exact heap_alloc_new w5 _
     rw [← hW6]
     have HB6 := Lib.hid hb6
     have HW6 := Lib.hid hW6
     obtain ⟨e0, e1, e2, e3⟩ := HCP.out W6 hb6
     have y0 : W6.cell? ⟨w5.heap.size, 0, none⟩ = some (.int .u8 5) := box_cell hx6 rfl
     have y1 : W6.cell? ⟨w5.heap.size, 1, none⟩ = some (.int .i64 0) := box_cell hx6 rfl
     have y2 : W6.cell? ⟨w5.heap.size, 2, none⟩ = some (.string { data := #[] }) := box_cell hx6 rfl
     have y3 : W6.cell? ⟨w5.heap.size, 3, none⟩ = some (.slice an (pinJ ⟨nm, vr, ln, hs⟩).names.length cn) := box_cell hx6 rfl
     have y4 : W6.cell? ⟨w5.heap.size, 4, none⟩ = some (.slice ai (pinJ ⟨nm, vr, ln, hs⟩).items.length ci) := box_cell hx6 rfl
     have HML := Lib.hid (show ms.length = k from by have := congrArg List.length HNM.out; simp at this; omega)
     have hb26 : Below W2.heap.size W2 W6 := HB.out.trans ((HBP.out.trans (hb6.mono HBP.out.size)).mono HB.out.size)
     have HB26 := Lib.hid hb26
     have h26z : W2.heap.size ≤ W6.heap.size := hb26.size
     have HM6 := Lib.hid (HMS.out.below (HBP.out.trans (hb6.mono HBP.out.size)))
     have HO6 := Lib.hid (show W6.ownsRow W2.heap.size 74 6 (.slice (some ⟨g0, 0, none⟩) k cap0) k (flatM ms) from by have := HM6.out.own; rwa [HML.out] at this)
     clear hW6 hb6 hx6 hb26
     obtain ⟨mm, hmm⟩ : ∃ mm : Mem, mm = ⟨nm, 5, 0, { data := #[] }, an, (pinJ ⟨nm, vr, ln, hs⟩).names.length, cn, ai, (pinJ ⟨nm, vr, ln, hs⟩).items.length, ci⟩ := ⟨_, rfl⟩
     have HEM := Lib.hid (show encM mm = [.string nm, .int .u8 5, .int .i64 0, .string { data := #[] }, .slice an (pinJ ⟨nm, vr, ln, hs⟩).names.length cn, .slice ai (pinJ ⟨nm, vr, ln, hs⟩).items.length ci] by rw [hmm]; rfl)
     have HMM := Lib.hid hmm
     clear hmm
     go_wp2_with (at_builtin; refine wpList_append_lies _ rfl (.tmp 44) (.tmp 49) 70 rfl W2.heap.size 74 i1 _ 6 96 Tryz.underlying70 hi1 hy0 hy1 hy2 rfl (by omega) (.slice (some ⟨g0, 0, none⟩) k cap0) k (flatM ms) rfl (HO6.out.alloc _) ⟨W6.heap.size, 0, none⟩ 1 1 (encM mm) rfl rfl (by rw [HEM.out]; exact World.news_of_block (cs := #[.string nm, .int .u8 5, .int .i64 0, .string { data := #[] }, .slice an (pinJ ⟨nm, vr, ln, hs⟩).names.length cn, .slice ai (pinJ ⟨nm, vr, ln, hs⟩).items.length ci]) (t := 74) (fr := (0, 0)) (heap_alloc_new W6 _)) (encM_one _) (by omega) (by unfold maxLen; omega) (by omega) (by simp; omega) (W6.heap.size + 1) (by simp) ?_; intro g2 cap3 w4 hown4 hgrow4 hat4 hlt4; have HO4 := Lib.hid hown4; have HG4 := Lib.hid hgrow4; have HA4 := Lib.hid hat4; clear hown4 hgrow4 hat4)
     have HB4 := Lib.hid (below_grown (HB26.out.alloc h26z (.cells #[.string nm, .int .u8 5, .int .i64 0, .string { data := #[] }, .slice an (pinJ ⟨nm, vr, ln, hs⟩).names.length cn, .slice ai (pinJ ⟨nm, vr, ln, hs⟩).items.length ci] 74)) (by simp; omega) HG4.out (fun b hb => (HO6.out.lt b hb).1))
     have hga : Below W6.heap.size W6 (W6.alloc (.cells #[.string nm, .int .u8 5, .int .i64 0, .string { data := #[] }, .slice an (pinJ ⟨nm, vr, ln, hs⟩).names.length cn, .slice ai (pinJ ⟨nm, vr, ln, hs⟩).items.length ci] 74)) := (Below.refl _ _).alloc (Nat.le_refl _) _
     have hg0 := HMS.out.own.lt g0 rfl
     have hwp := HBP.out.size
     have hw5 : w5.heap.size ≤ W6.heap.size := Nat.le_of_lt (by rw [HW6.out]; simp)
     have hr6 : Rep (W6.alloc (.cells #[.string nm, .int .u8 5, .int .i64 0, .string { data := #[] }, .slice an (pinJ ⟨nm, vr, ln, hs⟩).names.length cn, .slice ai (pinJ ⟨nm, vr, ln, hs⟩).items.length ci] 74)) WP.heap.size w5.heap.size (pinJ ⟨nm, vr, ln, hs⟩) mm.val := by
       rw [HMM.out]
       refine HR5.out.below (B := w5.heap.size) ?_ (Nat.le_refl _) (Nat.le_refl _) (Nat.le_refl _)
       exact Below.trans (by rw [HW6.out]; exact (Below.refl _ _).alloc (Nat.le_refl _) _) (hga.mono hw5)
     have hms4 := (HM6.out.below hga).snoc (v' := .slice (some ⟨g2, 0, none⟩) (k + 1) cap3) mm (pinJ ⟨nm, vr, ln, hs⟩) WP.heap.size w5.heap.size (by have := HB.out.size; omega) (by simp; omega) (fun b hb => by simp only [Value.ownBlock, Option.some.injEq] at hb; omega) hr6 (by have h := HG4.out; rwa [← HML.out] at h) (by have h := HO4.out; rwa [← HML.out] at h ⊢) (by
       rcases HA4.out with h | h
       · exact .inl h.symm
       · exact .inr ⟨g2, rfl, by simp; omega⟩)
     have HMF := Lib.hid (show MembsAt W2.heap.size w4 (.slice (some ⟨g2, 0, none⟩) (k + 1) cap3) l (k + 1) from ⟨⟨g2, cap3, rfl⟩, ms ++ [mm], by
       rw [HTK.out]
       simpa using hms4, by
       rw [HTK.out, List.map_append, List.map_append, HNM.out, HMM.out]
       rfl⟩)
     exact ⟨⟨k + 1, by omega, by go_num, HMF.out, HB4.out⟩, by simp [intOf]; omega⟩
   · obtain rfl : k = l.length := by omega
     obtain ⟨⟨g0, cap0, hs6⟩, hmsx⟩ := hMB
     subst hs6
     have HMO := Lib.hid (metaObj HRI.out hl HWT.out.1 hlw HMB.out)
     clear q0 q1 q2 hmsx
     obtain ⟨q0, q1, q2⟩ := HC.out wr HB.out
     go_wp2_with fail
     refine HMO.out.mono ?_
     clear HMO HMB q0 q1 q2
     rintro r w5 ⟨an, cn, ai, ci, rfl, hr5, hb5⟩
     rw [List.length_map, List.length_map]
     obtain ⟨W6, hW6⟩ : ∃ W6, W6 = w5.alloc (.cells #[.int .u8 5, .int .i64 0, .string { data := #[] }, .slice an l.length cn, .slice ai l.length ci] 30) := ⟨_, rfl⟩
     have hb6 : Below wr.heap.size wr W6 := by rw [hW6]; exact hb5.alloc hb5.size _
     have hx6 : W6.heap[w5.heap.size]? = some (.cells #[.int .u8 5, .int .i64 0, .string { data := #[] }, .slice an l.length cn, .slice ai l.length ci] 30 (0, 0)) := by rw [hW6]; exact heap_alloc_new w5 _
     have hb26 : Below W2.heap.size W2 W6 := HB.out.trans (hb6.mono HB.out.size)
     have hz56 : w5.heap.size < W6.heap.size := heap_lt hx6
     have hr6 : Rep W6 wr.heap.size w5.heap.size (metaJ l) (.agg #[.int .u8 5, .int .i64 0, .string { data := #[] }, .slice an (metaJ l).names.length cn, .slice ai (metaJ l).items.length ci]) := by
       have hl5 : (l.map (·.name)).length = l.length := List.length_map ..
       have e : Rep w5 wr.heap.size w5.heap.size (metaJ l) (.agg #[.int .u8 5, .int .i64 0, .string { data := #[] }, .slice an (metaJ l).names.length cn, .slice ai (metaJ l).items.length ci]) := hr5
       exact e.below (B := w5.heap.size) (by rw [hW6]; exact (Below.refl _ _).alloc (Nat.le_refl _) _) (Nat.le_refl _) (Nat.le_refl _) (Nat.le_refl _)
     have HC6 := Lib.hid (show ∀ w' : World, Below W6.heap.size W6 w' → w'.cell? ⟨w.heap.size, 0, none⟩ = some (.int .i64 v) ∧ w'.cell? ⟨w5.heap.size, 0, none⟩ = some (.int .u8 5) ∧ w'.cell? ⟨w5.heap.size, 1, none⟩ = some (.int .i64 0) ∧ w'.cell? ⟨w5.heap.size, 2, none⟩ = some (.string { data := #[] }) ∧ w'.cell? ⟨w5.heap.size, 3, none⟩ = some (.slice an l.length cn) ∧ w'.cell? ⟨w5.heap.size, 4, none⟩ = some (.slice ai l.length ci) from fun w' h => by
       have x := (h.block _ (heap_lt hx6)).trans hx6
       exact ⟨(HC.out w' (hb26.trans (h.mono hb26.size))).1, box_cell x rfl, box_cell x rfl, box_cell x rfl, box_cell x rfl, box_cell x rfl⟩)
     have HR6 := Lib.hid hr6
     have HB6 := Lib.hid hb26
     have HZ6 := Lib.hid (show wr.heap.size ≤ w5.heap.size ∧ w5.heap.size ≤ W6.heap.size from ⟨hb5.size, Nat.le_of_lt hz56⟩)
     have HW6 := Lib.hid hW6
     have HLW := Lib.hid (show 0 < wr.heap.size by have := HB.out.size; omega)
     have HOBJ := Lib.hid (show ∀ (w' : World) (b : Nat), Below W6.heap.size W6 w' → w'.heap[b]? = some (.cells #[.string { data := #[95, 116, 121, 112, 101] }, .int .u8 3, .int .i64 0, .string { data := #[115, 110, 97, 112, 115, 104, 111, 116] }, .slice none 0 0, .slice none 0 0, .string { data := #[118, 101, 114, 115, 105, 111, 110] }, .int .u8 2, .int .i64 v, .string { data := #[] }, .slice none 0 0, .slice none 0 0, .string { data := #[101, 120, 112, 105, 114, 101, 115] }, .int .u8 3, .int .i64 0, .string ds, .slice none 0 0, .slice none 0 0, .string { data := #[109, 101, 116, 97] }, .int .u8 5, .int .i64 0, .string { data := #[] }, .slice an l.length cn, .slice ai l.length ci] 74 (0, 0)) → Calls Tryz.prog 42 #[.slice (some ⟨b, 0, none⟩) 4 4] w' (fun e w2 => ∃ y, e = .returned y ∧ IsTup4 wr.heap.size (snapO snpN ds (metaJ l) v) w2 y ∧ Below w'.heap.size w' w2) from fun w' b hbw hm => by
       have e1 : (metaJ l).names.length = l.length := List.length_map ..
       have e2 : (metaJ l).items.length = l.length := List.length_map ..
       have hH : HoldsK encM 6 w' b 0 (snapMs v ds an l.length cn ai l.length ci) := holds_heap (T := 74) (by rw [hm]; unfold snapMs; rw [flat_four]; rfl)
       refine (objSnap v ds (metaJ l) an cn ai ci b 4 w' wr.heap.size w5.heap.size ⟨rfl, rfl, rfl⟩ HLW.out (Nat.le_trans HZ6.out.2 hbw.size) HTX.out HWT.out.2 (HR6.out.below hbw HZ6.out.2 (Nat.le_refl _) (Nat.le_refl _)) (by rw [e1, e2]; exact hH) (heap_lt hm)).mono ?_
       rintro e w2 ⟨a7, c7, i7, d7, rfl, hr7, hb7⟩
       refine ⟨_, rfl, ⟨a7, c7, i7, d7, rfl, ?_⟩, hb7⟩
       exact Rep.carry (Nat.le_trans HZ6.out.1 (Nat.le_trans HZ6.out.2 hbw.size)) (Nat.le_refl _) (fun _ _ _ => rfl) _ _ hr7)
     clear hW6 hb6 hx6 hb26 hr6 hr5 hb5 hz56
     go_upto_region 18 with fail
     rw [← HW6.out]
     obtain ⟨V, hV⟩ : ∃ V : List MP, V = [.con (.agg #[.int .u8 3, .int .i64 0, .string { data := #[115, 110, 97, 112, 115, 104, 111, 116] }, .slice none 0 0, .slice none 0 0]), .con (.agg #[.string { data := #[95, 116, 121, 112, 101] }, .int .u8 3, .int .i64 0, .string { data := #[115, 110, 97, 112, 115, 104, 111, 116] }, .slice none 0 0, .slice none 0 0]), .con (.pointer (some ⟨w.heap.size, 0, none⟩)), .con (.int .i64 v), .con (.agg #[.int .u8 2, .int .i64 v, .string { data := #[] }, .slice none 0 0, .slice none 0 0]), .con (.agg #[.string { data := #[118, 101, 114, 115, 105, 111, 110] }, .int .u8 2, .int .i64 v, .string { data := #[] }, .slice none 0 0, .slice none 0 0]), .con (.string ds), .con (.agg #[.int .u8 3, .int .i64 0, .string ds, .slice none 0 0, .slice none 0 0]), .con (.agg #[.string { data := #[101, 120, 112, 105, 114, 101, 115] }, .int .u8 3, .int .i64 0, .string ds, .slice none 0 0, .slice none 0 0]), .con (.agg #[.int .u8 5, .int .i64 0, .string { data := #[] }, .slice an l.length cn, .slice ai l.length ci]), .con (.agg #[.string { data := #[109, 101, 116, 97] }, .int .u8 5, .int .i64 0, .string { data := #[] }, .slice an l.length cn, .slice ai l.length ci]), .row W6.heap.size 4 74 #[.string { data := #[95, 116, 121, 112, 101] }, .int .u8 3, .int .i64 0, .string { data := #[115, 110, 97, 112, 115, 104, 111, 116] }, .slice none 0 0, .slice none 0 0, .string { data := #[118, 101, 114, 115, 105, 111, 110] }, .int .u8 2, .int .i64 v, .string { data := #[] }, .slice none 0 0, .slice none 0 0, .string { data := #[101, 120, 112, 105, 114, 101, 115] }, .int .u8 3, .int .i64 0, .string ds, .slice none 0 0, .slice none 0 0, .string { data := #[109, 101, 116, 97] }, .int .u8 5, .int .i64 0, .string { data := #[] }, .slice an l.length cn, .slice ai l.length ci], .tup4 wr.heap.size (snapO snpN ds (metaJ l) v), .obj4 wr.heap.size (snapO snpN ds (metaJ l) v), .con (.int .i64 0)] := ⟨_, rfl⟩
     have HV := Lib.hid hV
     clear hV
     refine wp_region_inv 15 (fun d a' w' => ∃ x60 x61 x62 x63 x64 x65 x66 x67 x68 x69 x70 x71 x72 x73 x74, a' = ⟨#[Value.agg #[Value.int IntKind.i64 v, Value.int IntKind.i64 e, Value.slice a l.length c], Value.pointer (some { block := w.heap.size, off := 0 }), Value.pointer (some { block := w.heap.size + 1, off := 0 }), u3, Value.string ds, Value.int IntKind.i64 0, Value.slice (some { block := g0, off := 0 }) l.length cap0, undef, u8, u9, u10, Value.pointer (some { block := w5.heap.size, off := 0 }), Value.agg #[Value.int IntKind.i64 v, Value.int IntKind.i64 e, Value.slice a l.length c], Value.bool true, Value.bool false, undef, Value.tuple #[Value.string ds, Value.int IntKind.i64 0], Value.pointer (some { block := w.heap.size, off := 1 }), Value.int IntKind.i64 e, Value.tuple #[Value.string ds, Value.int IntKind.i64 0], Value.string ds, Value.int IntKind.i64 0, Value.int IntKind.i64 0, Value.bool false, undef, Value.pointer (some { block := w.heap.size, off := 2 }), Value.slice a l.length c, Value.int IntKind.i64 (l.length : Int), Value.slice (some { block := w3.heap.size, off := 0 }) 0 l.length, Value.pointer (some { block := w.heap.size, off := 2 }), Value.slice a l.length c, Value.int IntKind.i64 (l.length : Int), Value.int IntKind.i64 (l.length : Int), Value.bool false, u34, u35, u36, u37, u38, u39, u40, u41, u42, u43, u44, u45, u46, u47, u48, u49, u50, u51, Value.tuple #[Value.agg #[Value.int IntKind.u8 5, Value.int IntKind.i64 0, Value.string { data := #[] }, Value.slice an l.length cn, Value.slice ai l.length ci], Value.int IntKind.i64 0], Value.slice (some { block := g0, off := 0 }) l.length cap0, Value.tuple #[Value.agg #[Value.int IntKind.u8 5, Value.int IntKind.i64 0, Value.string { data := #[] }, Value.slice an l.length cn, Value.slice ai l.length ci], Value.int IntKind.i64 0], Value.agg #[Value.int IntKind.u8 5, Value.int IntKind.i64 0, Value.string { data := #[] }, Value.slice an l.length cn, Value.slice ai l.length ci], Value.int IntKind.i64 0, Value.int IntKind.i64 0, Value.bool false, undef, x60, x61, x62, x63, x64, x65, x66, x67, x68, x69, x70, x71, x72, x73, x74], []⟩ ∧ RegI W6 V d w' [x60, x61, x62, x63, x64, x65, x66, x67, x68, x69, x70, x71, x72, x73, x74]) (by kernel_rfl) (by kernel_rfl) ?first ?step ?last
     case first => exact ⟨_, _, _, _, _, _, _, _, _, _, _, _, _, _, _, rfl, RegI.first _ _ _ (by rw [HV.out]; rfl)⟩
     case step =>
       rintro d a' w' ⟨x60, x61, x62, x63, x64, x65, x66, x67, x68, x69, x70, x71, x72, x73, x74, rfl, h⟩ q hq hn hw
       rcases q with _ | _ | _ | _ | _ | _ | _ | _ | _ | _ | _ | _ | _ | _ | _ | q
       · obtain ⟨q0, y0, y1, y2, y3, y4⟩ := HC6.out w' h.1
         refine wpOp_step rfl fun K hK => ?_
         go_simp
         refine (pickTextB _ w').mono ?_
         rintro e w2 ⟨rfl, hb2⟩
         exact hK _ _ ⟨_, x61, x62, x63, x64, x65, x66, x67, x68, x69, x70, x71, x72, x73, x74, rfl, h.did hb2 0 _ (.con (.agg #[.int .u8 3, .int .i64 0, .string { data := #[115, 110, 97, 112, 115, 104, 111, 116] }, .slice none 0 0, .slice none 0 0])) (by rw [HV.out]; rfl) rfl⟩
       · obtain rfl : x60 = .agg #[.int .u8 3, .int .i64 0, .string { data := #[115, 110, 97, 112, 115, 104, 111, 116] }, .slice none 0 0, .slice none 0 0] := h.get 0 (hw _ rfl ⟨0, .data⟩ (by simp) rfl) (.con (.agg #[.int .u8 3, .int .i64 0, .string { data := #[115, 110, 97, 112, 115, 104, 111, 116] }, .slice none 0 0, .slice none 0 0])) (by rw [HV.out]; rfl) _ rfl
         refine wpOp_step rfl fun K hK => ?_
         go_simp
         exact hK _ _ ⟨_, _, x62, x63, x64, x65, x66, x67, x68, x69, x70, x71, x72, x73, x74, rfl, h.same 1 _ (.con (.agg #[.string { data := #[95, 116, 121, 112, 101] }, .int .u8 3, .int .i64 0, .string { data := #[115, 110, 97, 112, 115, 104, 111, 116] }, .slice none 0 0, .slice none 0 0])) (by rw [HV.out]; rfl) rfl⟩
       · refine wpOp_step rfl fun K hK => ?_
         go_simp
         exact hK _ _ ⟨x60, x61, _, x63, x64, x65, x66, x67, x68, x69, x70, x71, x72, x73, x74, rfl, h.same 2 _ (.con (.pointer (some ⟨w.heap.size, 0, none⟩))) (by rw [HV.out]; rfl) rfl⟩
       · obtain rfl : x62 = .pointer (some ⟨w.heap.size, 0, none⟩) := h.get 2 (hw _ rfl ⟨2, .data⟩ (by simp) rfl) (.con (.pointer (some ⟨w.heap.size, 0, none⟩))) (by rw [HV.out]; rfl) _ rfl
         obtain ⟨q0, y0, y1, y2, y3, y4⟩ := HC6.out w' h.1
         refine wpOp_step rfl fun K hK => ?_
         go_simp
         exact hK _ _ ⟨x60, x61, _, _, x64, x65, x66, x67, x68, x69, x70, x71, x72, x73, x74, rfl, h.same 3 _ (.con (.int .i64 v)) (by rw [HV.out]; rfl) rfl⟩
       · obtain rfl : x63 = .int .i64 v := h.get 3 (hw _ rfl ⟨3, .data⟩ (by simp) rfl) (.con (.int .i64 v)) (by rw [HV.out]; rfl) _ rfl
         obtain ⟨q0, y0, y1, y2, y3, y4⟩ := HC6.out w' h.1
         refine wpOp_step rfl fun K hK => ?_
         go_simp
         refine (pickNumB v w').mono ?_
         rintro e w2 ⟨rfl, hb2⟩
         exact hK _ _ ⟨x60, x61, x62, _, _, x65, x66, x67, x68, x69, x70, x71, x72, x73, x74, rfl, h.did hb2 4 _ (.con (.agg #[.int .u8 2, .int .i64 v, .string { data := #[] }, .slice none 0 0, .slice none 0 0])) (by rw [HV.out]; rfl) rfl⟩
       · obtain rfl : x64 = .agg #[.int .u8 2, .int .i64 v, .string { data := #[] }, .slice none 0 0, .slice none 0 0] := h.get 4 (hw _ rfl ⟨4, .data⟩ (by simp) rfl) (.con (.agg #[.int .u8 2, .int .i64 v, .string { data := #[] }, .slice none 0 0, .slice none 0 0])) (by rw [HV.out]; rfl) _ rfl
         refine wpOp_step rfl fun K hK => ?_
         go_simp
         exact hK _ _ ⟨x60, x61, x62, x63, _, _, x66, x67, x68, x69, x70, x71, x72, x73, x74, rfl, h.same 5 _ (.con (.agg #[.string { data := #[118, 101, 114, 115, 105, 111, 110] }, .int .u8 2, .int .i64 v, .string { data := #[] }, .slice none 0 0, .slice none 0 0])) (by rw [HV.out]; rfl) rfl⟩
       · refine wpOp_step rfl fun K hK => ?_
         go_simp
         exact hK _ _ ⟨x60, x61, x62, x63, x64, x65, _, x67, x68, x69, x70, x71, x72, x73, x74, rfl, h.same 6 _ (.con (.string ds)) (by rw [HV.out]; rfl) rfl⟩
       · obtain rfl : x66 = .string ds := h.get 6 (hw _ rfl ⟨6, .data⟩ (by simp) rfl) (.con (.string ds)) (by rw [HV.out]; rfl) _ rfl
         obtain ⟨q0, y0, y1, y2, y3, y4⟩ := HC6.out w' h.1
         refine wpOp_step rfl fun K hK => ?_
         go_simp
         refine (pickTextB ds w').mono ?_
         rintro e w2 ⟨rfl, hb2⟩
         exact hK _ _ ⟨x60, x61, x62, x63, x64, x65, _, _, x68, x69, x70, x71, x72, x73, x74, rfl, h.did hb2 7 _ (.con (.agg #[.int .u8 3, .int .i64 0, .string ds, .slice none 0 0, .slice none 0 0])) (by rw [HV.out]; rfl) rfl⟩
       · obtain rfl : x67 = .agg #[.int .u8 3, .int .i64 0, .string ds, .slice none 0 0, .slice none 0 0] := h.get 7 (hw _ rfl ⟨7, .data⟩ (by simp) rfl) (.con (.agg #[.int .u8 3, .int .i64 0, .string ds, .slice none 0 0, .slice none 0 0])) (by rw [HV.out]; rfl) _ rfl
         refine wpOp_step rfl fun K hK => ?_
         go_simp
         exact hK _ _ ⟨x60, x61, x62, x63, x64, x65, x66, _, _, x69, x70, x71, x72, x73, x74, rfl, h.same 8 _ (.con (.agg #[.string { data := #[101, 120, 112, 105, 114, 101, 115] }, .int .u8 3, .int .i64 0, .string ds, .slice none 0 0, .slice none 0 0])) (by rw [HV.out]; rfl) rfl⟩
       · obtain ⟨q0, y0, y1, y2, y3, y4⟩ := HC6.out w' h.1
         refine wpOp_step rfl fun K hK => ?_
         go_simp
         exact hK _ _ ⟨x60, x61, x62, x63, x64, x65, x66, x67, x68, _, x70, x71, x72, x73, x74, rfl, h.same 9 _ (.con (.agg #[.int .u8 5, .int .i64 0, .string { data := #[] }, .slice an l.length cn, .slice ai l.length ci])) (by rw [HV.out]; rfl) rfl⟩
       · obtain rfl : x69 = .agg #[.int .u8 5, .int .i64 0, .string { data := #[] }, .slice an l.length cn, .slice ai l.length ci] := h.get 9 (hw _ rfl ⟨9, .data⟩ (by simp) rfl) (.con (.agg #[.int .u8 5, .int .i64 0, .string { data := #[] }, .slice an l.length cn, .slice ai l.length ci])) (by rw [HV.out]; rfl) _ rfl
         refine wpOp_step rfl fun K hK => ?_
         go_simp
         exact hK _ _ ⟨x60, x61, x62, x63, x64, x65, x66, x67, x68, _, _, x71, x72, x73, x74, rfl, h.same 10 _ (.con (.agg #[.string { data := #[109, 101, 116, 97] }, .int .u8 5, .int .i64 0, .string { data := #[] }, .slice an l.length cn, .slice ai l.length ci])) (by rw [HV.out]; rfl) rfl⟩
       · obtain rfl : x61 = .agg #[.string { data := #[95, 116, 121, 112, 101] }, .int .u8 3, .int .i64 0, .string { data := #[115, 110, 97, 112, 115, 104, 111, 116] }, .slice none 0 0, .slice none 0 0] := h.get 1 (hw _ rfl ⟨1, .data⟩ (by simp) rfl) (.con (.agg #[.string { data := #[95, 116, 121, 112, 101] }, .int .u8 3, .int .i64 0, .string { data := #[115, 110, 97, 112, 115, 104, 111, 116] }, .slice none 0 0, .slice none 0 0])) (by rw [HV.out]; rfl) _ rfl
         obtain rfl : x65 = .agg #[.string { data := #[118, 101, 114, 115, 105, 111, 110] }, .int .u8 2, .int .i64 v, .string { data := #[] }, .slice none 0 0, .slice none 0 0] := h.get 5 (hw _ rfl ⟨5, .data⟩ (by simp) rfl) (.con (.agg #[.string { data := #[118, 101, 114, 115, 105, 111, 110] }, .int .u8 2, .int .i64 v, .string { data := #[] }, .slice none 0 0, .slice none 0 0])) (by rw [HV.out]; rfl) _ rfl
         obtain rfl : x68 = .agg #[.string { data := #[101, 120, 112, 105, 114, 101, 115] }, .int .u8 3, .int .i64 0, .string ds, .slice none 0 0, .slice none 0 0] := h.get 8 (hw _ rfl ⟨8, .data⟩ (by simp) rfl) (.con (.agg #[.string { data := #[101, 120, 112, 105, 114, 101, 115] }, .int .u8 3, .int .i64 0, .string ds, .slice none 0 0, .slice none 0 0])) (by rw [HV.out]; rfl) _ rfl
         obtain rfl : x70 = .agg #[.string { data := #[109, 101, 116, 97] }, .int .u8 5, .int .i64 0, .string { data := #[] }, .slice an l.length cn, .slice ai l.length ci] := h.get 10 (hw _ rfl ⟨10, .data⟩ (by simp) rfl) (.con (.agg #[.string { data := #[109, 101, 116, 97] }, .int .u8 5, .int .i64 0, .string { data := #[] }, .slice an l.length cn, .slice ai l.length ci])) (by rw [HV.out]; rfl) _ rfl
         refine wpOp_step rfl fun K hK => ?_
         go_simp
         exact hK _ _ ⟨x60, _, x62, x63, x64, _, x66, x67, _, x69, _, _, x72, x73, x74, rfl, h.new _ 11 _ (.row W6.heap.size 4 74 #[.string { data := #[95, 116, 121, 112, 101] }, .int .u8 3, .int .i64 0, .string { data := #[115, 110, 97, 112, 115, 104, 111, 116] }, .slice none 0 0, .slice none 0 0, .string { data := #[118, 101, 114, 115, 105, 111, 110] }, .int .u8 2, .int .i64 v, .string { data := #[] }, .slice none 0 0, .slice none 0 0, .string { data := #[101, 120, 112, 105, 114, 101, 115] }, .int .u8 3, .int .i64 0, .string ds, .slice none 0 0, .slice none 0 0, .string { data := #[109, 101, 116, 97] }, .int .u8 5, .int .i64 0, .string { data := #[] }, .slice an l.length cn, .slice ai l.length ci]) (by rw [HV.out]; rfl) (IsRow.made _ h.1.size)⟩
       · obtain ⟨b71, k71, rfl, m71⟩ := h.get 11 (hw _ rfl ⟨11, .data⟩ (by simp) rfl) (.row W6.heap.size 4 74 #[.string { data := #[95, 116, 121, 112, 101] }, .int .u8 3, .int .i64 0, .string { data := #[115, 110, 97, 112, 115, 104, 111, 116] }, .slice none 0 0, .slice none 0 0, .string { data := #[118, 101, 114, 115, 105, 111, 110] }, .int .u8 2, .int .i64 v, .string { data := #[] }, .slice none 0 0, .slice none 0 0, .string { data := #[101, 120, 112, 105, 114, 101, 115] }, .int .u8 3, .int .i64 0, .string ds, .slice none 0 0, .slice none 0 0, .string { data := #[109, 101, 116, 97] }, .int .u8 5, .int .i64 0, .string { data := #[] }, .slice an l.length cn, .slice ai l.length ci]) (by rw [HV.out]; rfl) _ rfl
         obtain ⟨q0, y0, y1, y2, y3, y4⟩ := HC6.out w' h.1
         refine wpOp_step rfl fun K hK => ?_
         go_simp
         refine (HOBJ.out w' b71 h.1 m71).mono ?_
         rintro e w2 ⟨y, rfl, hy, hb2⟩
         exact hK _ _ ⟨x60, x61, x62, x63, x64, x65, x66, x67, x68, x69, x70, _, _, x73, x74, rfl, h.did hb2 12 _ (.tup4 wr.heap.size (snapO snpN ds (metaJ l) v)) (by rw [HV.out]; rfl) hy⟩
       · have hs72 := h.get 12 (hw _ rfl ⟨12, .data⟩ (by simp) rfl) (.tup4 wr.heap.size (snapO snpN ds (metaJ l) v)) (by rw [HV.out]; rfl) _ rfl
         obtain ⟨an7, cn7, ai7, ci7, rfl, hr7⟩ := hs72
         refine wpOp_step rfl fun K hK => ?_
         go_simp
         exact hK _ _ ⟨x60, x61, x62, x63, x64, x65, x66, x67, x68, x69, x70, x71, _, _, x74, rfl, h.same 13 _ (.obj4 wr.heap.size (snapO snpN ds (metaJ l) v)) (by rw [HV.out]; rfl) ⟨_, _, _, _, rfl, hr7⟩⟩
       · have hs72 := h.get 12 (hw _ rfl ⟨12, .data⟩ (by simp) rfl) (.tup4 wr.heap.size (snapO snpN ds (metaJ l) v)) (by rw [HV.out]; rfl) _ rfl
         obtain ⟨an7, cn7, ai7, ci7, rfl, hr7⟩ := hs72
         refine wpOp_step rfl fun K hK => ?_
         go_simp
         exact hK _ _ ⟨x60, x61, x62, x63, x64, x65, x66, x67, x68, x69, x70, x71, _, x73, _, rfl, h.same 14 _ (.con (.int .i64 0)) (by rw [HV.out]; rfl) rfl⟩
       · omega
     case last =>
       rintro d a' w' hall ⟨x60, x61, x62, x63, x64, x65, x66, x67, x68, x69, x70, x71, x72, x73, x74, rfl, h⟩
       have hle := h.1
       have hs73 := h.get 13 (hall _ (by omega)) (.obj4 wr.heap.size (snapO snpN ds (metaJ l) v)) (by rw [HV.out]; rfl) _ rfl
       obtain rfl : x74 = .int .i64 0 := h.get 14 (hall _ (by omega)) (.con (.int .i64 0)) (by rw [HV.out]; rfl) _ rfl
       have HLE := Lib.hid hle
       clear h hall hle HV
       have hb67 := HLE.out
       have hb2z : Below W2.heap.size W2 w' := HB6.out.trans (hb67.mono HB6.out.size)
       obtain ⟨an7, cn7, ai7, ci7, rfl, hr7⟩ := hs73
       have hres := below_row hb2z HR0.out (by have := HZ2.out; omega)
       have HRS := Lib.hid hres
       have HR7 := Lib.hid hr7
       have HB7 := Lib.hid (HB2.out.trans (hb2z.mono (by have := HZ2.out; omega)))
       have HZ7 := Lib.hid (show w.heap.size + 1 < wr.heap.size by have := HB.out.size; have := HZ2.out; omega)
       have t0 := hres.cell (i := 0) (by decide); have t1 := hres.cell (i := 1) (by decide); have t2 := hres.cell (i := 2) (by decide); have t3 := hres.cell (i := 3) (by decide); have t4 := hres.cell (i := 4) (by decide)
       have s0 := hres.frozen 0; have s1 := hres.frozen 1; have s2 := hres.frozen 2; have s3 := hres.frozen 3; have s4 := hres.frozen 4
       simp only [pick5] at t0 t1 t2 t3 t4
       clear hres hr7 hb2z hb67 HOBJ
       go_wp2
       refine bodyPost_ret (results_row_tmp Tryz.results15 _ _ (w.heap.size + 1) 30 _ (0, 0) _ rfl (row5_heap (set5 _ _ _ _ _ HRS.out)) Tryz.underlying30 rfl (by kernel_rfl) _ rfl) rfl ?_
       unfold SnapValPost
       refine ⟨an7, cn7, ai7, ci7, rfl, ?_, below5 _ _ _ _ _ HB7.out (by omega)⟩
       have e9 : snapJ ⟨v, e, l⟩ = snapO snpN ds (metaJ l) v := by rw [HDS.out]; rfl
       rw [e9]
       exact Rep.carry (by have := HZ7.out; omega) (show w'.heap.size ≤ _ by simp [World.setCell]) (fun j hj _ => heap5 _ _ _ _ _ (by have := HZ7.out; omega)) _ _ HR7.out
end Go.Proofs.YtgghgcilpfdbjaaGreatDoor
