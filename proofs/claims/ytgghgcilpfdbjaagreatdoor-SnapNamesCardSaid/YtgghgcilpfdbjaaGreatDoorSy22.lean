/- The contract of snap.Of, of an object that may be, of which no pin has hashes. Printed by gensnapof.py. -/
import Derived.Test.YtgghgcilpfdbjaaGreatDoorSy20

namespace Go.Proofs.YtgghgcilpfdbjaaGreatDoor
open Go.RowKit Go.Lib
def SnapOfPost (v : JV) (w : World) (e : Ending) (w' : World) : Prop :=
 ∃ a c, e = .returned (.tuple #[.agg #[.int .i64 (snapOfJ v).1.ver, .int .i64 (snapOfJ v).1.exp, .slice a (snapOfJ v).1.pins.length c], .int .i64 (snapOfJ v).2]) ∧ w'.ownsRow w.heap.size 36 4 (.slice a (snapOfJ v).1.pins.length c) (snapOfJ v).1.pins.length ((snapOfJ v).1.pins.flatMap encP) ∧ Below w.heap.size w w'
def SnapMeta (v : JV) : Prop := (stM v).1.names.length = (stM v).1.items.length ∧ (stM v).1.wt ≤ 4294967296 ∧ (∀ k (h : k < (stM v).1.items.length), (stM v).1.items[k].kind = 5 ∧ (stM v).1.items[k].look hasN = none) ∧ (stM v).1.items.length ≤ 256 ∧ ∀ k (h : k < (stM v).1.names.length), (stM v).1.names[k].size ≤ 4294967296
set_option maxHeartbeats 4000000 in
set_option maxRecDepth 100000 in
theorem snapOf (v : JV) (x : Value) (w : World) (lo hi : Nat) (hN : v.wt ≤ 4294967296) (hlo : 0 < lo) (hhi : hi ≤ w.heap.size) (hR : Rep w lo hi v x) (hm : v.mayB = true) (hk : v.kind = 5) (hT : TabW w) (hM : SnapMeta v) :
   Calls Tryz.prog 34 #[x] w (SnapOfPost v w) := by
 obtain ⟨an, cn, ai, ci, hx, h1, h2, h3, h4⟩ := hR.parts
 clear h1 h2 h3 h4
 subst hx
 obtain ⟨hri, hle, htx⟩ := may_obj hm hk
 have HEQ := Lib.hid (snapOf_eq hm hk)
 have HH := Lib.hid hM
 have HTS := Lib.hid (show ∀ i (h : i < v.names.length), v.names[i].size ≤ 4294967296 from fun i hi => by
   have := List.all_eq_true.1 htx _ (List.getElem_mem hi)
   unfold txtOk at this; simp at this; omega)
 have HLN := Lib.hid (show (tyS v ⟨[], 0⟩).asked.length ≤ 1 ∧ (stB v).2.asked.length ≤ 2 ∧ (stC v).2.asked.length ≤ 3 from by
   have a1 : (tyS v ⟨[], 0⟩).asked.length ≤ 1 := by
     have := text_len (v := v) (y := typN) (st := ⟨[], 0⟩)
     simp only [List.length_nil] at this
     unfold tyS; split
     · rw [fail_len]; omega
     · omega
   have a2 := num_size (v := v) (y := verN) (l := 1) (h := 1099511627776) (st := tyS v ⟨[], 0⟩)
   have a3 := text_len (v := v) (y := expN) (st := (stB v).2)
   unfold stB at a3 ⊢
   unfold stC stB
   omega)
 obtain ⟨W2, hW2⟩ : ∃ W2, W2 = (w.alloc (.cells #[.int .u8 v.kind, .int .i64 v.n, .string v.t, .slice an v.names.length cn, .slice ai v.items.length ci] 30)).alloc (.cells #[.int .i64 0, .int .i64 0, .slice none 0 0] 24) := ⟨_, rfl⟩
 have hz1 : (w.alloc (.cells #[.int .u8 v.kind, .int .i64 v.n, .string v.t, .slice an v.names.length cn, .slice ai v.items.length ci] 30)).heap.size = w.heap.size + 1 := by simp
 have hz2 : W2.heap.size = w.heap.size + 2 := by rw [hW2]; simp
 have hb2 : Below w.heap.size w W2 := by rw [hW2]; exact ((Below.refl _ _).alloc (Nat.le_refl _) _).alloc (by simp) _
 have hx0 : W2.heap[w.heap.size]? = some (.cells #[.int .u8 v.kind, .int .i64 v.n, .string v.t, .slice an v.names.length cn, .slice ai v.items.length ci] 30 (0, 0)) := by rw [hW2, Below.heap_alloc _ _ _ (by simp)]; exact heap_alloc_new w _
 have hr0 : W2.rowIs (w.heap.size + 1) 24 3 (pick3 (.int .i64 0) (.int .i64 0) (.slice none 0 0)) := by
   have := rowIs_box3 (w.alloc (.cells #[.int .u8 v.kind, .int .i64 v.n, .string v.t, .slice an v.names.length cn, .slice ai v.items.length ci] 30)) (.int .i64 0) (.int .i64 0) (.slice none 0 0) 24
   rw [hz1, ← hW2] at this
   exact this
 have HMY := Lib.hid (valueMay v _ W2 hN (hR.below hb2 hhi (Nat.zero_le _) (by omega)))
 rw [hm] at HMY
 have HR := Lib.hid hR
 have HLO := Lib.hid (And.intro hlo hhi)
 have HW := Lib.hid hW2
 have HB2 := Lib.hid hb2
 have HX0 := Lib.hid hx0
 have HR0 := Lib.hid hr0
 have HZ2 := Lib.hid hz2
 have HK := Lib.hid hk
 have HRL := Lib.hid (And.intro hri hle)
 have HTW := Lib.hid hT
 clear hR hlo hhi hW2 hb2 hx0 hr0 hz1 hz2 hk hri hle htx hT hM hm
 have c0 : W2.cell? ⟨w.heap.size, 0, none⟩ = some (.int .u8 v.kind) := box_cell HX0.out rfl
 have c1 : W2.cell? ⟨w.heap.size, 1, none⟩ = some (.int .i64 v.n) := box_cell HX0.out rfl
 have c2 : W2.cell? ⟨w.heap.size, 2, none⟩ = some (.string v.t) := box_cell HX0.out rfl
 have c3 : W2.cell? ⟨w.heap.size, 3, none⟩ = some (.slice an v.names.length cn) := box_cell HX0.out rfl
 have c4 : W2.cell? ⟨w.heap.size, 4, none⟩ = some (.slice ai v.items.length ci) := box_cell HX0.out rfl
 go_enter Tryz.func34, Tryz.ntmps34
 go_upto_region 1 with fail
 rw [← HW.out]
 go_wp2_with fail
 refine HMY.out.mono ?_
 clear HMY c0 c1 c2 c3 c4
 rintro e w1 ⟨rfl, hb1⟩
 have hx1 := (hb1.block _ (heap_lt HX0.out)).trans HX0.out
 have HB1 := Lib.hid (HB2.out.trans (hb1.mono HB2.out.size))
 have HR1 := Lib.hid (below_row hb1 HR0.out HR0.out.lt)
 have HZ1 := Lib.hid (show w.heap.size + 2 ≤ w1.heap.size from by have := hb1.size; have := HZ2.out; omega)
 have c0 : w1.cell? ⟨w.heap.size, 0, none⟩ = some (.int .u8 v.kind) := box_cell hx1 rfl
 have c1 : w1.cell? ⟨w.heap.size, 1, none⟩ = some (.int .i64 v.n) := box_cell hx1 rfl
 have c2 : w1.cell? ⟨w.heap.size, 2, none⟩ = some (.string v.t) := box_cell hx1 rfl
 have c3 : w1.cell? ⟨w.heap.size, 3, none⟩ = some (.slice an v.names.length cn) := box_cell hx1 rfl
 have c4 : w1.cell? ⟨w.heap.size, 4, none⟩ = some (.slice ai v.items.length ci) := box_cell hx1 rfl
 have HOF := Lib.hid (pickOf_good v _ w1 lo hi hN (by have := HLO.out; have := HZ1.out; omega) (HR.out.below HB1.out HLO.out.2 (Nat.le_refl _) (Nat.le_refl _)) HK.out HRL.out.1 HRL.out.2 (fun _ _ => .inl HLO.out.1))
 clear hb1 hx1
 go_wp2_with fail
 refine HOF.out.mono ?_
 clear HOF c0 c1 c2 c3 c4
 rintro e w2 ⟨o, m, lo2, hi2, an2, ai2, cn2, ci2, rfl, hp2, ho2, hm2, hb2⟩
 obtain ⟨p, hp⟩ : ∃ p, p = w2.heap.size := ⟨_, rfl⟩
 obtain ⟨W3, hW3⟩ : ∃ W3, W3 = w2.alloc (.cells #[.int .i64 0, .int .i64 0, .slice none 0 0] 24) := ⟨_, rfl⟩
 have hb3 : Below w2.heap.size w2 W3 := by rw [hW3]; exact (Below.refl _ _).alloc (Nat.le_refl _) _
 have hq3 : W3.rowIs p 24 3 (pick3 (.int .i64 0) (.int .i64 0) (.slice none 0 0)) := by rw [hW3, hp]; exact rowIs_box3 _ _ _ _ _
 have hoz : o < w2.heap.size := heap_lt hp2.obj
 have hmz : m < w2.heap.size := by obtain ⟨D, n, h, _⟩ := hp2.map; exact h.lt
 have HNE := Lib.hid (show p ≠ o ∧ p ≠ m ∧ hi2 ≤ p ∧ p < W3.heap.size ∧ w1.heap.size ≤ o ∧ w1.heap.size ≤ m ∧ w1.heap.size ≤ p ∧ o < W3.heap.size ∧ m < W3.heap.size from ⟨by omega, by omega, by rw [hp]; exact hp2.le, hq3.lt, ho2, hm2, by have := hb2.size; omega, Nat.lt_of_lt_of_le hoz hb3.size, Nat.lt_of_lt_of_le hmz hb3.size⟩)
 have HP3 := Lib.hid (hp2.below hb3)
 have HR3 := Lib.hid (below_row (hb2.trans (hb3.mono hb2.size)) HR1.out HR1.out.lt)
 have HB3 := Lib.hid (HB1.out.trans ((hb2.trans (hb3.mono hb2.size)).mono (by have := HZ1.out; omega)))
 have HQ3 := Lib.hid hq3
 have HW3 := Lib.hid hW3
 have HPE := Lib.hid hp
 clear hp2 ho2 hm2 hb2 hW3 hb3 hq3 hoz hmz hp
 go_upto_region 5 with fail
 rw [← HW3.out, ← HPE.out]
 go_wp2_with fail
 refine (snapParts W3).mono ?_
 rintro e w4 ⟨bp, rfl, hbp, hbz, hb4⟩
 have HP4 := Lib.hid (HP3.out.below hb4)
 have HR4 := Lib.hid (below_row hb4 HR3.out HR3.out.lt)
 have HQ4 := Lib.hid (below_row hb4 HQ3.out HQ3.out.lt)
 have HBW4 := Lib.hid (HB3.out.trans (hb4.mono HB3.out.size))
 have HBP := Lib.hid hbp
 have HZ := Lib.hid (show w.heap.size + 2 ≤ o ∧ w.heap.size + 2 ≤ m ∧ w.heap.size + 2 ≤ p ∧ o < bp ∧ m < bp ∧ p < bp ∧ bp < w4.heap.size ∧ w.heap.size ≤ w4.heap.size from by have := HNE.out; have := HZ1.out; have := heap_lt hbp; omega)
 clear hbp hbz hb4 HP3 HR3 HQ3 HB3
 go_wp2
 go_loopw [7, 17] (fun _ i wr => Touch (fun b => b = o ∨ b = m ∨ b = p) w4 wr ∧ ((i = .int .i64 0 ∧ PickAt o m lo2 hi2 v an2 ai2 cn2 ci2 ⟨[], 0⟩ wr ∧ wr.rowIs p 24 3 (pick3 (.int .i64 0) (.int .i64 0) (.slice none 0 0))) ∨ (i = .int .i64 1 ∧ PickAt o m lo2 hi2 v an2 ai2 cn2 ci2 (tyS v ⟨[], 0⟩) wr ∧ wr.rowIs p 24 3 (pick3 (.int .i64 0) (.int .i64 0) (.slice none 0 0))) ∨ (i = .int .i64 2 ∧ PickAt o m lo2 hi2 v an2 ai2 cn2 ci2 (stB v).2 wr ∧ wr.rowIs p 24 3 (pick3 (.int .i64 (stB v).1) (.int .i64 0) (.slice none 0 0))) ∨ (i = .int .i64 3 ∧ PickAt o m lo2 hi2 v an2 ai2 cn2 ci2 ((stC v).2.fail (stR v).2) wr ∧ wr.rowIs p 24 3 (pick3 (.int .i64 (stB v).1) (.int .i64 (stR v).1) (.slice none 0 0))) ∨ (i = .int .i64 4 ∧ PickAt o m lo2 hi2 v an2 ai2 cn2 ci2 (stL v).2 wr ∧ ∃ vs, wr.rowIs p 24 3 (pick3 (.int .i64 (stB v).1) (.int .i64 (stR v).1) vs) ∧ wr.ownsRow w4.heap.size 36 4 vs (stL v).1.length ((stL v).1.flatMap encP)))) (fun _ i _ => 4 - (intOf i).toNat)
 case atStart => exact ⟨Touch.refl _ _, .inl ⟨rfl, HP4.out, HQ4.out⟩⟩
 case round =>
   obtain ⟨ht, hcase⟩ := hrel
   have HTr := Lib.hid ht
   have HBr := Lib.hid ((ht.block bp (by have := HZ.out; omega) (fun h => by have := HZ.out; omega)).trans HBP.out)
   clear ht
   rcases hcase with ⟨rfl, hp, hrw⟩ | ⟨rfl, hp, hrw⟩ | ⟨rfl, hp, hrw⟩ | ⟨rfl, hp, hrw⟩ | ⟨rfl, hp, vs, hrw, hown⟩
   · have HPr := Lib.hid hp
     have HRr := Lib.hid hrw
     obtain ⟨W7, hW7⟩ : ∃ W7, W7 = wr.alloc (.cells #[.func (.func 113) #[] #[]] 105) := ⟨_, rfl⟩
     have hb7 : Below wr.heap.size wr W7 := by rw [hW7]; exact (Below.refl _ _).alloc (Nat.le_refl _) _
     have hx7 : W7.heap[wr.heap.size]? = some (.cells #[.func (.func 113) #[] #[]] 105 (0, 0)) := by rw [hW7]; exact heap_alloc_new wr _
     have HP7 := Lib.hid (hp.below hb7)
     have HR7 := Lib.hid (below_row hb7 hrw hrw.lt)
     have HB7 := Lib.hid hb7
     have y0 : W7.cell? ⟨wr.heap.size, 0, none⟩ = some (.func (.func 113) #[] #[]) := box_cell hx7 rfl
     have HW7 := Lib.hid hW7
     have z0 : wr.cell? ⟨bp, 0, none⟩ = some (.func (.func 113) #[] #[]) := box_cell HBr.out rfl
     have HC := Lib.hid (snapParseType o m lo2 hi2 p v an2 ai2 cn2 ci2 ⟨[], 0⟩ W7 HP7.out (by simp))
     clear hb7 hx7 hW7 hp hrw
     go_upto_region 8 with fail
     rw [← HW7.out]
     clear z0
     go_wp2_with fail
     refine HC.out.mono ?_
     clear HC y0
     rintro r w8 ⟨rfl, h8, ht8⟩
     have HT8 := Lib.hid (show Touch (fun b => b = o ∨ b = m ∨ b = p) w4 w8 from HTr.out.trans ((Touch.of_below HB7.out (Nat.le_refl _)).trans (ht8.mono (fun k _ h => h.elim .inl (fun h => .inr (.inl h))))))
     have H8 := Lib.hid h8
     have HR8 := Lib.hid (ht8.row HR7.out (by have := HNE.out; omega))
     clear h8 ht8
     go_wp2
     go_roundw
     case rel => exact ⟨HT8.out, .inr (.inl ⟨rfl, H8.out, HR8.out⟩)⟩
     case measure => simp [intOf]
   · have HPr := Lib.hid hp
     have HRr := Lib.hid hrw
     obtain ⟨W7, hW7⟩ : ∃ W7, W7 = wr.alloc (.cells #[.func (.func 114) #[] #[]] 105) := ⟨_, rfl⟩
     have hb7 : Below wr.heap.size wr W7 := by rw [hW7]; exact (Below.refl _ _).alloc (Nat.le_refl _) _
     have hx7 : W7.heap[wr.heap.size]? = some (.cells #[.func (.func 114) #[] #[]] 105 (0, 0)) := by rw [hW7]; exact heap_alloc_new wr _
     have HP7 := Lib.hid (hp.below hb7)
     have HR7 := Lib.hid (below_row hb7 hrw hrw.lt)
     have HB7 := Lib.hid hb7
     have y0 : W7.cell? ⟨wr.heap.size, 0, none⟩ = some (.func (.func 114) #[] #[]) := box_cell hx7 rfl
     have HW7 := Lib.hid hW7
     have z0 : wr.cell? ⟨bp, 1, none⟩ = some (.func (.func 114) #[] #[]) := box_cell HBr.out rfl
     have HC := Lib.hid (snapParseVersion o m lo2 hi2 p v an2 ai2 cn2 ci2 (tyS v ⟨[], 0⟩) _ _ _ W7 HP7.out (by have := HLN.out.1; omega) HR7.out HNE.out.1 HNE.out.2.1 HNE.out.2.2.1)
     clear hb7 hx7 hW7 hp hrw
     go_upto_region 8 with fail
     rw [← HW7.out]
     clear z0
     go_wp2_with fail
     refine HC.out.mono ?_
     clear HC y0
     rintro r w8 ⟨rfl, h8, hr8, ht8⟩
     have HT8 := Lib.hid (show Touch (fun b => b = o ∨ b = m ∨ b = p) w4 w8 from HTr.out.trans ((Touch.of_below HB7.out (Nat.le_refl _)).trans (ht8)))
     have H8 := Lib.hid h8
     have HR8 := Lib.hid (hr8)
     clear h8 ht8 hr8
     go_wp2
     go_roundw
     case rel => exact ⟨HT8.out, .inr (.inr (.inl ⟨rfl, H8.out, HR8.out⟩))⟩
     case measure => simp [intOf]
   · have HPr := Lib.hid hp
     have HRr := Lib.hid hrw
     obtain ⟨W7, hW7⟩ : ∃ W7, W7 = wr.alloc (.cells #[.func (.func 115) #[] #[]] 105) := ⟨_, rfl⟩
     have hb7 : Below wr.heap.size wr W7 := by rw [hW7]; exact (Below.refl _ _).alloc (Nat.le_refl _) _
     have hx7 : W7.heap[wr.heap.size]? = some (.cells #[.func (.func 115) #[] #[]] 105 (0, 0)) := by rw [hW7]; exact heap_alloc_new wr _
     have HP7 := Lib.hid (hp.below hb7)
     have HR7 := Lib.hid (below_row hb7 hrw hrw.lt)
     have HB7 := Lib.hid hb7
     have y0 : W7.cell? ⟨wr.heap.size, 0, none⟩ = some (.func (.func 115) #[] #[]) := box_cell hx7 rfl
     have HW7 := Lib.hid hW7
     have z0 : wr.cell? ⟨bp, 2, none⟩ = some (.func (.func 115) #[] #[]) := box_cell HBr.out rfl
     have HC := Lib.hid (snapParseExpires o m lo2 hi2 p v an2 ai2 cn2 ci2 (stB v).2 _ _ _ W7 HP7.out (by have := HLN.out.2.1; omega) HR7.out HNE.out.1 HNE.out.2.1 HNE.out.2.2.1 (HTW.out.below (HBW4.out.trans (HTr.out.below (by have := HZ.out; omega) (fun k hk e => by have := HZ.out; omega) |>.trans (HB7.out.mono (by have := HZ.out; have := HTr.out.size; omega))))) (by have := HZ.out; have := HTW.out.lt; omega) (by have := HZ.out; have := HTW.out.lt; omega))
     clear hb7 hx7 hW7 hp hrw
     go_upto_region 8 with fail
     rw [← HW7.out]
     clear z0
     go_wp2_with fail
     refine HC.out.mono ?_
     clear HC y0
     rintro r w8 ⟨rfl, h8, hr8, ht8⟩
     have HT8 := Lib.hid (show Touch (fun b => b = o ∨ b = m ∨ b = p) w4 w8 from HTr.out.trans ((Touch.of_below HB7.out (Nat.le_refl _)).trans (ht8)))
     have H8 := Lib.hid h8
     have HR8 := Lib.hid (hr8)
     clear h8 ht8 hr8
     go_wp2
     go_roundw
     case rel => exact ⟨HT8.out, .inr (.inr (.inr (.inl ⟨rfl, H8.out, HR8.out⟩)))⟩
     case measure => simp [intOf]
   · have HPr := Lib.hid hp
     have HRr := Lib.hid hrw
     obtain ⟨W7, hW7⟩ : ∃ W7, W7 = wr.alloc (.cells #[.func (.func 116) #[] #[]] 105) := ⟨_, rfl⟩
     have hb7 : Below wr.heap.size wr W7 := by rw [hW7]; exact (Below.refl _ _).alloc (Nat.le_refl _) _
     have hx7 : W7.heap[wr.heap.size]? = some (.cells #[.func (.func 116) #[] #[]] 105 (0, 0)) := by rw [hW7]; exact heap_alloc_new wr _
     have HP7 := Lib.hid (hp.below hb7)
     have HR7 := Lib.hid (below_row hb7 hrw hrw.lt)
     have HB7 := Lib.hid hb7
     have y0 : W7.cell? ⟨wr.heap.size, 0, none⟩ = some (.func (.func 116) #[] #[]) := box_cell hx7 rfl
     have HW7 := Lib.hid hW7
     have z0 : wr.cell? ⟨bp, 3, none⟩ = some (.func (.func 116) #[] #[]) := box_cell HBr.out rfl
     have HC := Lib.hid (snapParseMeta o m lo2 hi2 p v an2 ai2 cn2 ci2 ((stC v).2.fail (stR v).2) _ _ W7 HP7.out (by rw [fail_len]; have := HLN.out.2.2; omega) HR7.out HNE.out.1 HNE.out.2.1 HNE.out.2.2.1 (by have := HTr.out.size; have := HZ.out; have := HB7.out.size; omega) HH.out.1 HH.out.2.1 HH.out.2.2.1 HH.out.2.2.2.1 HH.out.2.2.2.2)
     clear hb7 hx7 hW7 hp hrw
     go_upto_region 8 with fail
     rw [← HW7.out]
     clear z0
     go_wp2_with fail
     refine HC.out.mono ?_
     clear HC y0
     rintro r w8 ⟨vs, rfl, h8, hr8, ho8, ht8⟩
     have HT8 := Lib.hid (show Touch (fun b => b = o ∨ b = m ∨ b = p) w4 w8 from HTr.out.trans ((Touch.of_below HB7.out (Nat.le_refl _)).trans (ht8)))
     have H8 := Lib.hid h8
     have HR8 := Lib.hid (hr8)
     have HO8 := Lib.hid (show w8.ownsRow w4.heap.size 36 4 vs (stL v).1.length ((stL v).1.flatMap encP) from owns_mono ho8 (by have := HTr.out.size; have := HB7.out.size; omega))
     clear h8 ht8 hr8 ho8
     go_wp2
     go_roundw
     case rel => exact ⟨HT8.out, .inr (.inr (.inr (.inr ⟨rfl, H8.out, vs, HR8.out, HO8.out⟩)))⟩
     case measure => simp [intOf]
   · have HDO := Lib.hid (pickDoneF o m lo2 hi2 v an2 ai2 cn2 ci2 (stL v).2 wr hp HTS.out)
     have HRW := Lib.hid hrw
     have HOW := Lib.hid hown
     have HRR := Lib.hid (HTr.out.row HR4.out (by have := HZ.out; omega))
     have HBE := Lib.hid (HBW4.out.trans (HTr.out.below (by have := HZ.out; omega) (fun k hk e => by have := HZ.out; omega)))
     obtain ⟨dn, hdn⟩ : ∃ dn, dn = pickDone v (stL v).2 := ⟨_, rfl⟩
     rw [← hdn] at HDO
     have HDN := Lib.hid hdn
     clear hp hrw hown hdn
     go_wp2_with fail
     refine HDO.out.mono ?_
     clear HDO
     rintro e w' ⟨rfl, h'⟩
     subst w'
     by_cases hd : dn = 0
     · have HX := Lib.hid (show snapOfJ v = (⟨(stB v).1, (stR v).1, (stL v).1⟩, 0) by rw [HEQ.out, ← HDN.out, hd]; rfl)
       obtain ⟨sv, cv, rfl⟩ := owns_slice HOW.out
       subst hd
       have hr := HRR.out; have hq := HRW.out
       have t0 := hr.cell (i := 0) (by decide); have t1 := hr.cell (i := 1) (by decide); have t2 := hr.cell (i := 2) (by decide)
       have s0 := hr.frozen 0; have s1 := hr.frozen 1; have s2 := hr.frozen 2
       have z0 := hq.cell (i := 0) (by decide); have z1 := hq.cell (i := 1) (by decide); have z2 := hq.cell (i := 2) (by decide)
       simp only [pick3] at t0 t1 t2 z0 z1 z2
       clear hr hq
       go_wp2
       refine bodyPost_ret (results_row_tmp Tryz.results34 _ _ (w.heap.size + 1) 24 _ (0, 0) _ rfl (row3_heap (set3 _ _ _ HRR.out)) Tryz.underlying24 rfl (by kernel_rfl) _ rfl) rfl ?_
       unfold SnapOfPost
       rw [HX.out]
       exact ⟨sv, cv, rfl, owns_mono (owns_touch HOW.out ((((Touch.refl (fun b => b = w.heap.size + 1) wr).setCell (.inl rfl) _).setCell (.inl rfl) _).setCell (.inl rfl) _) (fun k hk e => by have := HZ.out; omega)) (by have := HZ.out; omega), below3 _ _ _ HBE.out (by omega)⟩
     · have HX := Lib.hid (show snapOfJ v = (snapZ, dn) by rw [HEQ.out, ← HDN.out]; simp [hd])
       have hd1 : (dn == 0) = false := by simpa using hd
       have hd2 : (dn != 0) = true := by simpa using hd
       clear hd
       have hr := HRR.out
       have t0 := hr.cell (i := 0) (by decide); have t1 := hr.cell (i := 1) (by decide); have t2 := hr.cell (i := 2) (by decide)
       have s0 := hr.frozen 0; have s1 := hr.frozen 1; have s2 := hr.frozen 2
       simp only [pick3] at t0 t1 t2
       clear hr
       go_wp2
       refine bodyPost_ret (results_row_tmp Tryz.results34 _ _ (w.heap.size + 1) 24 _ (0, 0) _ rfl (row3_heap (set3 _ _ _ HRR.out)) Tryz.underlying24 rfl (by kernel_rfl) _ rfl) rfl ?_
       unfold SnapOfPost
       rw [HX.out]
       exact ⟨none, 0, rfl, ⟨by simp [snapZ], .inl ⟨rfl, rfl⟩⟩, below3 _ _ _ HBE.out (by omega)⟩
end Go.Proofs.YtgghgcilpfdbjaaGreatDoor
