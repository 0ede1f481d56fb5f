/- The example of legatelaw23: closed facts. -/
import Derived.Test.YtgghgcilpfdbjaaGreatDoorSy22
import Derived.Test.YtgghgcilpfdbjaaGreatDoorSy21
import Derived.Test.YtgghgcilpfdbjaaGreatDoorSy17

namespace Go.Proofs.YtgghgcilpfdbjaaGreatDoor
open Go.RowKit Go.Lib
def stG (v : JV) : List PinV × PS := metaG (stM v).1.names (stM v).1.items (stM v).2 []
def snapOfK (v : JV) : SnapV × Int := if pickDone v (stG v).2 ≠ 0 then (snapZ, pickDone v (stG v).2) else (⟨(stB v).1, (stR v).1, (stG v).1⟩, 0)
def SnapOfGPost (C : JV → Prop) (w : World) (e : Ending) (w' : World) : Prop :=
 ∃ u qs a c, C u ∧ e = .returned (.tuple #[.agg #[.int .i64 (snapOfK u).1.ver, .int .i64 (snapOfK u).1.exp, .slice a (snapOfK u).1.pins.length c], .int .i64 (snapOfK u).2]) ∧ PinsOwn w.heap.size w' (.slice a (snapOfK u).1.pins.length c) qs ∧ qs.map (·.1) = (snapOfK u).1.pins ∧ Below w.heap.size w w'
theorem obj_few {v : JV} {y : ByteArray} {most : Nat} {st : PS} : (pickObj v y most st).1.items.length ≤ most := by
 unfold pickObj
 split
 · exact Nat.zero_le _
 · split
   · exact Nat.zero_le _
   · split
     · exact Nat.zero_le _
     · split
       · exact Nat.zero_le _
       · rename_i h; exact Nat.le_of_not_lt h
theorem stM_ok {u : JV} (h : u.wt ≤ 4294967296) (hn : (stM u).1.names.length = (stM u).1.items.length) : (stM u).1.names.length = (stM u).1.items.length ∧ (stM u).1.wt ≤ 4294967296 ∧ (stM u).1.items.length ≤ 256 ∧ ∀ k (h : k < (stM u).1.names.length), (stM u).1.names[k].size ≤ 4294967296 :=
 ⟨hn, pickObj_wt h, obj_few, names_wt (pickObj_wt h)⟩
set_option maxHeartbeats 4000000 in
set_option maxRecDepth 100000 in
theorem snapOfG (C : JV → Prop) (v : JV) (x : Value) (w : World) (hN : v.wt ≤ 4294967296) (hR : Rep w 0 w.heap.size v x) (hm : v.mayB = true) (hk : v.kind = 5) (hT : TabW w) (hM : ∀ u, C u → (stM u).1.names.length = (stM u).1.items.length) (hOf : ∀ w1, Below w.heap.size w w1 → Calls Tryz.prog 61 #[x] w1 (OfCPost C w1)) :
   Calls Tryz.prog 34 #[x] w (SnapOfGPost C w) := by
 obtain ⟨an, cn, ai, ci, hx, h1, h2, h3, h4⟩ := hR.parts
 clear h1 h2 h3 h4
 subst hx
 have HOF := Lib.hid hOf
 have HMM := Lib.hid hM
 obtain ⟨W2, hW2⟩ : ∃ W2, W2 = (w.alloc (.cells #[.int .u8 v.kind, .int .i64 v.n, .string v.t, .slice an v.names.length cn, .slice ai v.items.length ci] 30)).alloc (.cells #[.int .i64 0, .int .i64 0, .slice none 0 0] 24) := ⟨_, rfl⟩
 have hz1 : (w.alloc (.cells #[.int .u8 v.kind, .int .i64 v.n, .string v.t, .slice an v.names.length cn, .slice ai v.items.length ci] 30)).heap.size = w.heap.size + 1 := by simp
 have hz2 : W2.heap.size = w.heap.size + 2 := by rw [hW2]; simp
 have hb2 : Below w.heap.size w W2 := by rw [hW2]; exact ((Below.refl _ _).alloc (Nat.le_refl _) _).alloc (by simp) _
 have hx0 : W2.heap[w.heap.size]? = some (.cells #[.int .u8 v.kind, .int .i64 v.n, .string v.t, .slice an v.names.length cn, .slice ai v.items.length ci] 30 (0, 0)) := by rw [hW2, Below.heap_alloc _ _ _ (by simp)]; exact heap_alloc_new w _
 have hr0 : W2.rowIs (w.heap.size + 1) 24 3 (pick3 (.int .i64 0) (.int .i64 0) (.slice none 0 0)) := by
   have := rowIs_box3 (w.alloc (.cells #[.int .u8 v.kind, .int .i64 v.n, .string v.t, .slice an v.names.length cn, .slice ai v.items.length ci] 30)) (.int .i64 0) (.int .i64 0) (.slice none 0 0) 24
   rw [hz1, ← hW2] at this
   exact this
 have HMY := Lib.hid (valueMay v _ W2 hN (hR.below hb2 (Nat.le_refl _) (Nat.zero_le _) hb2.size))
 rw [hm] at HMY
 have HW := Lib.hid hW2
 have HB2 := Lib.hid hb2
 have HX0 := Lib.hid hx0
 have HR0 := Lib.hid hr0
 have HZ2 := Lib.hid hz2
 have HK := Lib.hid hk
 have HTW := Lib.hid hT
 clear hR hW2 hb2 hx0 hr0 hz1 hz2 hk hT hM hm hOf
 have c0 : W2.cell? ⟨w.heap.size, 0, none⟩ = some (.int .u8 v.kind) := box_cell HX0.out rfl
 have c1 : W2.cell? ⟨w.heap.size, 1, none⟩ = some (.int .i64 v.n) := box_cell HX0.out rfl
 have c2 : W2.cell? ⟨w.heap.size, 2, none⟩ = some (.string v.t) := box_cell HX0.out rfl
 have c3 : W2.cell? ⟨w.heap.size, 3, none⟩ = some (.slice an v.names.length cn) := box_cell HX0.out rfl
 have c4 : W2.cell? ⟨w.heap.size, 4, none⟩ = some (.slice ai v.items.length ci) := box_cell HX0.out rfl
 go_enter Tryz.func34, Tryz.ntmps34
 go_upto_region 1 with fail
 rw [← HW.out]
 go_wp2_with fail
 refine HMY.out.mono ?_
 clear HMY c0 c1 c2 c3 c4
 rintro e w1 ⟨rfl, hb1⟩
 have hx1 := (hb1.block _ (heap_lt HX0.out)).trans HX0.out
 have HB1 := Lib.hid (HB2.out.trans (hb1.mono HB2.out.size))
 have HR1 := Lib.hid (below_row hb1 HR0.out HR0.out.lt)
 have HZ1 := Lib.hid (show w.heap.size + 2 ≤ w1.heap.size from by have := hb1.size; have := HZ2.out; omega)
 have c0 : w1.cell? ⟨w.heap.size, 0, none⟩ = some (.int .u8 v.kind) := box_cell hx1 rfl
 have c1 : w1.cell? ⟨w.heap.size, 1, none⟩ = some (.int .i64 v.n) := box_cell hx1 rfl
 have c2 : w1.cell? ⟨w.heap.size, 2, none⟩ = some (.string v.t) := box_cell hx1 rfl
 have c3 : w1.cell? ⟨w.heap.size, 3, none⟩ = some (.slice an v.names.length cn) := box_cell hx1 rfl
 have c4 : w1.cell? ⟨w.heap.size, 4, none⟩ = some (.slice ai v.items.length ci) := box_cell hx1 rfl
 have HOF1 := Lib.hid (HOF.out w1 HB1.out)
 clear hb1 hx1
 go_wp2_with fail
 refine HOF1.out.mono ?_
 clear HOF HOF1 c0 c1 c2 c3 c4
 rintro e w2 ⟨u, hC, o, m, lo2, hi2, an2, ai2, cn2, ci2, rfl, hp2, ho2, hm2, hb2⟩
 have HCU := Lib.hid hC
 have HH := Lib.hid (stM_ok hp2.wt (HMM.out u hC))
 have HTS := Lib.hid (names_wt hp2.wt)
 have HEQ := Lib.hid (show ∀ r, snapOfK u = r → r = snapOfK u from fun _ h => h.symm)
 have HLN := Lib.hid (show (tyS u ⟨[], 0⟩).asked.length ≤ 1 ∧ (stB u).2.asked.length ≤ 2 ∧ (stC u).2.asked.length ≤ 3 from by
   have a1 : (tyS u ⟨[], 0⟩).asked.length ≤ 1 := by
     have := text_len (v := u) (y := typN) (st := ⟨[], 0⟩)
     simp only [List.length_nil] at this
     unfold tyS; split
     · rw [fail_len]; omega
     · omega
   have a2 := num_size (v := u) (y := verN) (l := 1) (h := 1099511627776) (st := tyS u ⟨[], 0⟩)
   have a3 := text_len (v := u) (y := expN) (st := (stB u).2)
   unfold stB at a3 ⊢
   unfold stC stB
   omega)
 clear hC
 obtain ⟨p, hp⟩ : ∃ p, p = w2.heap.size := ⟨_, rfl⟩
 obtain ⟨W3, hW3⟩ : ∃ W3, W3 = w2.alloc (.cells #[.int .i64 0, .int .i64 0, .slice none 0 0] 24) := ⟨_, rfl⟩
 have hb3 : Below w2.heap.size w2 W3 := by rw [hW3]; exact (Below.refl _ _).alloc (Nat.le_refl _) _
 have hq3 : W3.rowIs p 24 3 (pick3 (.int .i64 0) (.int .i64 0) (.slice none 0 0)) := by rw [hW3, hp]; exact rowIs_box3 _ _ _ _ _
 have hoz : o < w2.heap.size := heap_lt hp2.obj
 have hmz : m < w2.heap.size := by obtain ⟨D, n, h, _⟩ := hp2.map; exact h.lt
 have HNE := Lib.hid (show p ≠ o ∧ p ≠ m ∧ hi2 ≤ p ∧ p < W3.heap.size ∧ w1.heap.size ≤ o ∧ w1.heap.size ≤ m ∧ w1.heap.size ≤ p ∧ o < W3.heap.size ∧ m < W3.heap.size from ⟨by omega, by omega, by rw [hp]; exact hp2.le, hq3.lt, ho2, hm2, by have := hb2.size; omega, Nat.lt_of_lt_of_le hoz hb3.size, Nat.lt_of_lt_of_le hmz hb3.size⟩)
 have HP3 := Lib.hid (hp2.below hb3)
 have HR3 := Lib.hid (below_row (hb2.trans (hb3.mono hb2.size)) HR1.out HR1.out.lt)
 have HB3 := Lib.hid (HB1.out.trans ((hb2.trans (hb3.mono hb2.size)).mono (by have := HZ1.out; omega)))
 have HQ3 := Lib.hid hq3
 have HW3 := Lib.hid hW3
 have HPE := Lib.hid hp
 clear hp2 ho2 hm2 hb2 hW3 hb3 hq3 hoz hmz hp
 go_upto_region 5 with fail
 rw [← HW3.out, ← HPE.out]
 go_wp2_with fail
 refine (snapParts W3).mono ?_
 rintro e w4 ⟨bp, rfl, hbp, hbz, hb4⟩
 have HP4 := Lib.hid (HP3.out.below hb4)
 have HR4 := Lib.hid (below_row hb4 HR3.out HR3.out.lt)
 have HQ4 := Lib.hid (below_row hb4 HQ3.out HQ3.out.lt)
 have HBW4 := Lib.hid (HB3.out.trans (hb4.mono HB3.out.size))
 have HBP := Lib.hid hbp
 have HZ := Lib.hid (show w.heap.size + 2 ≤ o ∧ w.heap.size + 2 ≤ m ∧ w.heap.size + 2 ≤ p ∧ o < bp ∧ m < bp ∧ p < bp ∧ bp < w4.heap.size ∧ w.heap.size ≤ w4.heap.size from by have := HNE.out; have := HZ1.out; have := heap_lt hbp; omega)
 clear hbp hbz hb4 HP3 HR3 HQ3 HB3
 go_wp2
 go_loopw [7, 17] (fun _ i wr => Touch (fun b => b = o ∨ b = m ∨ b = p) w4 wr ∧ ((i = .int .i64 0 ∧ PickAt o m lo2 hi2 u an2 ai2 cn2 ci2 ⟨[], 0⟩ wr ∧ wr.rowIs p 24 3 (pick3 (.int .i64 0) (.int .i64 0) (.slice none 0 0))) ∨ (i = .int .i64 1 ∧ PickAt o m lo2 hi2 u an2 ai2 cn2 ci2 (tyS u ⟨[], 0⟩) wr ∧ wr.rowIs p 24 3 (pick3 (.int .i64 0) (.int .i64 0) (.slice none 0 0))) ∨ (i = .int .i64 2 ∧ PickAt o m lo2 hi2 u an2 ai2 cn2 ci2 (stB u).2 wr ∧ wr.rowIs p 24 3 (pick3 (.int .i64 (stB u).1) (.int .i64 0) (.slice none 0 0))) ∨ (i = .int .i64 3 ∧ PickAt o m lo2 hi2 u an2 ai2 cn2 ci2 ((stC u).2.fail (stR u).2) wr ∧ wr.rowIs p 24 3 (pick3 (.int .i64 (stB u).1) (.int .i64 (stR u).1) (.slice none 0 0))) ∨ (i = .int .i64 4 ∧ PickAt o m lo2 hi2 u an2 ai2 cn2 ci2 (stG u).2 wr ∧ ∃ vs, wr.rowIs p 24 3 (pick3 (.int .i64 (stB u).1) (.int .i64 (stR u).1) vs) ∧ ∃ qs, PinsOwn w4.heap.size wr vs qs ∧ qs.map (·.1) = (stG u).1))) (fun _ i _ => 4 - (intOf i).toNat)
 case atStart => exact ⟨Touch.refl _ _, .inl ⟨rfl, HP4.out, HQ4.out⟩⟩
 case round =>
   obtain ⟨ht, hcase⟩ := hrel
   have HTr := Lib.hid ht
   have HBr := Lib.hid ((ht.block bp (by have := HZ.out; omega) (fun h => by have := HZ.out; omega)).trans HBP.out)
   clear ht
   rcases hcase with ⟨rfl, hp, hrw⟩ | ⟨rfl, hp, hrw⟩ | ⟨rfl, hp, hrw⟩ | ⟨rfl, hp, hrw⟩ | ⟨rfl, hp, vs, hrw, qs, hown, hqs⟩
   · have HPr := Lib.hid hp
     have HRr := Lib.hid hrw
     obtain ⟨W7, hW7⟩ : ∃ W7, W7 = wr.alloc (.cells #[.func (.func 113) #[] #[]] 105) := ⟨_, rfl⟩
     have hb7 : Below wr.heap.size wr W7 := by rw [hW7]; exact (Below.refl _ _).alloc (Nat.le_refl _) _
     have hx7 : W7.heap[wr.heap.size]? = some (.cells #[.func (.func 113) #[] #[]] 105 (0, 0)) := by rw [hW7]; exact heap_alloc_new wr _
     have HP7 := Lib.hid (hp.below hb7)
     have HR7 := Lib.hid (below_row hb7 hrw hrw.lt)
     have HB7 := Lib.hid hb7
     have y0 : W7.cell? ⟨wr.heap.size, 0, none⟩ = some (.func (.func 113) #[] #[]) := box_cell hx7 rfl
     have HW7 := Lib.hid hW7
     have z0 : wr.cell? ⟨bp, 0, none⟩ = some (.func (.func 113) #[] #[]) := box_cell HBr.out rfl
     have HC := Lib.hid (snapParseType o m lo2 hi2 p u an2 ai2 cn2 ci2 ⟨[], 0⟩ W7 HP7.out (by simp))
     clear hb7 hx7 hW7 hp hrw
     go_upto_region 8 with fail
     rw [← HW7.out]
     clear z0
     go_wp2_with fail
     refine HC.out.mono ?_
     clear HC y0
     rintro r w8 ⟨rfl, h8, ht8⟩
     have HT8 := Lib.hid (show Touch (fun b => b = o ∨ b = m ∨ b = p) w4 w8 from HTr.out.trans ((Touch.of_below HB7.out (Nat.le_refl _)).trans (ht8.mono (fun k _ h => h.elim .inl (fun h => .inr (.inl h))))))
     have H8 := Lib.hid h8
     have HR8 := Lib.hid (ht8.row HR7.out (by have := HNE.out; omega))
     clear h8 ht8
     go_wp2
     go_roundw
     case rel => exact ⟨HT8.out, .inr (.inl ⟨rfl, H8.out, HR8.out⟩)⟩
     case measure => simp [intOf]
   · have HPr := Lib.hid hp
     have HRr := Lib.hid hrw
     obtain ⟨W7, hW7⟩ : ∃ W7, W7 = wr.alloc (.cells #[.func (.func 114) #[] #[]] 105) := ⟨_, rfl⟩
     have hb7 : Below wr.heap.size wr W7 := by rw [hW7]; exact (Below.refl _ _).alloc (Nat.le_refl _) _
     have hx7 : W7.heap[wr.heap.size]? = some (.cells #[.func (.func 114) #[] #[]] 105 (0, 0)) := by rw [hW7]; exact heap_alloc_new wr _
     have HP7 := Lib.hid (hp.below hb7)
     have HR7 := Lib.hid (below_row hb7 hrw hrw.lt)
     have HB7 := Lib.hid hb7
     have y0 : W7.cell? ⟨wr.heap.size, 0, none⟩ = some (.func (.func 114) #[] #[]) := box_cell hx7 rfl
     have HW7 := Lib.hid hW7
     have z0 : wr.cell? ⟨bp, 1, none⟩ = some (.func (.func 114) #[] #[]) := box_cell HBr.out rfl
     have HC := Lib.hid (snapParseVersion o m lo2 hi2 p u an2 ai2 cn2 ci2 (tyS u ⟨[], 0⟩) _ _ _ W7 HP7.out (by have := HLN.out.1; omega) HR7.out HNE.out.1 HNE.out.2.1 HNE.out.2.2.1)
     clear hb7 hx7 hW7 hp hrw
     go_upto_region 8 with fail
     rw [← HW7.out]
     clear z0
     go_wp2_with fail
     refine HC.out.mono ?_
     clear HC y0
     rintro r w8 ⟨rfl, h8, hr8, ht8⟩
     have HT8 := Lib.hid (show Touch (fun b => b = o ∨ b = m ∨ b = p) w4 w8 from HTr.out.trans ((Touch.of_below HB7.out (Nat.le_refl _)).trans (ht8)))
     have H8 := Lib.hid h8
     have HR8 := Lib.hid (hr8)
     clear h8 ht8 hr8
     go_wp2
     go_roundw
     case rel => exact ⟨HT8.out, .inr (.inr (.inl ⟨rfl, H8.out, HR8.out⟩))⟩
     case measure => simp [intOf]
   · have HPr := Lib.hid hp
     have HRr := Lib.hid hrw
     obtain ⟨W7, hW7⟩ : ∃ W7, W7 = wr.alloc (.cells #[.func (.func 115) #[] #[]] 105) := ⟨_, rfl⟩
     have hb7 : Below wr.heap.size wr W7 := by rw [hW7]; exact (Below.refl _ _).alloc (Nat.le_refl _) _
     have hx7 : W7.heap[wr.heap.size]? = some (.cells #[.func (.func 115) #[] #[]] 105 (0, 0)) := by rw [hW7]; exact heap_alloc_new wr _
     have HP7 := Lib.hid (hp.below hb7)
     have HR7 := Lib.hid (below_row hb7 hrw hrw.lt)
     have HB7 := Lib.hid hb7
     have y0 : W7.cell? ⟨wr.heap.size, 0, none⟩ = some (.func (.func 115) #[] #[]) := box_cell hx7 rfl
     have HW7 := Lib.hid hW7
     have z0 : wr.cell? ⟨bp, 2, none⟩ = some (.func (.func 115) #[] #[]) := box_cell HBr.out rfl
     have HC := Lib.hid (snapParseExpires o m lo2 hi2 p u an2 ai2 cn2 ci2 (stB u).2 _ _ _ W7 HP7.out (by have := HLN.out.2.1; omega) HR7.out HNE.out.1 HNE.out.2.1 HNE.out.2.2.1 (HTW.out.below (HBW4.out.trans (HTr.out.below (by have := HZ.out; omega) (fun k hk e => by have := HZ.out; omega) |>.trans (HB7.out.mono (by have := HZ.out; have := HTr.out.size; omega))))) (by have := HZ.out; have := HTW.out.lt; omega) (by have := HZ.out; have := HTW.out.lt; omega))
     clear hb7 hx7 hW7 hp hrw
     go_upto_region 8 with fail
     rw [← HW7.out]
     clear z0
     go_wp2_with fail
     refine HC.out.mono ?_
     clear HC y0
     rintro r w8 ⟨rfl, h8, hr8, ht8⟩
     have HT8 := Lib.hid (show Touch (fun b => b = o ∨ b = m ∨ b = p) w4 w8 from HTr.out.trans ((Touch.of_below HB7.out (Nat.le_refl _)).trans (ht8)))
     have H8 := Lib.hid h8
     have HR8 := Lib.hid (hr8)
     clear h8 ht8 hr8
     go_wp2
     go_roundw
     case rel => exact ⟨HT8.out, .inr (.inr (.inr (.inl ⟨rfl, H8.out, HR8.out⟩)))⟩
     case measure => simp [intOf]
   · have HPr := Lib.hid hp
     have HRr := Lib.hid hrw
     obtain ⟨W7, hW7⟩ : ∃ W7, W7 = wr.alloc (.cells #[.func (.func 116) #[] #[]] 105) := ⟨_, rfl⟩
     have hb7 : Below wr.heap.size wr W7 := by rw [hW7]; exact (Below.refl _ _).alloc (Nat.le_refl _) _
     have hx7 : W7.heap[wr.heap.size]? = some (.cells #[.func (.func 116) #[] #[]] 105 (0, 0)) := by rw [hW7]; exact heap_alloc_new wr _
     have HP7 := Lib.hid (hp.below hb7)
     have HR7 := Lib.hid (below_row hb7 hrw hrw.lt)
     have HB7 := Lib.hid hb7
     have y0 : W7.cell? ⟨wr.heap.size, 0, none⟩ = some (.func (.func 116) #[] #[]) := box_cell hx7 rfl
     have HW7 := Lib.hid hW7
     have z0 : wr.cell? ⟨bp, 3, none⟩ = some (.func (.func 116) #[] #[]) := box_cell HBr.out rfl
     have HC := Lib.hid (snapParseMetaG o m lo2 hi2 p u an2 ai2 cn2 ci2 ((stC u).2.fail (stR u).2) _ _ W7 HP7.out (by rw [fail_len]; have := HLN.out.2.2; omega) HR7.out HNE.out.1 HNE.out.2.1 HNE.out.2.2.1 (by have := HTr.out.size; have := HZ.out; have := HB7.out.size; omega) HH.out.1 HH.out.2.1 HH.out.2.2.1 HH.out.2.2.2)
     clear hb7 hx7 hW7 hp hrw
     go_upto_region 8 with fail
     rw [← HW7.out]
     clear z0
     go_wp2_with fail
     refine HC.out.mono ?_
     clear HC y0
     rintro r w8 ⟨vs, qs, rfl, h8, hr8, ho8, hqs, ht8⟩
     have HT8 := Lib.hid (show Touch (fun b => b = o ∨ b = m ∨ b = p) w4 w8 from HTr.out.trans ((Touch.of_below HB7.out (Nat.le_refl _)).trans (ht8)))
     have H8 := Lib.hid h8
     have HR8 := Lib.hid (hr8)
     have HO8 := Lib.hid (show PinsOwn w4.heap.size w8 vs qs from ho8.mono (by have := HTr.out.size; have := HB7.out.size; omega))
     have HQS := Lib.hid (show qs.map (·.1) = (stG u).1 from hqs)
     clear hqs
     clear h8 ht8 hr8 ho8
     go_wp2
     go_roundw
     case rel => exact ⟨HT8.out, .inr (.inr (.inr (.inr ⟨rfl, H8.out, vs, HR8.out, qs, HO8.out, HQS.out⟩)))⟩
     case measure => simp [intOf]
   · have HDO := Lib.hid (pickDoneF o m lo2 hi2 u an2 ai2 cn2 ci2 (stG u).2 wr hp HTS.out)
     have HRW := Lib.hid hrw
     have HOW := Lib.hid hown
     have HQ := Lib.hid hqs
     have HRR := Lib.hid (HTr.out.row HR4.out (by have := HZ.out; omega))
     have HBE := Lib.hid (HBW4.out.trans (HTr.out.below (by have := HZ.out; omega) (fun k hk e => by have := HZ.out; omega)))
     obtain ⟨dn, hdn⟩ : ∃ dn, dn = pickDone u (stG u).2 := ⟨_, rfl⟩
     rw [← hdn] at HDO
     have HDN := Lib.hid hdn
     clear hp hrw hown hdn hqs
     go_wp2_with fail
     refine HDO.out.mono ?_
     clear HDO
     rintro e w' ⟨rfl, h'⟩
     subst w'
     by_cases hd : dn = 0
     · have HX := Lib.hid (show snapOfK u = (⟨(stB u).1, (stR u).1, (stG u).1⟩, 0) by unfold snapOfK; rw [← HDN.out, hd]; rfl)
       obtain ⟨sv, cv, rfl⟩ := owns_slice HOW.out.own
       subst hd
       have hr := HRR.out; have hq := HRW.out
       have t0 := hr.cell (i := 0) (by decide); have t1 := hr.cell (i := 1) (by decide); have t2 := hr.cell (i := 2) (by decide)
       have s0 := hr.frozen 0; have s1 := hr.frozen 1; have s2 := hr.frozen 2
       have z0 := hq.cell (i := 0) (by decide); have z1 := hq.cell (i := 1) (by decide); have z2 := hq.cell (i := 2) (by decide)
       simp only [pick3] at t0 t1 t2 z0 z1 z2
       clear hr hq
       go_wp2
       refine bodyPost_ret (results_row_tmp Tryz.results34 _ _ (w.heap.size + 1) 24 _ (0, 0) _ rfl (row3_heap (set3 _ _ _ HRR.out)) Tryz.underlying24 rfl (by kernel_rfl) _ rfl) rfl ?_
       have hl : qs.length = (stG u).1.length := by rw [← HQ.out, List.length_map]
       have hown := PinsOwn.mono (B := w4.heap.size) (B' := w.heap.size) (HOW.out.touch ((((Touch.refl (fun b => b = w.heap.size + 1) wr).setCell (p := ⟨w.heap.size + 1, 0, none⟩) (.inl rfl) (.int .i64 (stB u).1)).setCell (p := ⟨w.heap.size + 1, 1, none⟩) (.inl rfl) (.int .i64 (stR u).1)).setCell (p := ⟨w.heap.size + 1, 2, none⟩) (.inl rfl) (.slice sv qs.length cv)) (fun k hk e => by have := HZ.out; omega)) (by have := HZ.out; omega)
       refine ⟨u, qs, sv, cv, HCU.out, ?_, ?_, ?_, below3 _ _ _ HBE.out (by omega)⟩
       · rw [HX.out, hl]; rfl
       · rw [HX.out]
         show PinsOwn _ _ (.slice sv (stG u).1.length cv) qs
         rw [← hl]
         exact hown
       · rw [HX.out]; exact HQ.out
     · have HX := Lib.hid (show snapOfK u = (snapZ, dn) by unfold snapOfK; rw [← HDN.out]; simp [hd])
       have hd1 : (dn == 0) = false := by simpa using hd
       have hd2 : (dn != 0) = true := by simpa using hd
       clear hd
       have hr := HRR.out
       have t0 := hr.cell (i := 0) (by decide); have t1 := hr.cell (i := 1) (by decide); have t2 := hr.cell (i := 2) (by decide)
       have s0 := hr.frozen 0; have s1 := hr.frozen 1; have s2 := hr.frozen 2
       simp only [pick3] at t0 t1 t2
       clear hr
       go_wp2
       refine bodyPost_ret (results_row_tmp Tryz.results34 _ _ (w.heap.size + 1) 24 _ (0, 0) _ rfl (row3_heap (set3 _ _ _ HRR.out)) Tryz.underlying24 rfl (by kernel_rfl) _ rfl) rfl ?_
       refine ⟨u, [], none, 0, HCU.out, ?_, ?_, ?_, below3 _ _ _ HBE.out (by omega)⟩
       · rw [HX.out]; rfl
       · rw [HX.out]; exact PinsOwn.nil _ _
       · rw [HX.out]; rfl
end Go.Proofs.YtgghgcilpfdbjaaGreatDoor

namespace Go.Proofs.YtgghgcilpfdbjaaGreatDoor
open Go.RowKit Go.WideMaps Go.Maps
set_option maxHeartbeats 1000000 in
set_option maxRecDepth 100000 in
theorem objBad (o : Nat) (err : Int) (y : ByteArray) (most : Int) (w : World) (hb : PickBad o err w) (ho : o < w.heap.size) :
   Calls Tryz.prog 65 #[.pointer (some ⟨o, 0, none⟩), .string y, .int .i64 most] w fun e w' => e = .returned (.agg #[.int .u8 0, .int .i64 0, .string { data := #[] }, .slice none 0 0, .slice none 0 0]) ∧ Below w.heap.size w w' := by
 have HT := Lib.hid (show ∀ (fv : Value) (W2 : World), PickBad o err W2 → o < W2.heap.size → Calls Tryz.prog 107 #[.pointer (some ⟨o, 0, none⟩), .string y, fv] W2 (fun e w' => e = .returned (.agg #[.int .u8 0, .int .i64 0, .string { data := #[] }, .slice none 0 0, .slice none 0 0]) ∧ Below W2.heap.size W2 w') from fun fv W2 hp hz => by
   obtain ⟨W4, hW4⟩ : ∃ W4, W4 = (W2.alloc (.cells #[.int .u8 0, .int .i64 0, .string { data := #[] }, .slice none 0 0, .slice none 0 0] 30)).alloc (.cells #[.int .u8 0, .int .i64 0, .string { data := #[] }, .slice none 0 0, .slice none 0 0] 30) := ⟨_, rfl⟩
   have hb4 : Below W2.heap.size W2 W4 := by rw [hW4]; exact ((Below.refl _ _).alloc (Nat.le_refl _) _).alloc (by simp) _
   have hz1 : (W2.alloc (.cells #[.int .u8 0, .int .i64 0, .string { data := #[] }, .slice none 0 0, .slice none 0 0] 30)).heap.size = W2.heap.size + 1 := by simp
   have hr0 : W4.rowIs W2.heap.size 30 5 (pick5 (.int .u8 0) (.int .i64 0) (.string { data := #[] }) (.slice none 0 0) (.slice none 0 0)) := by
     rw [hW4]
     exact below_row ((Below.refl _ _).alloc (Nat.le_refl _) _) (rowIs_box5 W2 (.int .u8 0) (.int .i64 0) (.string { data := #[] }) (.slice none 0 0) (.slice none 0 0) 30) (by simp)
   have hr1 : W4.rowIs (W2.heap.size + 1) 30 5 (pick5 (.int .u8 0) (.int .i64 0) (.string { data := #[] }) (.slice none 0 0) (.slice none 0 0)) := by
     have := rowIs_box5 (W2.alloc (.cells #[.int .u8 0, .int .i64 0, .string { data := #[] }, .slice none 0 0, .slice none 0 0] 30)) (.int .u8 0) (.int .i64 0) (.string { data := #[] }) (.slice none 0 0) (.slice none 0 0) 30
     rw [hz1, ← hW4] at this
     exact this
   obtain ⟨he, c6, k, c0⟩ := hp.below hb4 hz
   have he' : (err == 0) = false := by simpa using he
   have he2 : (err != 0) = true := by simpa using he
   have HE := Lib.hid he
   have t0 := hr0.cell (i := 0) (by decide); have t1 := hr0.cell (i := 1) (by decide); have t2 := hr0.cell (i := 2) (by decide); have t3 := hr0.cell (i := 3) (by decide); have t4 := hr0.cell (i := 4) (by decide)
   have s0 := hr0.frozen 0; have s1 := hr0.frozen 1; have s2 := hr0.frozen 2; have s3 := hr0.frozen 3; have s4 := hr0.frozen 4
   have u0 := hr1.cell (i := 0) (by decide); have u1 := hr1.cell (i := 1) (by decide); have u2 := hr1.cell (i := 2) (by decide); have u3 := hr1.cell (i := 3) (by decide); have u4 := hr1.cell (i := 4) (by decide)
   simp only [pick5] at t0 t1 t2 t3 t4 u0 u1 u2 u3 u4
   have HR0 := Lib.hid hr0
   have HB4 := Lib.hid hb4
   have HW4 := Lib.hid hW4
   clear he hW4 hb4 hr0 hr1 hz1
   go_enter Tryz.func107, Tryz.ntmps107
   go_upto_region 2 with fail
   rw [← HW4.out]
   go_wp2_with fail
   refine (pickErr o err k W4 c6 c0 (fun h => absurd h HE.out)).mono ?_
   rintro r w' ⟨rfl, h'⟩
   subst h'
   go_wp2
   refine bodyPost_ret (results_cell_row Tryz.results107 _ _ W2.heap.size 30 _ (0, 0) _ rfl (row5_heap (set5 _ _ _ _ _ HR0.out)) Tryz.underlying30 rfl (by kernel_rfl)) rfl ?_
   exact ⟨rfl, below5 _ _ _ _ _ HB4.out (Nat.le_refl _)⟩)
 obtain ⟨W2, hW2⟩ : ∃ W2, W2 = (w.alloc (.cells #[.int .i64 most] 3)).alloc (.cells #[.int .u8 0, .int .i64 0, .string { data := #[] }, .slice none 0 0, .slice none 0 0] 30) := ⟨_, rfl⟩
 have hb2 : Below w.heap.size w W2 := by rw [hW2]; exact ((Below.refl _ _).alloc (Nat.le_refl _) _).alloc (by simp) _
 have hz1 : (w.alloc (.cells #[.int .i64 most] 3)).heap.size = w.heap.size + 1 := by simp
 have hr1 : W2.rowIs (w.heap.size + 1) 30 5 (pick5 (.int .u8 0) (.int .i64 0) (.string { data := #[] }) (.slice none 0 0) (.slice none 0 0)) := by
   have := rowIs_box5 (w.alloc (.cells #[.int .i64 most] 3)) (.int .u8 0) (.int .i64 0) (.string { data := #[] }) (.slice none 0 0) (.slice none 0 0) 30
   rw [hz1, ← hW2] at this
   exact this
 have HT2 := Lib.hid (fun fv => HT.out fv W2 (hb.below hb2 ho) (Nat.lt_of_lt_of_le ho hb2.size))
 have HB2 := Lib.hid hb2
 have HR1 := Lib.hid hr1
 have HW2 := Lib.hid hW2
 clear hW2 hb2 hr1 hz1 hb HT
 go_enter Tryz.func65, Tryz.ntmps65
 go_upto_region 1 with fail
 rw [← HW2.out]
 go_wp2_with fail
 refine (HT2.out _).mono ?_
 clear HT2
 rintro r w3 ⟨rfl, hb3⟩
 have hr3 := below_row hb3 HR1.out HR1.out.lt
 have HR3 := Lib.hid hr3
 have HB3 := Lib.hid (HB2.out.trans (hb3.mono HB2.out.size))
 have t0 := hr3.cell (i := 0) (by decide); have t1 := hr3.cell (i := 1) (by decide); have t2 := hr3.cell (i := 2) (by decide); have t3 := hr3.cell (i := 3) (by decide); have t4 := hr3.cell (i := 4) (by decide)
 have s0 := hr3.frozen 0; have s1 := hr3.frozen 1; have s2 := hr3.frozen 2; have s3 := hr3.frozen 3; have s4 := hr3.frozen 4
 simp only [pick5] at t0 t1 t2 t3 t4
 clear hr3 hb3
 go_wp2
 refine bodyPost_ret (results_cell_row Tryz.results65 _ _ (w.heap.size + 1) 30 _ (0, 0) _ rfl (row5_heap (set5 _ _ _ _ _ HR3.out)) Tryz.underlying30 rfl (by kernel_rfl)) rfl ?_
 exact ⟨rfl, below5 _ _ _ _ _ HB3.out (by omega)⟩
def BadPost (o p : Nat) (w : World) (r : Ending) (w' : World) : Prop :=
 r = .returned (.tuple #[]) ∧ PickBad o 10 w' ∧ w'.rowIs p 24 3 (pick3 (.int .i64 0) (.int .i64 0) (.slice none 0 0)) ∧ Touch (fun b => b = p) w w'
theorem PickBad.touch {o p : Nat} {err : Int} {w w' : World} (h : PickBad o err w) (ht : Touch (fun b => b = p) w w') (ho : o < w.heap.size) (hne : o ≠ p) : PickBad o err w' := by
 obtain ⟨h1, h2, k, h3⟩ := h
 exact ⟨h1, by rw [ht.cell (p := ⟨o, 6, none⟩) ho hne]; exact h2, k, by rw [ht.cell (p := ⟨o, 0, none⟩) ho hne]; exact h3⟩
set_option maxHeartbeats 1000000 in
theorem parseTypeBad (o p : Nat) (w : World) (hP : PickBad o 10 w) (hr : w.rowIs p 24 3 (pick3 (.int .i64 0) (.int .i64 0) (.slice none 0 0))) :
   Calls Tryz.prog 113 #[.pointer (some ⟨o, 0, none⟩), .pointer (some ⟨p, 0, none⟩)] w (BadPost o p w) := by
 have HT := Lib.hid (textBad o 10 typN w hP)
 have HF := Lib.hid (failBad o 10 13 w hP)
 have HP := Lib.hid hP
 have HR := Lib.hid hr
 have hc2 : (({ data := #[] } : ByteArray).toList == [115, 110, 97, 112, 115, 104, 111, 116]) = false := by rw [ByteArray.toList_eq]; rfl
 clear hP hr
 go_enter Tryz.func113, Tryz.ntmps113
 go_wp2_with fail
 refine HT.out.mono ?_
 rintro r w1 ⟨rfl, h'⟩
 subst h'
 go_wp2_with fail
 refine HF.out.mono ?_
 rintro r w1 ⟨rfl, h'⟩
 subst h'
 go_wp2
 go_end0
 exact ⟨rfl, HP.out, HR.out, Touch.refl _ _⟩
set_option maxHeartbeats 1000000 in
theorem parseVersionBad (o p : Nat) (w : World) (hP : PickBad o 10 w) (ho : o < w.heap.size) (hne : o ≠ p) (hr : w.rowIs p 24 3 (pick3 (.int .i64 0) (.int .i64 0) (.slice none 0 0))) :
   Calls Tryz.prog 114 #[.pointer (some ⟨o, 0, none⟩), .pointer (some ⟨p, 0, none⟩)] w (BadPost o p w) := by
 have HN := Lib.hid (numBad o 10 verN 1 1099511627776 w hP ho)
 have HP := Lib.hid hP
 have HR := Lib.hid hr
 have HNE := Lib.hid (And.intro ho hne)
 clear hP hr ho hne
 go_enter Tryz.func114, Tryz.ntmps114
 go_wp2_with fail
 refine HN.out.mono ?_
 clear HN
 rintro r w1 ⟨rfl, hb⟩
 have hr1 := below_row hb HR.out HR.out.lt
 have HR1 := Lib.hid hr1
 have HB := Lib.hid hb
 have u0 := hr1.cell (i := 0) (by decide)
 have f0 := hr1.frozen 0
 simp only [pick3] at u0
 clear hr1 hb
 go_wp2
 go_end0
 refine ⟨rfl, (HP.out.below HB.out HNE.out.1).touch (touch_put _) (Nat.lt_of_lt_of_le HNE.out.1 HB.out.size) HNE.out.2, (HR1.out.set 0 (.int .i64 0)).congr fun j hj => ?_, (Touch.of_below HB.out (Nat.le_refl _)).trans (touch_put _)⟩
 rcases j with _ | _ | _ | j <;> first | rfl | omega
set_option maxHeartbeats 1000000 in
theorem parseExpiresBad (o p : Nat) (w : World) (hP : PickBad o 10 w) (ho : o < w.heap.size) (hne : o ≠ p) (hr : w.rowIs p 24 3 (pick3 (.int .i64 0) (.int .i64 0) (.slice none 0 0))) (hT : TabW w) :
   Calls Tryz.prog 115 #[.pointer (some ⟨o, 0, none⟩), .pointer (some ⟨p, 0, none⟩)] w (BadPost o p w) := by
 have HN := Lib.hid (textBad o 10 expN w hP)
 have HRD := Lib.hid (whenRead { data := #[] } w hT)
 have e1 : readD ({ data := #[] } : ByteArray).data.toList = (0, 3) := by decide
 rw [e1] at HRD
 have HP := Lib.hid hP
 have HR := Lib.hid hr
 have HNE := Lib.hid (And.intro ho hne)
 clear hP hr ho hne hT e1
 go_enter Tryz.func115, Tryz.ntmps115
 go_wp2_with fail
 refine HN.out.mono ?_
 clear HN
 rintro r w1 ⟨rfl, h'⟩
 subst h'
 go_wp2_with fail
 refine HRD.out.mono ?_
 clear HRD
 rintro r w1 ⟨rfl, hb⟩
 have HF := Lib.hid (failBad o 10 3 w1 (HP.out.below hb HNE.out.1))
 have hr1 := below_row hb HR.out HR.out.lt
 have HR1 := Lib.hid hr1
 have HB := Lib.hid hb
 have u1 := hr1.cell (i := 1) (by decide)
 have f1 := hr1.frozen 1
 simp only [pick3] at u1
 clear hr1 hb
 go_wp2_with fail
 refine HF.out.mono ?_
 rintro r w2 ⟨rfl, h'⟩
 subst h'
 go_wp2
 go_end0
 refine ⟨rfl, (HP.out.below HB.out HNE.out.1).touch (touch_put _) (Nat.lt_of_lt_of_le HNE.out.1 HB.out.size) HNE.out.2, (HR1.out.set 1 (.int .i64 0)).congr fun j hj => ?_, (Touch.of_below HB.out (Nat.le_refl _)).trans (touch_put _)⟩
 rcases j with _ | _ | _ | j <;> first | rfl | omega
set_option maxHeartbeats 1000000 in
theorem parseMetaBad (o p : Nat) (w : World) (hP : PickBad o 10 w) (ho : o < w.heap.size) (hr : w.rowIs p 24 3 (pick3 (.int .i64 0) (.int .i64 0) (.slice none 0 0))) :
   Calls Tryz.prog 116 #[.pointer (some ⟨o, 0, none⟩), .pointer (some ⟨p, 0, none⟩)] w (BadPost o p w) := by
 have HN := Lib.hid (objBad o 10 metN 256 w hP ho)
 have HP := Lib.hid hP
 have HR := Lib.hid hr
 have HO := Lib.hid ho
 clear hP hr ho
 go_enter Tryz.func116, Tryz.ntmps116
 go_wp2_with fail
 refine HN.out.mono ?_
 clear HN
 rintro r w1 ⟨rfl, hb⟩
 have HB := Lib.hid hb
 clear hb
 go_wp2
 have hbw : Below w.heap.size w (w1.alloc (.cells #[.int .u8 0, .int .i64 0, .string { data := #[] }, .slice none 0 0, .slice none 0 0] 30)) := HB.out.alloc HB.out.size _
 have HBW := Lib.hid hbw
 clear hbw
 generalize (w1.alloc (.cells #[.int .u8 0, .int .i64 0, .string { data := #[] }, .slice none 0 0, .slice none 0 0] 30)) = W4 at HBW ⊢
 go_loopw [5, 6, 7, 8, 14] (fun _ _ _ _ i wr => i = .int .i64 0 ∧ wr = W4) (fun _ _ _ _ _ _ => 0)
 case atStart => exact ⟨rfl, rfl⟩
 case round =>
   obtain ⟨rfl, rfl⟩ := hrel
   go_wp2
   go_end0
   exact ⟨rfl, HP.out.below HBW.out HO.out, below_row HBW.out HR.out HR.out.lt, Touch.of_below HBW.out (Nat.le_refl _)⟩
end Go.Proofs.YtgghgcilpfdbjaaGreatDoor

namespace Go.Proofs.YtgghgcilpfdbjaaGreatDoor
open Go.RowKit
def exJ : JV := metaJ [pinE]
theorem ex_may0 : (snapO snpN nineN exJ 1).mayB = true := by decide +kernel
theorem ex_may1 : (snapO tgtN nineN exJ 1).mayB = true := by decide +kernel
theorem ex_may2 : (snapO snpN nineN exJ 0).mayB = true := by decide +kernel
theorem ex_may3 : (snapO snpN xN exJ 1).mayB = true := by decide +kernel
theorem ex_wt0 : (snapO snpN nineN exJ 1).wt ≤ 4294967296 := by decide +kernel
theorem ex_wt1 : (snapO tgtN nineN exJ 1).wt ≤ 4294967296 := by decide +kernel
theorem ex_wt2 : (snapO snpN nineN exJ 0).wt ≤ 4294967296 := by decide +kernel
theorem ex_wt3 : (snapO snpN xN exJ 1).wt ≤ 4294967296 := by decide +kernel
theorem ex_meta0 : SnapMeta (snapO snpN nineN exJ 1) := by
 unfold SnapMeta; decide +kernel
theorem ex_meta1 : SnapMeta (snapO tgtN nineN exJ 1) := by
 unfold SnapMeta; decide +kernel
theorem ex_meta2 : SnapMeta (snapO snpN nineN exJ 0) := by
 unfold SnapMeta; decide +kernel
theorem ex_meta3 : SnapMeta (snapO snpN xN exJ 1) := by
 unfold SnapMeta; decide +kernel
theorem ex_pin : pinOf [pinE] ⟨#[97]⟩ = some pinE ∧ pinOf [pinE] ⟨#[98]⟩ = none := by
 constructor
 · rfl
 · rfl
theorem ex_wtP : (pinJ pinE).wt ≤ 4294967296 ∧ exJ.wt ≤ 4294967296 := by decide +kernel
theorem ex_fits : PinFits pinE := by
 refine ⟨⟨by decide, by decide⟩, ⟨by decide, by decide⟩, by decide, by decide, fun k h => ?_⟩
 simp [pinE] at h
end Go.Proofs.YtgghgcilpfdbjaaGreatDoor
