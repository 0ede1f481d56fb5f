/- What snap.PinOf tells of a value that came in; what snap.PinValue tells of a pin that may not be. -/
import Derived.Test.YtgghgcilpfdbjaaGreatDoorSy12
import Derived.Test.YtgghgcilpfdbjaaGreatDoorSy28
import Derived.Test.YtgghgcilpfdbjaaGreatDoorSy17
import Derived.Test.YtgghgcilpfdbjaaGreatDoorSy27
import Derived.Test.YtgghgcilpfdbjaaGreatDoorSy02
import Derived.Test.YtgghgcilpfdbjaaGreatDoorSy23
import Derived.Test.YtgghgcilpfdbjaaGreatDoorSy21

namespace Go.Proofs.YtgghgcilpfdbjaaGreatDoor
open Go.RowKit Go.WideMaps Go.Maps
theorem wts_pt : ∀ (l l' : List JV), l'.length = l.length → (∀ j (h : j < l'.length) (h' : j < l.length), l'[j].wt ≤ l[j].wt) → JV.wts l' ≤ JV.wts l
 | [], [], _, _ => Nat.le_refl _
 | x :: r, y :: s, h, hp => by
   have h0 := hp 0 (by simp) (by simp)
   have h1 := wts_pt r s (by simpa using h) (fun j h1 h2 => by have := hp (j + 1) (by simpa using h1) (by simpa using h2); simpa using this)
   simp only [List.getElem_cons_zero] at h0
   rw [JV.wts, JV.wts]; omega
 | [], _ :: _, h, _ => by simp at h
 | _ :: _, [], h, _ => by simp at h
theorem WeakCopy.wt {v v' : JV} (h : WeakCopy v v') : v'.wt ≤ v.wt := by
 have := wts_pt v.items v'.items h.len (fun j h1 h2 => by
   rcases h.items j h1 h2 with e | ⟨e, _⟩
   · rw [e]; exact Nat.le_refl _
   · rw [e]; exact JV.wt_pos _)
 rw [JV.wt_eq, JV.wt_eq, h.t, h.names]; omega
theorem partsB_get (l : List JV) (j : Nat) (h : j < l.length) (hp : JV.partsB l = true) : l[j].partB = true := by
 cases hb : l[j].partB
 · rw [JV.partsB_bad l j h hb] at hp; cases hp
 · rfl
end Go.Proofs.YtgghgcilpfdbjaaGreatDoor

namespace Go.Proofs.YtgghgcilpfdbjaaGreatDoor
open Go.RowKit
theorem nil_bytes {t : ByteArray} (h : t.toList = []) : t = { data := #[] } := by
 rw [ByteArray.toList_eq] at h
 exact bytes_ext (by simpa using h)
theorem part_obj {x : JV} (h : x.partB = true) (hk : x.kind = 5) : (x.n = 0 ∧ x.t = { data := #[] }) ∧ x.names.length = x.items.length ∧ rises x.names = true ∧ ∀ y ∈ x.items, y.partB = true := by
 rw [JV.partB_eq, Bool.and_eq_true] at h
 obtain ⟨h1, h2⟩ := h
 rw [hk] at h1
 unfold properB at h1
 rw [if_neg (by decide), if_neg (by decide), if_neg (by decide), if_neg (by decide), if_pos rfl, Bool.and_eq_true, Bool.and_eq_true, decide_eq_true_eq] at h1
 obtain ⟨⟨⟨a, b, c⟩, d⟩, -⟩ := h1
 refine ⟨⟨a, nil_bytes b⟩, c, d, fun y hy => ?_⟩
 obtain ⟨i, hi, rfl⟩ := List.getElem_of_mem hy
 exact partsB_get _ i hi h2
theorem lookL_mem : ∀ {ns : List ByteArray} {xs : List JV} {y : ByteArray} {x : JV}, lookL ns xs y = some x → y ∈ ns ∧ x ∈ xs
 | n :: ns, z :: xs, y, x, h => by
   rw [lookL] at h
   split at h
   · rename_i e
     injection h with h
     subst h; subst e
     exact ⟨List.mem_cons_self .., List.mem_cons_self ..⟩
   · have := lookL_mem h
     exact ⟨List.mem_cons_of_mem _ this.1, List.mem_cons_of_mem _ this.2⟩
def PartW (v : JV) : Prop := v.kind = 5 ∧ (v.n = 0 ∧ v.t = { data := #[] }) ∧ rises v.names = true ∧ v.names.length = v.items.length ∧ ∀ x ∈ v.items, x.partB = true ∨ x = zeroJ
theorem partW_of {v : JV} (h : v.mayB = true) (hk : v.kind = 5) : PartW v := by
 rw [JV.mayB_iff] at h
 simp only [Bool.and_eq_true] at h
 obtain ⟨a, b, c, d⟩ := part_obj h.1.1 hk
 exact ⟨hk, a, c, b, fun x hx => .inl (d x hx)⟩
theorem lookW {v : JV} (h : PartW v) {y : ByteArray} {it : JV} (e : v.look y = some it) (hk : it.kind ≠ 0) : it.partB = true := by
 rcases h.2.2.2.2 it (lookL_mem e).2 with h | h
 · exact h
 · exact absurd (by rw [h]; rfl) hk
end Go.Proofs.YtgghgcilpfdbjaaGreatDoor

namespace Go.Proofs.YtgghgcilpfdbjaaGreatDoor
open Go.RowKit Go.WideMaps Go.Maps
def OfNPost (er : Int) (w : World) (e : Ending) (w' : World) : Prop := e = .returned (.tuple #[.agg #[.int .i64 0, .int .i64 0, .slice none 0 0], .int .i64 er]) ∧ Below w.heap.size w w'
set_option maxHeartbeats 4000000 in
set_option maxRecDepth 100000 in
theorem snapOfN' (v : JV) (x : Value) (er : Int) (her : er = if v.mayB then 10 else 3) (w : World) (hN : v.wt ≤ 4294967296) (hR : Rep w 0 w.heap.size v x) (hm : v.mayB = false ∨ v.kind ≠ 5) (hT : TabW w) :
   Calls Tryz.prog 34 #[x] w (OfNPost er w) := by
 obtain ⟨mb, hmb0⟩ : ∃ mb, mb = v.mayB := ⟨_, rfl⟩
 rw [← hmb0] at her hm
 have HER := Lib.hid her
 clear her
 obtain ⟨an, cn, ai, ci, hx, h1, h2, h3, h4⟩ := hR.parts
 clear h1 h2 h3 h4
 subst hx
 obtain ⟨W2, hW2⟩ : ∃ W2, W2 = (w.alloc (.cells #[.int .u8 v.kind, .int .i64 v.n, .string v.t, .slice an v.names.length cn, .slice ai v.items.length ci] 30)).alloc (.cells #[.int .i64 0, .int .i64 0, .slice none 0 0] 24) := ⟨_, rfl⟩
 have hz1 : (w.alloc (.cells #[.int .u8 v.kind, .int .i64 v.n, .string v.t, .slice an v.names.length cn, .slice ai v.items.length ci] 30)).heap.size = w.heap.size + 1 := by simp
 have hz2 : W2.heap.size = w.heap.size + 2 := by rw [hW2]; simp
 have hb2 : Below w.heap.size w W2 := by rw [hW2]; exact ((Below.refl _ _).alloc (Nat.le_refl _) _).alloc (by simp) _
 have hx0 : W2.heap[w.heap.size]? = some (.cells #[.int .u8 v.kind, .int .i64 v.n, .string v.t, .slice an v.names.length cn, .slice ai v.items.length ci] 30 (0, 0)) := by rw [hW2, Below.heap_alloc _ _ _ (by simp)]; exact heap_alloc_new w _
 have hr0 : W2.rowIs (w.heap.size + 1) 24 3 (pick3 (.int .i64 0) (.int .i64 0) (.slice none 0 0)) := by
   have := rowIs_box3 (w.alloc (.cells #[.int .u8 v.kind, .int .i64 v.n, .string v.t, .slice an v.names.length cn, .slice ai v.items.length ci] 30)) (.int .i64 0) (.int .i64 0) (.slice none 0 0) 24
   rw [hz1, ← hW2] at this
   exact this
 have HMY := Lib.hid (valueMay v _ W2 hN (hR.below hb2 (Nat.le_refl _) (Nat.zero_le _) hb2.size))
 rw [← hmb0] at HMY
 clear hmb0
 have HW := Lib.hid hW2
 have HB2 := Lib.hid hb2
 have HX0 := Lib.hid hx0
 have HR0 := Lib.hid hr0
 have HZ2 := Lib.hid hz2
 have HTW := Lib.hid hT
 clear hR hW2 hb2 hx0 hr0 hz1 hz2 hT
 have c0 : W2.cell? ⟨w.heap.size, 0, none⟩ = some (.int .u8 v.kind) := box_cell HX0.out rfl
 have c1 : W2.cell? ⟨w.heap.size, 1, none⟩ = some (.int .i64 v.n) := box_cell HX0.out rfl
 have c2 : W2.cell? ⟨w.heap.size, 2, none⟩ = some (.string v.t) := box_cell HX0.out rfl
 have c3 : W2.cell? ⟨w.heap.size, 3, none⟩ = some (.slice an v.names.length cn) := box_cell HX0.out rfl
 have c4 : W2.cell? ⟨w.heap.size, 4, none⟩ = some (.slice ai v.items.length ci) := box_cell HX0.out rfl
 go_enter Tryz.func34, Tryz.ntmps34
 go_upto_region 1 with fail
 rw [← HW.out]
 go_wp2_with fail
 refine HMY.out.mono ?_
 clear HMY c0 c1 c2 c3 c4
 rintro e w1 ⟨rfl, hb1⟩
 have hx1 := (hb1.block _ (heap_lt HX0.out)).trans HX0.out
 have HB1 := Lib.hid (HB2.out.trans (hb1.mono HB2.out.size))
 have HR1 := Lib.hid (below_row hb1 HR0.out HR0.out.lt)
 have HZ1 := Lib.hid (show w.heap.size + 2 ≤ w1.heap.size from by have := hb1.size; have := HZ2.out; omega)
 cases mb with
 | false =>
   obtain rfl : er = 3 := HER.out
   have hr := HR1.out
   have t0 := hr.cell (i := 0) (by decide); have t1 := hr.cell (i := 1) (by decide); have t2 := hr.cell (i := 2) (by decide)
   have s0 := hr.frozen 0; have s1 := hr.frozen 1; have s2 := hr.frozen 2
   simp only [pick3] at t0 t1 t2
   clear hr hb1 hx1 hm
   go_wp2
   refine bodyPost_ret (results_row_tmp Tryz.results34 _ _ (w.heap.size + 1) 24 _ (0, 0) _ rfl (row3_heap (set3 _ _ _ HR1.out)) Tryz.underlying24 rfl (by kernel_rfl) _ rfl) rfl ?_
   exact ⟨rfl, below3 _ _ _ HB1.out (by omega)⟩
 | true =>
   obtain rfl : er = 10 := HER.out
   have hk : v.kind ≠ 5 := hm.resolve_left (by decide)
   have c0 : w1.cell? ⟨w.heap.size, 0, none⟩ = some (.int .u8 v.kind) := box_cell hx1 rfl
   have c1 : w1.cell? ⟨w.heap.size, 1, none⟩ = some (.int .i64 v.n) := box_cell hx1 rfl
   have c2 : w1.cell? ⟨w.heap.size, 2, none⟩ = some (.string v.t) := box_cell hx1 rfl
   have c3 : w1.cell? ⟨w.heap.size, 3, none⟩ = some (.slice an v.names.length cn) := box_cell hx1 rfl
   have c4 : w1.cell? ⟨w.heap.size, 4, none⟩ = some (.slice ai v.items.length ci) := box_cell hx1 rfl
   have HOF1 := Lib.hid (pickOf_bad v.kind v.n v.t (.slice an v.names.length cn) (.slice ai v.items.length ci) w1 hk)
   clear hb1 hx1 hm hk
   go_wp2_with fail
   refine HOF1.out.mono ?_
   clear HOF1 c0 c1 c2 c3 c4
   rintro e w2 ⟨o, rfl, ho1, ho2, hpb, hb2⟩
   obtain ⟨p, hp⟩ : ∃ p, p = w2.heap.size := ⟨_, rfl⟩
   obtain ⟨W3, hW3⟩ : ∃ W3, W3 = w2.alloc (.cells #[.int .i64 0, .int .i64 0, .slice none 0 0] 24) := ⟨_, rfl⟩
   have hb3 : Below w2.heap.size w2 W3 := by rw [hW3]; exact (Below.refl _ _).alloc (Nat.le_refl _) _
   have hq3 : W3.rowIs p 24 3 (pick3 (.int .i64 0) (.int .i64 0) (.slice none 0 0)) := by rw [hW3, hp]; exact rowIs_box3 _ _ _ _ _
   have HNE := Lib.hid (show o ≠ p from by omega)
   have HP3 := Lib.hid (hpb.below hb3 ho2)
   have HR3 := Lib.hid (below_row (hb2.trans (hb3.mono hb2.size)) HR1.out HR1.out.lt)
   have HB3 := Lib.hid (HB1.out.trans ((hb2.trans (hb3.mono hb2.size)).mono (by have := HZ1.out; omega)))
   have HQ3 := Lib.hid hq3
   have HW3 := Lib.hid hW3
   have HPE := Lib.hid hp
   have HZ3 := Lib.hid (show w.heap.size + 2 ≤ o ∧ w.heap.size + 2 ≤ p ∧ o < W3.heap.size ∧ p < W3.heap.size from ⟨by have := HZ1.out; omega, by have := HZ1.out; have := hb2.size; omega, Nat.lt_of_lt_of_le ho2 hb3.size, hq3.lt⟩)
   clear ho1 ho2 hpb hb2 hW3 hb3 hq3 hp
   go_upto_region 5 with fail
   rw [← HW3.out, ← HPE.out]
   go_wp2_with fail
   refine (snapParts W3).mono ?_
   rintro e w4 ⟨bp, rfl, hbp, hbz, hb4⟩
   have HP4 := Lib.hid (HP3.out.below hb4 HZ3.out.2.2.1)
   have HR4 := Lib.hid (below_row hb4 HR3.out HR3.out.lt)
   have HQ4 := Lib.hid (below_row hb4 HQ3.out HQ3.out.lt)
   have HBW4 := Lib.hid (HB3.out.trans (hb4.mono HB3.out.size))
   have HBP := Lib.hid hbp
   have HZ := Lib.hid (show w.heap.size + 2 ≤ o ∧ w.heap.size + 2 ≤ p ∧ o < bp ∧ p < bp ∧ bp < w4.heap.size ∧ w.heap.size ≤ w4.heap.size ∧ o < w4.heap.size from by have := HZ3.out; have := heap_lt hbp; have := HBW4.out.size; omega)
   clear hbp hbz hb4 HP3 HR3 HQ3 HB3
   go_wp2
   go_loopw [7, 17] (fun _ i wr => Touch (fun b => b = p) w4 wr ∧ PickBad o 10 wr ∧ wr.rowIs p 24 3 (pick3 (.int .i64 0) (.int .i64 0) (.slice none 0 0)) ∧ (i = .int .i64 0 ∨ i = .int .i64 1 ∨ i = .int .i64 2 ∨ i = .int .i64 3 ∨ i = .int .i64 4)) (fun _ i _ => 4 - (intOf i).toNat)
   case atStart => exact ⟨Touch.refl _ _, HP4.out, HQ4.out, .inl rfl⟩
   case round =>
     obtain ⟨ht, hp, hrw, hcase⟩ := hrel
     have HTr := Lib.hid ht
     have HBr := Lib.hid ((ht.block bp (by have := HZ.out; omega) (fun h => by have := HZ.out; omega)).trans HBP.out)
     clear ht
     rcases hcase with rfl | rfl | rfl | rfl | rfl
     · have HPr := Lib.hid hp
       have HRr := Lib.hid hrw
       obtain ⟨W7, hW7⟩ : ∃ W7, W7 = wr.alloc (.cells #[.func (.func 113) #[] #[]] 105) := ⟨_, rfl⟩
       have hb7 : Below wr.heap.size wr W7 := by rw [hW7]; exact (Below.refl _ _).alloc (Nat.le_refl _) _
       have hx7 : W7.heap[wr.heap.size]? = some (.cells #[.func (.func 113) #[] #[]] 105 (0, 0)) := by rw [hW7]; exact heap_alloc_new wr _
       have hoz : o < wr.heap.size := Nat.lt_of_lt_of_le (show o < w4.heap.size by have := HZ.out; omega) HTr.out.size
       have HP7 := Lib.hid (hp.below hb7 hoz)
       have HR7 := Lib.hid (below_row hb7 hrw hrw.lt)
       have HB7 := Lib.hid hb7
       have y0 : W7.cell? ⟨wr.heap.size, 0, none⟩ = some (.func (.func 113) #[] #[]) := box_cell hx7 rfl
       have HW7 := Lib.hid hW7
       have z0 : wr.cell? ⟨bp, 0, none⟩ = some (.func (.func 113) #[] #[]) := box_cell HBr.out rfl
       have HC := Lib.hid (parseTypeBad o p W7 HP7.out HR7.out)
       clear hb7 hx7 hW7 hp hrw hoz
       go_upto_region 8 with fail
       rw [← HW7.out]
       clear z0
       go_wp2_with fail
       refine HC.out.mono ?_
       clear HC y0
       rintro r w8 ⟨rfl, h8, hr8, ht8⟩
       have HT8 := Lib.hid (show Touch (fun b => b = p) w4 w8 from HTr.out.trans ((Touch.of_below HB7.out (Nat.le_refl _)).trans ht8))
       have H8 := Lib.hid h8
       have HR8 := Lib.hid hr8
       clear h8 ht8 hr8
       go_wp2
       go_roundw
       case rel => exact ⟨HT8.out, H8.out, HR8.out, .inr (.inl rfl)⟩
       case measure => simp [intOf]
     · have HPr := Lib.hid hp
       have HRr := Lib.hid hrw
       obtain ⟨W7, hW7⟩ : ∃ W7, W7 = wr.alloc (.cells #[.func (.func 114) #[] #[]] 105) := ⟨_, rfl⟩
       have hb7 : Below wr.heap.size wr W7 := by rw [hW7]; exact (Below.refl _ _).alloc (Nat.le_refl _) _
       have hx7 : W7.heap[wr.heap.size]? = some (.cells #[.func (.func 114) #[] #[]] 105 (0, 0)) := by rw [hW7]; exact heap_alloc_new wr _
       have hoz : o < wr.heap.size := Nat.lt_of_lt_of_le (show o < w4.heap.size by have := HZ.out; omega) HTr.out.size
       have HP7 := Lib.hid (hp.below hb7 hoz)
       have HR7 := Lib.hid (below_row hb7 hrw hrw.lt)
       have HB7 := Lib.hid hb7
       have y0 : W7.cell? ⟨wr.heap.size, 0, none⟩ = some (.func (.func 114) #[] #[]) := box_cell hx7 rfl
       have HW7 := Lib.hid hW7
       have z0 : wr.cell? ⟨bp, 1, none⟩ = some (.func (.func 114) #[] #[]) := box_cell HBr.out rfl
       have HC := Lib.hid (parseVersionBad o p W7 HP7.out (Nat.lt_of_lt_of_le hoz hb7.size) HNE.out HR7.out)
       clear hb7 hx7 hW7 hp hrw hoz
       go_upto_region 8 with fail
       rw [← HW7.out]
       clear z0
       go_wp2_with fail
       refine HC.out.mono ?_
       clear HC y0
       rintro r w8 ⟨rfl, h8, hr8, ht8⟩
       have HT8 := Lib.hid (show Touch (fun b => b = p) w4 w8 from HTr.out.trans ((Touch.of_below HB7.out (Nat.le_refl _)).trans ht8))
       have H8 := Lib.hid h8
       have HR8 := Lib.hid hr8
       clear h8 ht8 hr8
       go_wp2
       go_roundw
       case rel => exact ⟨HT8.out, H8.out, HR8.out, .inr (.inr (.inl rfl))⟩
       case measure => simp [intOf]
     · have HPr := Lib.hid hp
       have HRr := Lib.hid hrw
       obtain ⟨W7, hW7⟩ : ∃ W7, W7 = wr.alloc (.cells #[.func (.func 115) #[] #[]] 105) := ⟨_, rfl⟩
       have hb7 : Below wr.heap.size wr W7 := by rw [hW7]; exact (Below.refl _ _).alloc (Nat.le_refl _) _
       have hx7 : W7.heap[wr.heap.size]? = some (.cells #[.func (.func 115) #[] #[]] 105 (0, 0)) := by rw [hW7]; exact heap_alloc_new wr _
       have hoz : o < wr.heap.size := Nat.lt_of_lt_of_le (show o < w4.heap.size by have := HZ.out; omega) HTr.out.size
       have HP7 := Lib.hid (hp.below hb7 hoz)
       have HR7 := Lib.hid (below_row hb7 hrw hrw.lt)
       have HB7 := Lib.hid hb7
       have y0 : W7.cell? ⟨wr.heap.size, 0, none⟩ = some (.func (.func 115) #[] #[]) := box_cell hx7 rfl
       have HW7 := Lib.hid hW7
       have z0 : wr.cell? ⟨bp, 2, none⟩ = some (.func (.func 115) #[] #[]) := box_cell HBr.out rfl
       have HC := Lib.hid (parseExpiresBad o p W7 HP7.out (Nat.lt_of_lt_of_le hoz hb7.size) HNE.out HR7.out (HTW.out.below (HBW4.out.trans ((HTr.out.below (B := w.heap.size) (by have := HZ.out; omega) (fun k hk e => by have := HZ.out; omega)).trans (hb7.mono (by have := HZ.out; have := HTr.out.size; omega))))))
       clear hb7 hx7 hW7 hp hrw hoz
       go_upto_region 8 with fail
       rw [← HW7.out]
       clear z0
       go_wp2_with fail
       refine HC.out.mono ?_
       clear HC y0
       rintro r w8 ⟨rfl, h8, hr8, ht8⟩
       have HT8 := Lib.hid (show Touch (fun b => b = p) w4 w8 from HTr.out.trans ((Touch.of_below HB7.out (Nat.le_refl _)).trans ht8))
       have H8 := Lib.hid h8
       have HR8 := Lib.hid hr8
       clear h8 ht8 hr8
       go_wp2
       go_roundw
       case rel => exact ⟨HT8.out, H8.out, HR8.out, .inr (.inr (.inr (.inl rfl)))⟩
       case measure => simp [intOf]
     · have HPr := Lib.hid hp
       have HRr := Lib.hid hrw
       obtain ⟨W7, hW7⟩ : ∃ W7, W7 = wr.alloc (.cells #[.func (.func 116) #[] #[]] 105) := ⟨_, rfl⟩
       have hb7 : Below wr.heap.size wr W7 := by rw [hW7]; exact (Below.refl _ _).alloc (Nat.le_refl _) _
       have hx7 : W7.heap[wr.heap.size]? = some (.cells #[.func (.func 116) #[] #[]] 105 (0, 0)) := by rw [hW7]; exact heap_alloc_new wr _
       have hoz : o < wr.heap.size := Nat.lt_of_lt_of_le (show o < w4.heap.size by have := HZ.out; omega) HTr.out.size
       have HP7 := Lib.hid (hp.below hb7 hoz)
       have HR7 := Lib.hid (below_row hb7 hrw hrw.lt)
       have HB7 := Lib.hid hb7
       have y0 : W7.cell? ⟨wr.heap.size, 0, none⟩ = some (.func (.func 116) #[] #[]) := box_cell hx7 rfl
       have HW7 := Lib.hid hW7
       have z0 : wr.cell? ⟨bp, 3, none⟩ = some (.func (.func 116) #[] #[]) := box_cell HBr.out rfl
       have HC := Lib.hid (parseMetaBad o p W7 HP7.out (Nat.lt_of_lt_of_le hoz hb7.size) HR7.out)
       clear hb7 hx7 hW7 hp hrw hoz
       go_upto_region 8 with fail
       rw [← HW7.out]
       clear z0
       go_wp2_with fail
       refine HC.out.mono ?_
       clear HC y0
       rintro r w8 ⟨rfl, h8, hr8, ht8⟩
       have HT8 := Lib.hid (show Touch (fun b => b = p) w4 w8 from HTr.out.trans ((Touch.of_below HB7.out (Nat.le_refl _)).trans ht8))
       have H8 := Lib.hid h8
       have HR8 := Lib.hid hr8
       clear h8 ht8 hr8
       go_wp2
       go_roundw
       case rel => exact ⟨HT8.out, H8.out, HR8.out, .inr (.inr (.inr (.inr rfl)))⟩
       case measure => simp [intOf]
     · obtain ⟨h0, h6, k, h60⟩ := hp
       have HDO := Lib.hid (doneErr o 10 k wr h0 h6 h60)
       have hr := HTr.out.row HR4.out (by have := HZ.out; omega)
       have HRR := Lib.hid hr
       have HBE := Lib.hid (HBW4.out.trans (HTr.out.below (B := w.heap.size) (by have := HZ.out; omega) (fun k hk e => by have := HZ.out; omega)))
       have t0 := hr.cell (i := 0) (by decide); have t1 := hr.cell (i := 1) (by decide); have t2 := hr.cell (i := 2) (by decide)
       have s0 := hr.frozen 0; have s1 := hr.frozen 1; have s2 := hr.frozen 2
       simp only [pick3] at t0 t1 t2
       clear hrw hr h0 h6 h60
       go_wp2_with fail
       refine HDO.out.mono ?_
       clear HDO
       rintro e w' ⟨rfl, h'⟩
       subst h'
       go_wp2
       refine bodyPost_ret (results_row_tmp Tryz.results34 _ _ (w.heap.size + 1) 24 _ (0, 0) _ rfl (row3_heap (set3 _ _ _ HRR.out)) Tryz.underlying24 rfl (by kernel_rfl) _ rfl) rfl ?_
       exact ⟨rfl, below3 _ _ _ HBE.out (by omega)⟩
theorem snapOfN (v : JV) (x : Value) (w : World) (hN : v.wt ≤ 4294967296) (hR : Rep w 0 w.heap.size v x) (hm : v.mayB = false ∨ v.kind ≠ 5) (hT : TabW w) :
   Calls Tryz.prog 34 #[x] w (OfNPost (if v.mayB then 10 else 3) w) := snapOfN' v x _ rfl w hN hR hm hT
def snapOfA (v : JV) : SnapV × Int := if v.mayB = false then (snapZ, 3) else if v.kind ≠ 5 then (snapZ, 10) else snapOfK v
theorem stM_names {u : JV} (h : PartW u) : (stM u).1.names.length = (stM u).1.items.length := by
 unfold stM pickObj
 split
 · rfl
 · split
   · rfl
   · rename_i it hit
     split
     · rfl
     · split
       · rfl
       · rename_i hk _
         have hk5 : it.kind = 5 := by simpa using hk
         exact (part_obj (lookW h hit (by rw [hk5]; decide)) hk5).2.1
theorem snapOfOwn (v : JV) (x : Value) (w : World) (lo : Nat) (hlo : 0 < lo) (hN : v.wt ≤ 4294967296) (hR : Rep w lo w.heap.size v x) (hT : TabW w) :
   Calls Tryz.prog 34 #[x] w (fun e w' => ∃ qs a c, e = .returned (.tuple #[.agg #[.int .i64 (snapOfA v).1.ver, .int .i64 (snapOfA v).1.exp, .slice a (snapOfA v).1.pins.length c], .int .i64 (snapOfA v).2]) ∧ PinsOwn w.heap.size w' (.slice a (snapOfA v).1.pins.length c) qs ∧ qs.map (·.1) = (snapOfA v).1.pins ∧ Below w.heap.size w w') := by
 have hR0 := hR.carry (lo' := 0) (hi' := w.heap.size) (Nat.zero_le _) (Nat.le_refl _) (fun _ _ _ => rfl)
 by_cases hm : v.mayB = false ∨ v.kind ≠ 5
 · refine (snapOfN v x w hN hR0 hm hT).mono ?_
   rintro e w' ⟨rfl, hb⟩
   have e1 : snapOfA v = (snapZ, if v.mayB then 10 else 3) := by
     unfold snapOfA
     cases h : v.mayB with
     | false => rfl
     | true => rw [if_neg (by decide), if_pos (hm.resolve_left (by rw [h]; decide))]; rfl
   rw [e1]
   exact ⟨[], none, 0, rfl, PinsOwn.nil _ _, rfl, hb⟩
 · have hmb : v.mayB = true := by cases h : v.mayB with | true => rfl | false => exact absurd (.inl h) hm
   have hk : v.kind = 5 := Classical.byContradiction fun h => hm (.inr h)
   have hp := partW_of hmb hk
   refine (snapOfG (fun u => u = v) v x w hN hR0 hmb hk hT (fun u hu => by rw [hu]; exact stM_names hp) (fun w1 hb => (pickOf_good v x w1 lo w.heap.size hN hb.size (hR.below hb (Nat.le_refl _) (Nat.le_refl _) (Nat.le_refl _)) hk hp.2.2.1 hp.2.2.2.1 (fun _ _ => .inl hlo)).mono fun e w' h => ⟨v, rfl, h⟩)).mono ?_
   rintro e w' ⟨u, qs, a, c, rfl, rfl, ho, hq, hb⟩
   have e1 : snapOfA u = snapOfK u := by unfold snapOfA; rw [if_neg (by rw [hmb]; decide), if_neg (by simp [hk])]
   rw [e1]
   exact ⟨qs, a, c, rfl, ho, hq, hb⟩
end Go.Proofs.YtgghgcilpfdbjaaGreatDoor

namespace Go.Proofs.YtgghgcilpfdbjaaGreatDoor
open Go.RowKit
def aN : ByteArray := { data := #[97] }
def bN : ByteArray := { data := #[98] }
def hashWN : ByteArray := { data := #[104, 97, 115, 104] }
def pJ1 : JV := objJ [(verN, numJ 1)]
def mJ1 : JV := objJ [(aJsN, pJ1)]
def rows23 : List (JV × Int) := [
 (zeroJ, 3), (numJ 1, 10), (objJ [], 6), (snapO snpN nineN mJ1 1, 0), (snapO snpN nineN (objJ []) 1099511627776, 0), (snapO tgtN xN (numJ 1) 0, 13), (snapO snpN xN (numJ 1) 0, 1), (snapO snpN nineN mJ1 1099511627777, 1), (snapO snpN xN (numJ 1) 1, 3), (snapO snpN nineN (numJ 1) 1, 10),
 (snapO snpN nineN (objJ [(aN, pJ1)]) 1, 3), (snapO snpN nineN (objJ [(aJsN, numJ 1)]) 1, 10), (snapO snpN nineN (objJ [(aJsN, objJ []), (bN, pJ1)]) 1, 6), (snapO snpN nineN (objJ [(aJsN, objJ [(lenN, numJ (-1)), (verN, numJ 1)])]) 1, 1), (snapO snpN nineN (objJ [(aJsN, objJ [(hasN, objJ []), (verN, numJ 1)])]) 1, 4), (snapO snpN nineN (objJ [(aJsN, objJ [(hashWN, objJ []), (verN, numJ 1)])]) 1, 11),
 (objJ [(typN, txtJ snpN), (aN, objJ []), (expN, txtJ nineN), (metN, mJ1), (verN, numJ 1)], 11), (objJ [(typN, txtJ snpN), (expN, txtJ nineN), (verN, numJ 1)], 6), (objJ [(typN, numJ 1)], 10)]
theorem rows23_len : rows23.length = 19 := rfl
theorem rows23_wt : ∀ p ∈ rows23, p.1.wt ≤ 4294967296 := by decide +kernel
theorem rows23_err : ∀ p ∈ rows23, (snapOfA p.1).2 = p.2 := by decide +kernel
theorem snapA_zero (v : JV) (h : (snapOfA v).2 ≠ 0) : (snapOfA v).1 = snapZ := by
 unfold snapOfA at h ⊢
 split
 · rfl
 · split
   · rfl
   · rename_i h1 h2
     rw [if_neg h1, if_neg h2] at h
     unfold snapOfK at h ⊢
     split
     · rfl
     · rename_i h3
       rw [if_neg h3] at h
       exact absurd rfl h
def HasRep (B : Nat) (J : JV) (w : World) (x : Value) : Prop := ∃ an cn ai ci, x = .agg #[.int .u8 J.kind, .int .i64 J.n, .string J.t, .slice an J.names.length cn, .slice ai J.items.length ci] ∧ Rep w B w.heap.size J x
theorem HasRep.mono {B : Nat} {J : JV} {w w' : World} {x : Value} (hb : Below w.heap.size w w') (h : HasRep B J w x) : HasRep B J w' x := by
 obtain ⟨an, cn, ai, ci, e, hr⟩ := h
 exact ⟨an, cn, ai, ci, e, hr.below hb (Nat.le_refl _) (Nat.le_refl _) hb.size⟩
def MP.rep (B : Nat) (J : JV) : MP := ⟨HasRep B J, fun _ _ _ hb h => h.mono hb⟩
def CellsRep (B : Nat) (w : World) (cs : Array Value) (o : Nat) (J : JV) : Prop := ∃ c0 c1 c2 c3 c4, cs[o]? = some c0 ∧ cs[o + 1]? = some c1 ∧ cs[o + 2]? = some c2 ∧ cs[o + 3]? = some c3 ∧ cs[o + 4]? = some c4 ∧ HasRep B J w (.agg #[c0, c1, c2, c3, c4])
theorem CellsRep.mono {B : Nat} {w w' : World} {cs : Array Value} {o : Nat} {J : JV} (hb : Below w.heap.size w w') (h : CellsRep B w cs o J) : CellsRep B w' cs o J := by
 obtain ⟨c0, c1, c2, c3, c4, h0, h1, h2, h3, h4, hr⟩ := h
 exact ⟨c0, c1, c2, c3, c4, h0, h1, h2, h3, h4, hr.mono hb⟩
def HasVals (B : Nat) (l : List JV) (w : World) (x : Value) : Prop := ∃ b cs, x = .slice (some ⟨b, 0, none⟩) l.length l.length ∧ B ≤ b ∧ w.heap[b]? = some (.cells cs 30 (0, 0)) ∧ ∀ i (h : i < l.length), CellsRep B w cs (i * 5) l[i]
theorem HasVals.mono {B : Nat} {l : List JV} {w w' : World} {x : Value} (hb : Below w.heap.size w w') (h : HasVals B l w x) : HasVals B l w' x := by
 obtain ⟨b, cs, e, h1, h2, h3⟩ := h
 exact ⟨b, cs, e, h1, by rw [hb.block _ (heap_lt h2)]; exact h2, fun i hi => (h3 i hi).mono hb⟩
def MP.vals (B : Nat) (l : List JV) : MP := ⟨HasVals B l, fun _ _ _ hb h => h.mono hb⟩
def HasPair (B : Nat) (J : JV) (e : Int) (w : World) (x : Value) : Prop := ∃ c0 c1 c2 c3 c4, x = .agg #[c0, c1, c2, c3, c4, .int .i64 e] ∧ HasRep B J w (.agg #[c0, c1, c2, c3, c4])
def MP.pair (B : Nat) (J : JV) (e : Int) : MP := ⟨HasPair B J e, fun _ _ _ hb ⟨c0, c1, c2, c3, c4, h, hr⟩ => ⟨c0, c1, c2, c3, c4, h, hr.mono hb⟩⟩
def HasTab (B T : Nat) (l : List (JV × Int)) (w : World) (x : Value) : Prop := ∃ b cs, x = .slice (some ⟨b, 0, none⟩) l.length l.length ∧ B ≤ b ∧ w.heap[b]? = some (.cells cs T (0, 0)) ∧ ∀ i (h : i < l.length), CellsRep B w cs (i * 6) l[i].1 ∧ cs[i * 6 + 5]? = some (.int .i64 l[i].2)
theorem HasTab.mono {B T : Nat} {l : List (JV × Int)} {w w' : World} {x : Value} (hb : Below w.heap.size w w') (h : HasTab B T l w x) : HasTab B T l w' x := by
 obtain ⟨b, cs, e, h1, h2, h3⟩ := h
 exact ⟨b, cs, e, h1, by rw [hb.block _ (heap_lt h2)]; exact h2, fun i hi => ⟨(h3 i hi).1.mono hb, (h3 i hi).2⟩⟩
def MP.tab (B T : Nat) (l : List (JV × Int)) : MP := ⟨HasTab B T l, fun _ _ _ hb h => h.mono hb⟩
def strs (l : List ByteArray) : Array Value := (l.map Value.string).toArray
theorem rep_numH (B : Nat) (n : Int) (w : World) : HasRep B (numJ n) w (.agg #[.int .u8 2, .int .i64 n, .string { data := #[] }, .slice none 0 0, .slice none 0 0]) := ⟨none, 0, none, 0, rfl, rep_numS _ _ _ _⟩
theorem rep_txtH (B : Nat) (t : ByteArray) (w : World) : HasRep B (txtJ t) w (.agg #[.int .u8 3, .int .i64 0, .string t, .slice none 0 0, .slice none 0 0]) := ⟨none, 0, none, 0, rfl, rep_txt _ _ _ _⟩
theorem rep_zeroH (B : Nat) (w : World) : HasRep B zeroJ w (.agg #[.int .u8 0, .int .i64 0, .string { data := #[] }, .slice none 0 0, .slice none 0 0]) := ⟨none, 0, none, 0, rfl, rep_zeroJW _ _ _⟩
theorem numS (B : Nat) (n : Int) (w : World) : Calls Tryz.prog 37 #[.int .i64 n] w fun e w' => ∃ z, e = .returned z ∧ HasRep B (numJ n) w' z ∧ Below w.heap.size w w' :=
 (lawNumB n w).mono fun _ _ h => ⟨_, h.1, rep_numH _ _ _, h.2⟩
theorem textS (B : Nat) (t : ByteArray) (w : World) : Calls Tryz.prog 39 #[.string t] w fun e w' => ∃ z, e = .returned z ∧ HasRep B (txtJ t) w' z ∧ Below w.heap.size w w' :=
 (lawTextB t w).mono fun _ _ h => ⟨_, h.1, rep_txtH _ _ _, h.2⟩
theorem objS {B : Nat} {w : World} {x y : Value} (ns : List ByteArray) (l : List JV) (h1 : IsRow B ns.length 9 (strs ns) w x) (h2 : HasVals B l w y) :
   Calls Tryz.prog 36 #[x, y] w fun e w' => ∃ z, e = .returned z ∧ HasRep B (.mk 5 0 { data := #[] } ns l) w' z ∧ Below w.heap.size w w' := by
 obtain ⟨b, hb, rfl, hm⟩ := h1
 obtain ⟨b2, cs, rfl, hb2, hm2, hc⟩ := h2
 refine (lawObj _ _ _ _ _ _ w).mono ?_
 rintro e w' ⟨rfl, hw⟩
 have hbw : Below w.heap.size w w' := by rw [hw]; exact (Below.refl _ _).alloc (Nat.le_refl _) _
 refine ⟨_, rfl, ⟨_, _, _, _, rfl, rep_obj (csn := strs ns) (by rw [hbw.block _ (heap_lt hm)]; exact hm) (fun i hi => by simp [strs, hi]) (by rw [hbw.block _ (heap_lt hm2)]; exact hm2) (fun i hi => ?_) ⟨hb, by have := heap_lt hm; have := hbw.size; omega⟩ ⟨hb2, by have := heap_lt hm2; have := hbw.size; omega⟩ rfl rfl⟩, hbw⟩
 obtain ⟨c0, c1, c2, c3, c4, k0, k1, k2, k3, k4, _, _, _, _, _, hr⟩ := (hc i hi).mono hbw
 exact ⟨c0, c1, c2, c3, c4, k0, k1, k2, k3, k4, hr⟩
theorem snapS {B : Nat} {w : World} {x : Value} (kd ex : ByteArray) (m : JV) (n : Int) (h : HasRep B m w x) (hB : B ≤ w.heap.size) :
   Calls Tryz.prog 38 #[.string kd, .string ex, x, .int .i64 n] w fun e w' => ∃ z, e = .returned z ∧ HasRep B (snapO kd ex m n) w' z ∧ Below w.heap.size w w' := by
 obtain ⟨an, cn, ai, ci, rfl, hr⟩ := h
 refine (lawSnapshot kd ex m an ai cn ci n w B w.heap.size hr hB (Nat.le_refl _)).mono ?_
 rintro e w' ⟨an, ai, rfl, h1, h2⟩
 exact ⟨_, rfl, ⟨an, 4, ai, 4, rfl, h1⟩, h2⟩
def frN (f : Nat → Value) : Act := ⟨#[f 0, f 1, f 2, f 3, f 4, f 5, f 6, f 7, f 8, f 9, f 10, f 11, f 12, f 13, f 14, f 15, f 16, f 17, f 18, f 19, f 20, f 21, f 22, f 23, f 24, f 25, f 26, f 27, f 28, f 29, f 30, f 31, f 32, f 33, f 34, f 35, f 36, f 37, f 38, f 39, f 40, f 41, f 42, f 43, f 44, f 45, f 46, f 47, f 48, f 49, f 50, f 51, f 52, f 53, f 54, f 55, f 56, f 57, f 58, f 59, f 60, f 61, f 62, f 63, f 64, f 65, f 66, f 67, f 68, f 69, f 70, f 71, f 72, f 73, f 74, f 75, f 76, f 77, f 78, f 79, f 80, f 81, f 82, f 83, f 84, f 85, f 86, f 87, f 88, f 89, f 90, f 91, f 92, f 93, f 94, f 95, f 96, f 97, f 98, f 99, f 100, f 101, f 102, f 103, f 104, f 105, f 106, f 107, f 108, f 109, f 110, f 111, f 112, f 113, f 114, f 115, f 116, f 117, f 118, f 119, f 120, f 121, f 122, f 123, f 124, f 125, f 126, f 127, f 128, f 129, f 130, f 131, f 132, f 133, f 134, f 135, f 136, f 137, f 138, f 139, f 140, f 141, f 142, f 143, f 144, f 145, f 146, f 147, f 148, f 149, f 150, f 151, f 152, f 153, f 154, f 155, f 156, f 157, f 158, f 159, f 160, f 161, f 162, f 163, f 164, f 165, f 166, f 167, f 168, f 169, f 170, f 171, f 172, f 173, f 174, f 175, f 176, f 177, f 178, f 179, f 180, f 181, f 182, f 183, f 184, f 185, f 186, f 187, f 188, f 189, f 190, f 191, f 192, f 193, f 194, f 195, f 196, f 197, f 198, f 199, f 200, f 201, f 202, f 203, f 204, f 205, f 206, f 207, f 208, f 209, f 210, f 211, f 212, f 213, f 214, f 215, f 216, f 217, f 218, f 219, f 220, f 221, f 222, f 223, f 224, f 225, f 226, f 227, f 228, f 229, f 230, f 231, f 232, f 233, f 234, f 235, f 236, f 237, f 238, f 239, f 240, f 241, f 242, f 243, f 244, f 245, f 246, f 247, f 248, f 249, f 250, f 251, f 252, f 253, f 254, f 255, f 256, f 257, f 258, f 259, f 260, f 261, f 262, f 263, f 264, f 265, f 266, f 267, f 268, f 269, f 270, f 271, f 272, f 273, f 274, f 275, f 276, f 277, f 278, f 279, f 280, f 281, f 282, f 283, f 284, f 285, f 286, f 287, f 288, f 289, f 290, f 291, f 292, f 293, f 294, f 295, f 296, f 297, f 298, f 299, f 300, f 301, f 302, f 303, f 304, f 305], []⟩
theorem HasRep.five {B : Nat} {J : JV} {w : World} {x : Value} (h : HasRep B J w x) : ∃ c0 c1 c2 c3 c4, x = .agg #[c0, c1, c2, c3, c4] ∧ HasRep B J w (.agg #[c0, c1, c2, c3, c4]) := by
 obtain ⟨an, cn, ai, ci, rfl, hr⟩ := h
 exact ⟨_, _, _, _, _, rfl, an, cn, ai, ci, rfl, hr⟩
structure FixN (p1 p2 p4 : Value) (f : Nat → Value) : Prop where
 h1 : f 1 = p1
 h2 : f 2 = p2
 h3 : f 3 = .string nineN
 h4 : f 4 = p4
theorem FixN.upd {p1 p2 p4 : Value} {f : Nat → Value} (h : FixN p1 p2 p4 f) (k : Nat) (hk : 5 ≤ k) (y : Value) : FixN p1 p2 p4 (upd f k y) :=
 ⟨by rw [← h.h1]; exact if_neg (by omega), by rw [← h.h2]; exact if_neg (by omega), by rw [← h.h3]; exact if_neg (by omega), by rw [← h.h4]; exact if_neg (by omega)⟩
def seqL : Code → Code | .seq a _ => a | c => c
def seqR : Code → Code | .seq _ b => b | c => c
theorem frN_lit (f : Nat → Value) : frN f = ⟨((List.range 306).map f).toArray, []⟩ := by kernel_rfl
theorem frN_of (xs : Array Value) (h : xs.size = 306) : (⟨xs, []⟩ : Act) = frN (fun i => xs.getD i undef) := by
 rw [frN_lit]
 congr 1
 apply Array.ext
 · simp [h]
 · intro i h1 h2
   simp [Array.getD, h1]
set_option maxHeartbeats 16000000 in
set_option maxRecDepth 100000 in
theorem lawNamesC (B : Nat) (W : World) (b1 b2 b4 : Nat) (f : Nat → Value) (K : Act → World → Prop) (Q : Exit → Act → World → Prop) (hfix : FixN (.pointer (some ⟨b1, 0, none⟩)) (.pointer (some ⟨b2, 0, none⟩)) (.pointer (some ⟨b4, 0, none⟩)) f) (hB0 : 0 < B) (hT : TabW W)
   (htab : HasTab B 55 rows23 W (f 148)) (e149 : f 149 = .int .i64 19) (e150 : f 150 = .int .i64 0)
   (hK : ∀ (f' : Nat → Value) (w' : World), FixN (.pointer (some ⟨b1, 0, none⟩)) (.pointer (some ⟨b2, 0, none⟩)) (.pointer (some ⟨b4, 0, none⟩)) f' → Below W.heap.size W w' → K (frN f') w') :
   Code.wp Tryz.prog (seqR (seqL (tailCode 5 (Tryz.f6.body.getD .skip)))) (Exit.then K Q) (frN f) W := by
 conv => arg 2; whnf
 obtain ⟨b, cs, e148, hb, hm, hc⟩ := htab
 replace e148 : f 148 = .slice (some ⟨b, 0, none⟩) 19 19 := e148
 have hfr : frN f = ⟨#[f 0, f 1, f 2, f 3, f 4, f 5, f 6, f 7, f 8, f 9, f 10, f 11, f 12, f 13, f 14, f 15, f 16, f 17, f 18, f 19, f 20, f 21, f 22, f 23, f 24, f 25, f 26, f 27, f 28, f 29, f 30, f 31, f 32, f 33, f 34, f 35, f 36, f 37, f 38, f 39, f 40, f 41, f 42, f 43, f 44, f 45, f 46, f 47, f 48, f 49, f 50, f 51, f 52, f 53, f 54, f 55, f 56, f 57, f 58, f 59, f 60, f 61, f 62, f 63, f 64, f 65, f 66, f 67, f 68, f 69, f 70, f 71, f 72, f 73, f 74, f 75, f 76, f 77, f 78, f 79, f 80, f 81, f 82, f 83, f 84, f 85, f 86, f 87, f 88, f 89, f 90, f 91, f 92, f 93, f 94, f 95, f 96, f 97, f 98, f 99, f 100, f 101, f 102, f 103, f 104, f 105, f 106, f 107, f 108, f 109, f 110, f 111, f 112, f 113, f 114, f 115, f 116, f 117, f 118, f 119, f 120, f 121, f 122, f 123, f 124, f 125, f 126, f 127, f 128, f 129, f 130, f 131, f 132, f 133, f 134, f 135, f 136, f 137, f 138, f 139, f 140, f 141, f 142, f 143, f 144, f 145, f 146, f 147, .slice (some ⟨b, 0, none⟩) 19 19, .int .i64 19, .int .i64 0, f 151, f 152, f 153, f 154, f 155, f 156, f 157, f 158, f 159, f 160, f 161, f 162, f 163, f 164, f 165, f 166, f 167, f 168, f 169, f 170, f 171, f 172, f 173, f 174, f 175, f 176, f 177, f 178, f 179, f 180, f 181, f 182, f 183, f 184, f 185, f 186, f 187, f 188, f 189, f 190, f 191, f 192, f 193, f 194, f 195, f 196, f 197, f 198, f 199, f 200, f 201, f 202, f 203, f 204, f 205, f 206, f 207, f 208, f 209, f 210, f 211, f 212, f 213, f 214, f 215, f 216, f 217, f 218, f 219, f 220, f 221, f 222, f 223, f 224, f 225, f 226, f 227, f 228, f 229, f 230, f 231, f 232, f 233, f 234, f 235, f 236, f 237, f 238, f 239, f 240, f 241, f 242, f 243, f 244, f 245, f 246, f 247, f 248, f 249, f 250, f 251, f 252, f 253, f 254, f 255, f 256, f 257, f 258, f 259, f 260, f 261, f 262, f 263, f 264, f 265, f 266, f 267, f 268, f 269, f 270, f 271, f 272, f 273, f 274, f 275, f 276, f 277, f 278, f 279, f 280, f 281, f 282, f 283, f 284, f 285, f 286, f 287, f 288, f 289, f 290, f 291, f 292, f 293, f 294, f 295, f 296, f 297, f 298, f 299, f 300, f 301, f 302, f 303, f 304, f 305], []⟩ := by simp only [frN, e148, e149, e150]
 rw [hfr]
 dsimp only
 have HK := Lib.hid hK
 have HF := Lib.hid hfix
 have HM := Lib.hid hm
 have HC := Lib.hid hc
 have HT := Lib.hid (show ∀ w', Below W.heap.size W w' → TabW w' from fun w' h => hT.below h)
 have hbl := heap_lt hm
 clear hK hfix hm hc hT hfr e148 e149 e150
 go_step
 go_loopw [150] (fun i wr => ∃ k : Nat, k ≤ 19 ∧ i = .int .i64 k ∧ Below W.heap.size W wr) (fun i _ => 19 - (intOf i).toNat)
 case atStart => exact ⟨0, by omega, rfl, Below.refl _ _⟩
 case round =>
   obtain ⟨k, hk, rfl, hbw⟩ := hrel
   have HB := Lib.hid hbw
   clear hbw
   by_cases hlt : k < 19
   · have hkl : k < rows23.length := by rw [rows23_len]; exact hlt
     obtain ⟨⟨c0, c1, c2, c3, c4, k0, k1, k2, k3, k4, hrep⟩, k5⟩ := HC.out k hkl
     have hwt := rows23_wt rows23[k] (List.getElem_mem hkl)
     have her := rows23_err rows23[k] (List.getElem_mem hkl)
     have hz0 := snapA_zero rows23[k].1
     generalize rows23[k] = r at hrep k5 hwt her hz0
     obtain ⟨J, E⟩ := r
     dsimp only at hrep k5 hwt her hz0
     have hmw := (HB.out.block _ hbl).trans HM.out
     obtain ⟨an, cn, ai, ci, hce, hrr⟩ := hrep
     simp only [Value.agg.injEq, Array.mk.injEq, List.cons.injEq, and_true] at hce
     obtain ⟨rfl, rfl, rfl, rfl, rfl⟩ := hce
     have y0 := box_cell hmw k0; have y1 := box_cell hmw k1; have y2 := box_cell hmw k2; have y3 := box_cell hmw k3; have y4 := box_cell hmw k4; have y5 := box_cell hmw k5
     have HRP := Lib.hid (show ∀ w', Below W.heap.size W w' → Rep w' B w'.heap.size J (.agg #[.int .u8 J.kind, .int .i64 J.n, .string J.t, .slice an J.names.length cn, .slice ai J.items.length ci]) from fun w' h => hrr.below h (Nat.le_refl _) (Nat.le_refl _) h.size)
     have HWT := Lib.hid hwt
     have HER := Lib.hid her
     have HZ := Lib.hid hz0
     clear hrr k0 k1 k2 k3 k4 k5 hwt her hz0 hmw
     obtain ⟨W2, hW2⟩ : ∃ W2, W2 = wr.alloc (.cells #[.int .u8 J.kind, .int .i64 J.n, .string J.t, .slice an J.names.length cn, .slice ai J.items.length ci, .int .i64 E] 55) := ⟨_, rfl⟩
     have hbx : Below wr.heap.size wr W2 := by rw [hW2]; exact (Below.refl _ _).alloc (Nat.le_refl _) _
     have HX := Lib.hid (show W2.heap[wr.heap.size]? = some (.cells #[.int .u8 J.kind, .int .i64 J.n, .string J.t, .slice an J.names.length cn, .slice ai J.items.length ci, .int .i64 E] 55 (0, 0)) by rw [hW2]; exact heap_alloc_new wr _)
     have HB2 := Lib.hid (HB.out.trans (hbx.mono HB.out.size))
     have HW2 := Lib.hid hW2
     clear hW2 hbx
     go_upto_region 9 with fail
     rw [← HW2.out]
     clear HW2 y0 y1 y2 y3 y4 y5
     have HOF := Lib.hid (snapOfOwn J _ W2 B hB0 HWT.out (HRP.out W2 HB2.out) (HT.out W2 HB2.out))
     obtain ⟨r, hr⟩ : ∃ r, r = snapOfA J := ⟨_, rfl⟩
     rw [← hr] at HOF HER HZ
     obtain ⟨S, E2⟩ := r
     obtain rfl : E2 = E := HER.out
     clear hr HER
     have x0 := box_cell HX.out (j := 0) rfl; have x1 := box_cell HX.out (j := 1) rfl; have x2 := box_cell HX.out (j := 2) rfl; have x3 := box_cell HX.out (j := 3) rfl; have x4 := box_cell HX.out (j := 4) rfl
     go_wp2_with fail
     refine HOF.out.mono ?_
     rintro r w3 ⟨qs, ta, tc, rfl, hown, hqs, hb3⟩
     clear hown hqs HOF x0 x1 x2 x3 x4
     dsimp only at HZ ⊢
     obtain ⟨W4, hW4⟩ : ∃ W4, W4 = w3.alloc (.cells #[.int .i64 S.ver, .int .i64 S.exp, .slice ta S.pins.length tc] 24) := ⟨_, rfl⟩
     have hb4 : Below w3.heap.size w3 W4 := by rw [hW4]; exact (Below.refl _ _).alloc (Nat.le_refl _) _
     have HY := Lib.hid (show W4.heap[w3.heap.size]? = some (.cells #[.int .i64 S.ver, .int .i64 S.exp, .slice ta S.pins.length tc] 24 (0, 0)) by rw [hW4]; exact heap_alloc_new w3 _)
     have hb24 : Below W2.heap.size W2 W4 := hb3.trans (hb4.mono hb3.size)
     have x5 : W4.cell? ⟨wr.heap.size, 5, none⟩ = some (.int .i64 E2) := box_cell ((hb24.block _ (heap_lt HX.out)).trans HX.out) rfl
     have HB4 := Lib.hid (HB2.out.trans (hb24.mono HB2.out.size))
     have HW4 := Lib.hid hW4
     clear hW4 hb3 hb4 hb24
     go_upto_region 10 with fail
     rw [← HW4.out]
     clear HW4
     by_cases hE : E2 = 0
     · subst hE
       go_wp2
       go_roundw
       case rel => exact ⟨k + 1, by omega, by go_num, HB4.out⟩
       case measure => simp [intOf]; omega
     · have hne : (E2 != 0) = true := by simpa using hE
       have hS : S = snapZ := HZ.out hE
       subst hS
       have z0 := box_cell HY.out (j := 0) rfl; have z1 := box_cell HY.out (j := 1) rfl; have z2 := box_cell HY.out (j := 2) rfl
       have HSM := Lib.hid ((ref23SameG 0 0 [] 0 0 [] ta none tc 0 W4 (.inl rfl) (.inl rfl) (fun p h => by cases h) (fun p h => by cases h) (Nat.zero_le _) (Nat.zero_le _)).mono fun _ _ ht => tells_bool (b := true) (by simp) ht)
       go_wp2_with fail
       refine HSM.out.mono ?_
       rintro r w5 ⟨rfl, hb5⟩
       have HB5 := Lib.hid (HB4.out.trans (hb5.mono HB4.out.size))
       clear hb5 HSM z0 z1 z2
       go_wp2
       go_roundw
       case rel => exact ⟨k + 1, by omega, by go_num, HB5.out⟩
       case measure => simp [intOf]; omega
   · obtain rfl : k = 19 := by omega
     go_wp2
     refine Eq.mpr (congrArg (fun a => K a wr) (frN_of _ rfl)) (HK.out _ wr ?_ HB.out)
     exact ⟨HF.out.h1, HF.out.h2, HF.out.h3, HF.out.h4⟩
def nameN (i : Nat) : ByteArray := ⟨#[UInt8.ofNat (97 + i / 26), UInt8.ofNat (97 + i % 26), 46, 106, 115, 111, 110]⟩
def pinN (i : Nat) : PinV := ⟨nameN i, 1, -1, []⟩
def pinsN (k : Nat) : List PinV := (List.range k).map pinN
theorem pinsN_succ (k : Nat) : pinsN (k + 1) = pinsN k ++ [pinN k] := by simp [pinsN, List.range_succ]
theorem pinsN_len (k : Nat) : (pinsN k).length = k := by simp [pinsN]
theorem name_cat (k : Nat) : ((⟨[UInt8.ofNat (97 + k / 26), UInt8.ofNat (97 + k % 26)].toArray⟩ : ByteArray) ++ { data := #[46, 106, 115, 111, 110] }) = nameN k := by
 apply ByteArray.ext
 simp [nameN]
theorem infoPinN : (Tryz.prog.info? 36).map (fun i => (i.zero, i.size, i.bytes)) = some (some (.agg #[.string { data := #[] }, .int .i64 0, .int .i64 0, .slice none 0 0]), 4, 56) := by kernel_rfl
set_option maxHeartbeats 16000000 in
set_option maxRecDepth 100000 in
theorem lawNamesE (W : World) (p1 p2 p4 : Value) (f : Nat → Value) (K : Act → World → Prop) (Q : Exit → Act → World → Prop) (hfix : FixN p1 p2 p4 f) (e9 : f 9 = .slice none 0 0)
   (hK : ∀ (f' : Nat → Value) (w' : World), FixN p1 p2 p4 f' → Below W.heap.size W w' → w'.ownsRow W.heap.size 36 4 (f' 9) 257 ((pinsN 257).flatMap encP) → K (frN f') w') :
   Code.wp Tryz.prog (seqL (tailCode 7 (Tryz.f6.body.getD .skip))) (Exit.then K Q) (frN f) W := by
 conv => arg 2; whnf
 have hfr : frN f = ⟨#[f 0, f 1, f 2, f 3, f 4, f 5, f 6, f 7, f 8, .slice none 0 0, f 10, f 11, f 12, f 13, f 14, f 15, f 16, f 17, f 18, f 19, f 20, f 21, f 22, f 23, f 24, f 25, f 26, f 27, f 28, f 29, f 30, f 31, f 32, f 33, f 34, f 35, f 36, f 37, f 38, f 39, f 40, f 41, f 42, f 43, f 44, f 45, f 46, f 47, f 48, f 49, f 50, f 51, f 52, f 53, f 54, f 55, f 56, f 57, f 58, f 59, f 60, f 61, f 62, f 63, f 64, f 65, f 66, f 67, f 68, f 69, f 70, f 71, f 72, f 73, f 74, f 75, f 76, f 77, f 78, f 79, f 80, f 81, f 82, f 83, f 84, f 85, f 86, f 87, f 88, f 89, f 90, f 91, f 92, f 93, f 94, f 95, f 96, f 97, f 98, f 99, f 100, f 101, f 102, f 103, f 104, f 105, f 106, f 107, f 108, f 109, f 110, f 111, f 112, f 113, f 114, f 115, f 116, f 117, f 118, f 119, f 120, f 121, f 122, f 123, f 124, f 125, f 126, f 127, f 128, f 129, f 130, f 131, f 132, f 133, f 134, f 135, f 136, f 137, f 138, f 139, f 140, f 141, f 142, f 143, f 144, f 145, f 146, f 147, f 148, f 149, f 150, f 151, f 152, f 153, f 154, f 155, f 156, f 157, f 158, f 159, f 160, f 161, f 162, f 163, f 164, f 165, f 166, f 167, f 168, f 169, f 170, f 171, f 172, f 173, f 174, f 175, f 176, f 177, f 178, f 179, f 180, f 181, f 182, f 183, f 184, f 185, f 186, f 187, f 188, f 189, f 190, f 191, f 192, f 193, f 194, f 195, f 196, f 197, f 198, f 199, f 200, f 201, f 202, f 203, f 204, f 205, f 206, f 207, f 208, f 209, f 210, f 211, f 212, f 213, f 214, f 215, f 216, f 217, f 218, f 219, f 220, f 221, f 222, f 223, f 224, f 225, f 226, f 227, f 228, f 229, f 230, f 231, f 232, f 233, f 234, f 235, f 236, f 237, f 238, f 239, f 240, f 241, f 242, f 243, f 244, f 245, f 246, f 247, f 248, f 249, f 250, f 251, f 252, f 253, f 254, f 255, f 256, f 257, f 258, f 259, f 260, f 261, f 262, f 263, f 264, f 265, f 266, f 267, f 268, f 269, f 270, f 271, f 272, f 273, f 274, f 275, f 276, f 277, f 278, f 279, f 280, f 281, f 282, f 283, f 284, f 285, f 286, f 287, f 288, f 289, f 290, f 291, f 292, f 293, f 294, f 295, f 296, f 297, f 298, f 299, f 300, f 301, f 302, f 303, f 304, f 305], []⟩ := by simp only [frN, e9]
 rw [hfr]
 dsimp only
 have HK := Lib.hid hK
 have HF := Lib.hid hfix
 clear hK hfix hfr e9
 obtain ⟨i1, hi1, hy0, hy1, hy2⟩ := info_parts infoPinN
 go_wp2
 go_loopw [9, 10] (fun l i wr => ∃ k : Nat, k ≤ 257 ∧ i = .int .i64 k ∧ Below W.heap.size W wr ∧ wr.ownsRow W.heap.size 36 4 l k ((pinsN k).flatMap encP)) (fun _ i _ => 257 - (intOf i).toNat)
 case atStart => exact ⟨0, by omega, rfl, Below.refl _ _, World.ownsRow_nil _ _ _ _⟩
 case round =>
   obtain ⟨k, hk, rfl, hbw, hown⟩ := hrel
   have HB := Lib.hid hbw
   have HO := Lib.hid hown
   clear hbw hown
   by_cases hlt : k < 257
   · have hlt' : (k : Int) < 257 := by omega
     have HCV := Lib.hid (show (convert 59 9 (.slice (some ⟨wr.heap.size, 0, none⟩) 2 2)).run Tryz.prog (wr.alloc (.cells #[.int .u8 (97 + (k : Int) / 26), .int .u8 (97 + (k : Int) % 26)] 5)) = .ok (.string ⟨[UInt8.ofNat (97 + k / 26), UInt8.ofNat (97 + k % 26)].toArray⟩) (wr.alloc (.cells #[.int .u8 (97 + (k : Int) / 26), .int .u8 (97 + (k : Int) % 26)] 5)) from by
       refine run_convert_bytes_back _ _ _ 5 ⟨wr.heap.size, 0, none⟩ 2 [UInt8.ofNat (97 + k / 26), UInt8.ofNat (97 + k % 26)] Tryz.underlying59 Tryz.underlying5 Tryz.underlying9 fun j hj => ?_
       have hx := heap_alloc_new wr (.cells #[.int .u8 (97 + (k : Int) / 26), .int .u8 (97 + (k : Int) % 26)] 5)
       have hj2 : j = 0 ∨ j = 1 := by simp at hj; omega
       rcases hj2 with rfl | rfl
       · refine (box_cell hx rfl).trans ?_
         simp; omega
       · refine (box_cell hx rfl).trans ?_
         simp; omega)
     obtain ⟨T2, hT2⟩ : ∃ T2 : ByteArray, T2 = ⟨[UInt8.ofNat (97 + k / 26), UInt8.ofNat (97 + k % 26)].toArray⟩ := ⟨_, rfl⟩
     have HT2 := Lib.hid hT2
     have hs2 : T2.size = 2 := by rw [hT2]; rfl
     rw [← hT2] at HCV
     clear hT2
     go_wp2
     rw [HCV.out]
     have hwz : W.heap.size ≤ wr.heap.size := HB.out.size
     go_wp2_with (at_builtin; refine wpList_append_lies _ rfl (.tmp 179) (.tmp 192) 22 rfl W.heap.size 36 i1 _ 4 56 Tryz.underlying22 hi1 hy0 hy1 hy2 rfl (by decide) u9 k ((pinsN k).flatMap encP) rfl ((HO.out.alloc _).alloc _) ⟨wr.heap.size + 1, 0, none⟩ 1 1 [.string (T2 ++ { data := #[46, 106, 115, 111, 110] }), .int .i64 1, .int .i64 (-1), .slice none 0 0] rfl rfl (World.news_of_block (cs := #[.string (T2 ++ { data := #[46, 106, 115, 111, 110] }), .int .i64 1, .int .i64 (-1), .slice none 0 0]) (t := 36) (fr := (0, 0)) (heap_2nd wr _ _)) (by simp [Value.oneCell']) (by omega) (by unfold maxLen; omega) (by omega) (by simp; omega) (wr.heap.size + 2) (by simp) ?_; intro g2 cap3 w4 hown4 hgrow4 hat4 hlt4; have HO4 := Lib.hid hown4; have HG4 := Lib.hid hgrow4; clear hown4 hgrow4 hat4 hlt4)
     go_roundw
     case rel =>
       refine ⟨k + 1, by omega, by go_num, ?_, ?_⟩
       · exact below_grown ((HB.out.alloc hwz _).alloc (by simp; omega) _) (by simp; omega) HG4.out (fun b hb => (HO.out.lt b hb).1)
       · have h4 := HO4.out
         rw [HT2.out, name_cat] at h4
         rw [pinsN_succ, List.flatMap_append]
         exact h4
     case measure => simp [intOf]; omega
   · obtain rfl : k = 257 := by omega
     go_wp2
     refine Eq.mpr (congrArg (fun a => K a wr) (frN_of _ rfl)) (HK.out _ wr ?_ HB.out HO.out)
     exact ⟨HF.out.h1, HF.out.h2, HF.out.h3, HF.out.h4⟩
end Go.Proofs.YtgghgcilpfdbjaaGreatDoor
