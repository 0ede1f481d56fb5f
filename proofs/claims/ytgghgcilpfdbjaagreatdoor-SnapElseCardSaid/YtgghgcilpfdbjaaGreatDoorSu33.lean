/- For a region in a drawn order 'v, e := pick.ObjectOf(append(members(x), y)...)': what each operation keeps. -/
import Derived.Test.YtgghgcilpfdbjaaGreatDoorSu13
import Derived.Test.YtgghgcilpfdbjaaGreatDoorSu32
import Derived.Test.YtgghgcilpfdbjaaGreatDoorSu19
import Derived.Test.YtgghgcilpfdbjaaGreatDoorSu29
import Derived.Test.YtgghgcilpfdbjaaGreatDoorSu02
import Derived.Test.YtgghgcilpfdbjaaGreatDoorSu21
import Derived.Test.YtgghgcilpfdbjaaGreatDoorSu23

namespace Go.Proofs.YtgghgcilpfdbjaaGreatDoor
open Go.RowKit Go.WideMaps Go.Maps
theorem wts_pt : ∀ (l l' : List JV), l'.length = l.length → (∀ j (h : j < l'.length) (h' : j < l.length), l'[j].wt ≤ l[j].wt) → JV.wts l' ≤ JV.wts l
 | [], [], _, _ => Nat.le_refl _
 | x :: r, y :: s, h, hp => by
   have h0 := hp 0 (by simp) (by simp)
   have h1 := wts_pt r s (by simpa using h) (fun j h1 h2 => by have := hp (j + 1) (by simpa using h1) (by simpa using h2); simpa using this)
   simp only [List.getElem_cons_zero] at h0
   rw [JV.wts, JV.wts]; omega
 | [], _ :: _, h, _ => by simp at h
 | _ :: _, [], h, _ => by simp at h
theorem WeakCopy.wt {v v' : JV} (h : WeakCopy v v') : v'.wt ≤ v.wt := by
 have := wts_pt v.items v'.items h.len (fun j h1 h2 => by
   rcases h.items j h1 h2 with e | ⟨e, _⟩
   · rw [e]; exact Nat.le_refl _
   · rw [e]; exact JV.wt_pos _)
 rw [JV.wt_eq, JV.wt_eq, h.t, h.names]; omega
theorem partsB_get (l : List JV) (j : Nat) (h : j < l.length) (hp : JV.partsB l = true) : l[j].partB = true := by
 cases hb : l[j].partB
 · rw [JV.partsB_bad l j h hb] at hp; cases hp
 · rfl
end Go.Proofs.YtgghgcilpfdbjaaGreatDoor

namespace Go.Proofs.YtgghgcilpfdbjaaGreatDoor
open Go.RowKit
theorem nil_bytes {t : ByteArray} (h : t.toList = []) : t = { data := #[] } := by
 rw [ByteArray.toList_eq] at h
 exact bytes_ext (by simpa using h)
theorem part_obj {x : JV} (h : x.partB = true) (hk : x.kind = 5) : (x.n = 0 ∧ x.t = { data := #[] }) ∧ x.names.length = x.items.length ∧ rises x.names = true ∧ ∀ y ∈ x.items, y.partB = true := by
 rw [JV.partB_eq, Bool.and_eq_true] at h
 obtain ⟨h1, h2⟩ := h
 rw [hk] at h1
 unfold properB at h1
 rw [if_neg (by decide), if_neg (by decide), if_neg (by decide), if_neg (by decide), if_pos rfl, Bool.and_eq_true, Bool.and_eq_true, decide_eq_true_eq] at h1
 obtain ⟨⟨⟨a, b, c⟩, d⟩, -⟩ := h1
 refine ⟨⟨a, nil_bytes b⟩, c, d, fun y hy => ?_⟩
 obtain ⟨i, hi, rfl⟩ := List.getElem_of_mem hy
 exact partsB_get _ i hi h2
theorem lookL_mem : ∀ {ns : List ByteArray} {xs : List JV} {y : ByteArray} {x : JV}, lookL ns xs y = some x → y ∈ ns ∧ x ∈ xs
 | n :: ns, z :: xs, y, x, h => by
   rw [lookL] at h
   split at h
   · rename_i e
     injection h with h
     subst h; subst e
     exact ⟨List.mem_cons_self .., List.mem_cons_self ..⟩
   · have := lookL_mem h
     exact ⟨List.mem_cons_of_mem _ this.1, List.mem_cons_of_mem _ this.2⟩
def PartW (v : JV) : Prop := v.kind = 5 ∧ (v.n = 0 ∧ v.t = { data := #[] }) ∧ rises v.names = true ∧ v.names.length = v.items.length ∧ ∀ x ∈ v.items, x.partB = true ∨ x = zeroJ
theorem partW_of {v : JV} (h : v.mayB = true) (hk : v.kind = 5) : PartW v := by
 rw [JV.mayB_iff] at h
 simp only [Bool.and_eq_true] at h
 obtain ⟨a, b, c, d⟩ := part_obj h.1.1 hk
 exact ⟨hk, a, c, b, fun x hx => .inl (d x hx)⟩
theorem lookW {v : JV} (h : PartW v) {y : ByteArray} {it : JV} (e : v.look y = some it) (hk : it.kind ≠ 0) : it.partB = true := by
 rcases h.2.2.2.2 it (lookL_mem e).2 with h | h
 · exact h
 · exact absurd (by rw [h]; rfl) hk
end Go.Proofs.YtgghgcilpfdbjaaGreatDoor

namespace Go.Proofs.YtgghgcilpfdbjaaGreatDoor
open Go.RowKit Go.WideMaps Go.Maps
def OfNPost (er : Int) (w : World) (e : Ending) (w' : World) : Prop := e = .returned (.tuple #[.agg #[.int .i64 0, .int .i64 0, .slice none 0 0], .int .i64 er]) ∧ Below w.heap.size w w'
set_option maxHeartbeats 4000000 in
set_option maxRecDepth 100000 in
theorem snapOfN' (v : JV) (x : Value) (er : Int) (her : er = if v.mayB then 10 else 3) (w : World) (hN : v.wt ≤ 4294967296) (hR : Rep w 0 w.heap.size v x) (hm : v.mayB = false ∨ v.kind ≠ 5) (hT : TabW w) :
   Calls Tryz.prog 34 #[x] w (OfNPost er w) := by
 obtain ⟨mb, hmb0⟩ : ∃ mb, mb = v.mayB := ⟨_, rfl⟩
 rw [← hmb0] at her hm
 have HER := Lib.hid her
 clear her
 obtain ⟨an, cn, ai, ci, hx, h1, h2, h3, h4⟩ := hR.parts
 clear h1 h2 h3 h4
 subst hx
 obtain ⟨W2, hW2⟩ : ∃ W2, W2 = (w.alloc (.cells #[.int .u8 v.kind, .int .i64 v.n, .string v.t, .slice an v.names.length cn, .slice ai v.items.length ci] 30)).alloc (.cells #[.int .i64 0, .int .i64 0, .slice none 0 0] 24) := ⟨_, rfl⟩
 have hz1 : (w.alloc (.cells #[.int .u8 v.kind, .int .i64 v.n, .string v.t, .slice an v.names.length cn, .slice ai v.items.length ci] 30)).heap.size = w.heap.size + 1 := by simp
 have hz2 : W2.heap.size = w.heap.size + 2 := by rw [hW2]; simp
 have hb2 : Below w.heap.size w W2 := by rw [hW2]; exact ((Below.refl _ _).alloc (Nat.le_refl _) _).alloc (by simp) _
 have hx0 : W2.heap[w.heap.size]? = some (.cells #[.int .u8 v.kind, .int .i64 v.n, .string v.t, .slice an v.names.length cn, .slice ai v.items.length ci] 30 (0, 0)) := by rw [hW2, Below.heap_alloc _ _ _ (by simp)]; exact heap_alloc_new w _
 have hr0 : W2.rowIs (w.heap.size + 1) 24 3 (pick3 (.int .i64 0) (.int .i64 0) (.slice none 0 0)) := by
   have := rowIs_box3 (w.alloc (.cells #[.int .u8 v.kind, .int .i64 v.n, .string v.t, .slice an v.names.length cn, .slice ai v.items.length ci] 30)) (.int .i64 0) (.int .i64 0) (.slice none 0 0) 24
   rw [hz1, ← hW2] at this
   exact this
 have HMY := Lib.hid (valueMay v _ W2 hN (hR.below hb2 (Nat.le_refl _) (Nat.zero_le _) hb2.size))
 rw [← hmb0] at HMY
 clear hmb0
 have HW := Lib.hid hW2
 have HB2 := Lib.hid hb2
 have HX0 := Lib.hid hx0
 have HR0 := Lib.hid hr0
 have HZ2 := Lib.hid hz2
 have HTW := Lib.hid hT
 clear hR hW2 hb2 hx0 hr0 hz1 hz2 hT
 have c0 : W2.cell? ⟨w.heap.size, 0, none⟩ = some (.int .u8 v.kind) := box_cell HX0.out rfl
 have c1 : W2.cell? ⟨w.heap.size, 1, none⟩ = some (.int .i64 v.n) := box_cell HX0.out rfl
 have c2 : W2.cell? ⟨w.heap.size, 2, none⟩ = some (.string v.t) := box_cell HX0.out rfl
 have c3 : W2.cell? ⟨w.heap.size, 3, none⟩ = some (.slice an v.names.length cn) := box_cell HX0.out rfl
 have c4 : W2.cell? ⟨w.heap.size, 4, none⟩ = some (.slice ai v.items.length ci) := box_cell HX0.out rfl
 go_enter Tryz.func34, Tryz.ntmps34
 go_upto_region 1 with fail
 rw [← HW.out]
 go_wp2_with fail
 refine HMY.out.mono ?_
 clear HMY c0 c1 c2 c3 c4
 rintro e w1 ⟨rfl, hb1⟩
 have hx1 := (hb1.block _ (heap_lt HX0.out)).trans HX0.out
 have HB1 := Lib.hid (HB2.out.trans (hb1.mono HB2.out.size))
 have HR1 := Lib.hid (below_row hb1 HR0.out HR0.out.lt)
 have HZ1 := Lib.hid (show w.heap.size + 2 ≤ w1.heap.size from by have := hb1.size; have := HZ2.out; omega)
 cases mb with
 | false =>
   obtain rfl : er = 3 := HER.out
   have hr := HR1.out
   have t0 := hr.cell (i := 0) (by decide); have t1 := hr.cell (i := 1) (by decide); have t2 := hr.cell (i := 2) (by decide)
   have s0 := hr.frozen 0; have s1 := hr.frozen 1; have s2 := hr.frozen 2
   simp only [pick3] at t0 t1 t2
   clear hr hb1 hx1 hm
   go_wp2
   refine bodyPost_ret (results_row_tmp Tryz.results34 _ _ (w.heap.size + 1) 24 _ (0, 0) _ rfl (row3_heap (set3 _ _ _ HR1.out)) Tryz.underlying24 rfl (by kernel_rfl) _ rfl) rfl ?_
   exact ⟨rfl, below3 _ _ _ HB1.out (by omega)⟩
 | true =>
   obtain rfl : er = 10 := HER.out
   have hk : v.kind ≠ 5 := hm.resolve_left (by decide)
   have c0 : w1.cell? ⟨w.heap.size, 0, none⟩ = some (.int .u8 v.kind) := box_cell hx1 rfl
   have c1 : w1.cell? ⟨w.heap.size, 1, none⟩ = some (.int .i64 v.n) := box_cell hx1 rfl
   have c2 : w1.cell? ⟨w.heap.size, 2, none⟩ = some (.string v.t) := box_cell hx1 rfl
   have c3 : w1.cell? ⟨w.heap.size, 3, none⟩ = some (.slice an v.names.length cn) := box_cell hx1 rfl
   have c4 : w1.cell? ⟨w.heap.size, 4, none⟩ = some (.slice ai v.items.length ci) := box_cell hx1 rfl
   have HOF1 := Lib.hid (pickOf_bad v.kind v.n v.t (.slice an v.names.length cn) (.slice ai v.items.length ci) w1 hk)
   clear hb1 hx1 hm hk
   go_wp2_with fail
   refine HOF1.out.mono ?_
   clear HOF1 c0 c1 c2 c3 c4
   rintro e w2 ⟨o, rfl, ho1, ho2, hpb, hb2⟩
   obtain ⟨p, hp⟩ : ∃ p, p = w2.heap.size := ⟨_, rfl⟩
   obtain ⟨W3, hW3⟩ : ∃ W3, W3 = w2.alloc (.cells #[.int .i64 0, .int .i64 0, .slice none 0 0] 24) := ⟨_, rfl⟩
   have hb3 : Below w2.heap.size w2 W3 := by rw [hW3]; exact (Below.refl _ _).alloc (Nat.le_refl _) _
   have hq3 : W3.rowIs p 24 3 (pick3 (.int .i64 0) (.int .i64 0) (.slice none 0 0)) := by rw [hW3, hp]; exact rowIs_box3 _ _ _ _ _
   have HNE := Lib.hid (show o ≠ p from by omega)
   have HP3 := Lib.hid (hpb.below hb3 ho2)
   have HR3 := Lib.hid (below_row (hb2.trans (hb3.mono hb2.size)) HR1.out HR1.out.lt)
   have HB3 := Lib.hid (HB1.out.trans ((hb2.trans (hb3.mono hb2.size)).mono (by have := HZ1.out; omega)))
   have HQ3 := Lib.hid hq3
   have HW3 := Lib.hid hW3
   have HPE := Lib.hid hp
   have HZ3 := Lib.hid (show w.heap.size + 2 ≤ o ∧ w.heap.size + 2 ≤ p ∧ o < W3.heap.size ∧ p < W3.heap.size from ⟨by have := HZ1.out; omega, by have := HZ1.out; have := hb2.size; omega, Nat.lt_of_lt_of_le ho2 hb3.size, hq3.lt⟩)
   clear ho1 ho2 hpb hb2 hW3 hb3 hq3 hp
   go_upto_region 5 with fail
   rw [← HW3.out, ← HPE.out]
   go_wp2_with fail
   refine (snapParts W3).mono ?_
   rintro e w4 ⟨bp, rfl, hbp, hbz, hb4⟩
   have HP4 := Lib.hid (HP3.out.below hb4 HZ3.out.2.2.1)
   have HR4 := Lib.hid (below_row hb4 HR3.out HR3.out.lt)
   have HQ4 := Lib.hid (below_row hb4 HQ3.out HQ3.out.lt)
   have HBW4 := Lib.hid (HB3.out.trans (hb4.mono HB3.out.size))
   have HBP := Lib.hid hbp
   have HZ := Lib.hid (show w.heap.size + 2 ≤ o ∧ w.heap.size + 2 ≤ p ∧ o < bp ∧ p < bp ∧ bp < w4.heap.size ∧ w.heap.size ≤ w4.heap.size ∧ o < w4.heap.size from by have := HZ3.out; have := heap_lt hbp; have := HBW4.out.size; omega)
   clear hbp hbz hb4 HP3 HR3 HQ3 HB3
   go_wp2
   go_loopw [7, 17] (fun _ i wr => Touch (fun b => b = p) w4 wr ∧ PickBad o 10 wr ∧ wr.rowIs p 24 3 (pick3 (.int .i64 0) (.int .i64 0) (.slice none 0 0)) ∧ (i = .int .i64 0 ∨ i = .int .i64 1 ∨ i = .int .i64 2 ∨ i = .int .i64 3 ∨ i = .int .i64 4)) (fun _ i _ => 4 - (intOf i).toNat)
   case atStart => exact ⟨Touch.refl _ _, HP4.out, HQ4.out, .inl rfl⟩
   case round =>
     obtain ⟨ht, hp, hrw, hcase⟩ := hrel
     have HTr := Lib.hid ht
     have HBr := Lib.hid ((ht.block bp (by have := HZ.out; omega) (fun h => by have := HZ.out; omega)).trans HBP.out)
     clear ht
     rcases hcase with rfl | rfl | rfl | rfl | rfl
     · have HPr := Lib.hid hp
       have HRr := Lib.hid hrw
       obtain ⟨W7, hW7⟩ : ∃ W7, W7 = wr.alloc (.cells #[.func (.func 113) #[] #[]] 105) := ⟨_, rfl⟩
       have hb7 : Below wr.heap.size wr W7 := by rw [hW7]; exact (Below.refl _ _).alloc (Nat.le_refl _) _
       have hx7 : W7.heap[wr.heap.size]? = some (.cells #[.func (.func 113) #[] #[]] 105 (0, 0)) := by rw [hW7]; exact heap_alloc_new wr _
       have hoz : o < wr.heap.size := Nat.lt_of_lt_of_le (show o < w4.heap.size by have := HZ.out; omega) HTr.out.size
       have HP7 := Lib.hid (hp.below hb7 hoz)
       have HR7 := Lib.hid (below_row hb7 hrw hrw.lt)
       have HB7 := Lib.hid hb7
       have y0 : W7.cell? ⟨wr.heap.size, 0, none⟩ = some (.func (.func 113) #[] #[]) := box_cell hx7 rfl
       have HW7 := Lib.hid hW7
       have z0 : wr.cell? ⟨bp, 0, none⟩ = some (.func (.func 113) #[] #[]) := box_cell HBr.out rfl
       have HC := Lib.hid (parseTypeBad o p W7 HP7.out HR7.out)
       clear hb7 hx7 hW7 hp hrw hoz
       go_upto_region 8 with fail
       rw [← HW7.out]
       clear z0
       go_wp2_with fail
       refine HC.out.mono ?_
       clear HC y0
       rintro r w8 ⟨rfl, h8, hr8, ht8⟩
       have HT8 := Lib.hid (show Touch (fun b => b = p) w4 w8 from HTr.out.trans ((Touch.of_below HB7.out (Nat.le_refl _)).trans ht8))
       have H8 := Lib.hid h8
       have HR8 := Lib.hid hr8
       clear h8 ht8 hr8
       go_wp2
       go_roundw
       case rel => exact ⟨HT8.out, H8.out, HR8.out, .inr (.inl rfl)⟩
       case measure => simp [intOf]
     · have HPr := Lib.hid hp
       have HRr := Lib.hid hrw
       obtain ⟨W7, hW7⟩ : ∃ W7, W7 = wr.alloc (.cells #[.func (.func 114) #[] #[]] 105) := ⟨_, rfl⟩
       have hb7 : Below wr.heap.size wr W7 := by rw [hW7]; exact (Below.refl _ _).alloc (Nat.le_refl _) _
       have hx7 : W7.heap[wr.heap.size]? = some (.cells #[.func (.func 114) #[] #[]] 105 (0, 0)) := by rw [hW7]; exact heap_alloc_new wr _
       have hoz : o < wr.heap.size := Nat.lt_of_lt_of_le (show o < w4.heap.size by have := HZ.out; omega) HTr.out.size
       have HP7 := Lib.hid (hp.below hb7 hoz)
       have HR7 := Lib.hid (below_row hb7 hrw hrw.lt)
       have HB7 := Lib.hid hb7
       have y0 : W7.cell? ⟨wr.heap.size, 0, none⟩ = some (.func (.func 114) #[] #[]) := box_cell hx7 rfl
       have HW7 := Lib.hid hW7
       have z0 : wr.cell? ⟨bp, 1, none⟩ = some (.func (.func 114) #[] #[]) := box_cell HBr.out rfl
       have HC := Lib.hid (parseVersionBad o p W7 HP7.out (Nat.lt_of_lt_of_le hoz hb7.size) HNE.out HR7.out)
       clear hb7 hx7 hW7 hp hrw hoz
       go_upto_region 8 with fail
       rw [← HW7.out]
       clear z0
       go_wp2_with fail
       refine HC.out.mono ?_
       clear HC y0
       rintro r w8 ⟨rfl, h8, hr8, ht8⟩
       have HT8 := Lib.hid (show Touch (fun b => b = p) w4 w8 from HTr.out.trans ((Touch.of_below HB7.out (Nat.le_refl _)).trans ht8))
       have H8 := Lib.hid h8
       have HR8 := Lib.hid hr8
       clear h8 ht8 hr8
       go_wp2
       go_roundw
       case rel => exact ⟨HT8.out, H8.out, HR8.out, .inr (.inr (.inl rfl))⟩
       case measure => simp [intOf]
     · have HPr := Lib.hid hp
       have HRr := Lib.hid hrw
       obtain ⟨W7, hW7⟩ : ∃ W7, W7 = wr.alloc (.cells #[.func (.func 115) #[] #[]] 105) := ⟨_, rfl⟩
       have hb7 : Below wr.heap.size wr W7 := by rw [hW7]; exact (Below.refl _ _).alloc (Nat.le_refl _) _
       have hx7 : W7.heap[wr.heap.size]? = some (.cells #[.func (.func 115) #[] #[]] 105 (0, 0)) := by rw [hW7]; exact heap_alloc_new wr _
       have hoz : o < wr.heap.size := Nat.lt_of_lt_of_le (show o < w4.heap.size by have := HZ.out; omega) HTr.out.size
       have HP7 := Lib.hid (hp.below hb7 hoz)
       have HR7 := Lib.hid (below_row hb7 hrw hrw.lt)
       have HB7 := Lib.hid hb7
       have y0 : W7.cell? ⟨wr.heap.size, 0, none⟩ = some (.func (.func 115) #[] #[]) := box_cell hx7 rfl
       have HW7 := Lib.hid hW7
       have z0 : wr.cell? ⟨bp, 2, none⟩ = some (.func (.func 115) #[] #[]) := box_cell HBr.out rfl
       have HC := Lib.hid (parseExpiresBad o p W7 HP7.out (Nat.lt_of_lt_of_le hoz hb7.size) HNE.out HR7.out (HTW.out.below (HBW4.out.trans ((HTr.out.below (B := w.heap.size) (by have := HZ.out; omega) (fun k hk e => by have := HZ.out; omega)).trans (hb7.mono (by have := HZ.out; have := HTr.out.size; omega))))))
       clear hb7 hx7 hW7 hp hrw hoz
       go_upto_region 8 with fail
       rw [← HW7.out]
       clear z0
       go_wp2_with fail
       refine HC.out.mono ?_
       clear HC y0
       rintro r w8 ⟨rfl, h8, hr8, ht8⟩
       have HT8 := Lib.hid (show Touch (fun b => b = p) w4 w8 from HTr.out.trans ((Touch.of_below HB7.out (Nat.le_refl _)).trans ht8))
       have H8 := Lib.hid h8
       have HR8 := Lib.hid hr8
       clear h8 ht8 hr8
       go_wp2
       go_roundw
       case rel => exact ⟨HT8.out, H8.out, HR8.out, .inr (.inr (.inr (.inl rfl)))⟩
       case measure => simp [intOf]
     · have HPr := Lib.hid hp
       have HRr := Lib.hid hrw
       obtain ⟨W7, hW7⟩ : ∃ W7, W7 = wr.alloc (.cells #[.func (.func 116) #[] #[]] 105) := ⟨_, rfl⟩
       have hb7 : Below wr.heap.size wr W7 := by rw [hW7]; exact (Below.refl _ _).alloc (Nat.le_refl _) _
       have hx7 : W7.heap[wr.heap.size]? = some (.cells #[.func (.func 116) #[] #[]] 105 (0, 0)) := by rw [hW7]; exact heap_alloc_new wr _
       have hoz : o < wr.heap.size := Nat.lt_of_lt_of_le (show o < w4.heap.size by have := HZ.out; omega) HTr.out.size
       have HP7 := Lib.hid (hp.below hb7 hoz)
       have HR7 := Lib.hid (below_row hb7 hrw hrw.lt)
       have HB7 := Lib.hid hb7
       have y0 : W7.cell? ⟨wr.heap.size, 0, none⟩ = some (.func (.func 116) #[] #[]) := box_cell hx7 rfl
       have HW7 := Lib.hid hW7
       have z0 : wr.cell? ⟨bp, 3, none⟩ = some (.func (.func 116) #[] #[]) := box_cell HBr.out rfl
       have HC := Lib.hid (parseMetaBad o p W7 HP7.out (Nat.lt_of_lt_of_le hoz hb7.size) HR7.out)
       clear hb7 hx7 hW7 hp hrw hoz
       go_upto_region 8 with fail
       rw [← HW7.out]
       clear z0
       go_wp2_with fail
       refine HC.out.mono ?_
       clear HC y0
       rintro r w8 ⟨rfl, h8, hr8, ht8⟩
       have HT8 := Lib.hid (show Touch (fun b => b = p) w4 w8 from HTr.out.trans ((Touch.of_below HB7.out (Nat.le_refl _)).trans ht8))
       have H8 := Lib.hid h8
       have HR8 := Lib.hid hr8
       clear h8 ht8 hr8
       go_wp2
       go_roundw
       case rel => exact ⟨HT8.out, H8.out, HR8.out, .inr (.inr (.inr (.inr rfl)))⟩
       case measure => simp [intOf]
     · obtain ⟨h0, h6, k, h60⟩ := hp
       have HDO := Lib.hid (doneErr o 10 k wr h0 h6 h60)
       have hr := HTr.out.row HR4.out (by have := HZ.out; omega)
       have HRR := Lib.hid hr
       have HBE := Lib.hid (HBW4.out.trans (HTr.out.below (B := w.heap.size) (by have := HZ.out; omega) (fun k hk e => by have := HZ.out; omega)))
       have t0 := hr.cell (i := 0) (by decide); have t1 := hr.cell (i := 1) (by decide); have t2 := hr.cell (i := 2) (by decide)
       have s0 := hr.frozen 0; have s1 := hr.frozen 1; have s2 := hr.frozen 2
       simp only [pick3] at t0 t1 t2
       clear hrw hr h0 h6 h60
       go_wp2_with fail
       refine HDO.out.mono ?_
       clear HDO
       rintro e w' ⟨rfl, h'⟩
       subst h'
       go_wp2
       refine bodyPost_ret (results_row_tmp Tryz.results34 _ _ (w.heap.size + 1) 24 _ (0, 0) _ rfl (row3_heap (set3 _ _ _ HRR.out)) Tryz.underlying24 rfl (by kernel_rfl) _ rfl) rfl ?_
       exact ⟨rfl, below3 _ _ _ HBE.out (by omega)⟩
theorem snapOfN (v : JV) (x : Value) (w : World) (hN : v.wt ≤ 4294967296) (hR : Rep w 0 w.heap.size v x) (hm : v.mayB = false ∨ v.kind ≠ 5) (hT : TabW w) :
   Calls Tryz.prog 34 #[x] w (OfNPost (if v.mayB then 10 else 3) w) := snapOfN' v x _ rfl w hN hR hm hT
def snapOfA (v : JV) : SnapV × Int := if v.mayB = false then (snapZ, 3) else if v.kind ≠ 5 then (snapZ, 10) else snapOfK v
theorem stM_names {u : JV} (h : PartW u) : (stM u).1.names.length = (stM u).1.items.length := by
 unfold stM pickObj
 split
 · rfl
 · split
   · rfl
   · rename_i it hit
     split
     · rfl
     · split
       · rfl
       · rename_i hk _
         have hk5 : it.kind = 5 := by simpa using hk
         exact (part_obj (lookW h hit (by rw [hk5]; decide)) hk5).2.1
theorem snapOfOwn (v : JV) (x : Value) (w : World) (lo : Nat) (hlo : 0 < lo) (hN : v.wt ≤ 4294967296) (hR : Rep w lo w.heap.size v x) (hT : TabW w) :
   Calls Tryz.prog 34 #[x] w (fun e w' => ∃ qs a c, e = .returned (.tuple #[.agg #[.int .i64 (snapOfA v).1.ver, .int .i64 (snapOfA v).1.exp, .slice a (snapOfA v).1.pins.length c], .int .i64 (snapOfA v).2]) ∧ PinsOwn w.heap.size w' (.slice a (snapOfA v).1.pins.length c) qs ∧ qs.map (·.1) = (snapOfA v).1.pins ∧ Below w.heap.size w w') := by
 have hR0 := hR.carry (lo' := 0) (hi' := w.heap.size) (Nat.zero_le _) (Nat.le_refl _) (fun _ _ _ => rfl)
 by_cases hm : v.mayB = false ∨ v.kind ≠ 5
 · refine (snapOfN v x w hN hR0 hm hT).mono ?_
   rintro e w' ⟨rfl, hb⟩
   have e1 : snapOfA v = (snapZ, if v.mayB then 10 else 3) := by
     unfold snapOfA
     cases h : v.mayB with
     | false => rfl
     | true => rw [if_neg (by decide), if_pos (hm.resolve_left (by rw [h]; decide))]; rfl
   rw [e1]
   exact ⟨[], none, 0, rfl, PinsOwn.nil _ _, rfl, hb⟩
 · have hmb : v.mayB = true := by cases h : v.mayB with | true => rfl | false => exact absurd (.inl h) hm
   have hk : v.kind = 5 := Classical.byContradiction fun h => hm (.inr h)
   have hp := partW_of hmb hk
   refine (snapOfG (fun u => u = v) v x w hN hR0 hmb hk hT (fun u hu => by rw [hu]; exact stM_names hp) (fun w1 hb => (pickOf_good v x w1 lo w.heap.size hN hb.size (hR.below hb (Nat.le_refl _) (Nat.le_refl _) (Nat.le_refl _)) hk hp.2.2.1 hp.2.2.2.1 (fun _ _ => .inl hlo)).mono fun e w' h => ⟨v, rfl, h⟩)).mono ?_
   rintro e w' ⟨u, qs, a, c, rfl, rfl, ho, hq, hb⟩
   have e1 : snapOfA u = snapOfK u := by unfold snapOfA; rw [if_neg (by rw [hmb]; decide), if_neg (by simp [hk])]
   rw [e1]
   exact ⟨qs, a, c, rfl, ho, hq, hb⟩
end Go.Proofs.YtgghgcilpfdbjaaGreatDoor

namespace Go.Proofs.YtgghgcilpfdbjaaGreatDoor
open Go.RowKit
theorem snapA_err {v : JV} (hm : v.mayB = true) (hk : v.kind = 5) : snapOfA v = snapOfK v := by
 unfold snapOfA
 rw [if_neg (by rw [hm]; decide), if_neg (by simp [hk])]
theorem metaG_keeps : ∀ (ns : List ByteArray) (xs : List JV) (st : PS) (acc : List PinV), st.err ≠ 0 → (metaG ns xs st acc).2.err = st.err
 | [], xs, st, acc, _ => by simp [metaG]
 | n :: r, [], st, acc, _ => by simp [metaG]
 | n :: r, x :: xs, st, acc, h => by
   simp only [metaG]
   split
   · show (st.fail _).err = st.err
     unfold PS.fail
     rw [if_neg h]
   · exact metaG_keeps r xs st _ h
theorem fail_keeps {st : PS} {e : Int} (h : st.err ≠ 0) : st.fail e = st := by unfold PS.fail; rw [if_neg h]
theorem num_keeps {v : JV} {y : ByteArray} {lo hi : Int} {st : PS} (h : st.err ≠ 0) : (pickNum v y lo hi st).2 = st := by unfold pickNum; rw [if_pos h]
theorem text_keeps {v : JV} {y : ByteArray} {st : PS} (h : st.err ≠ 0) : (pickText v y st).2 = st := by unfold pickText; rw [if_pos h]
theorem obj_keeps {v : JV} {y : ByteArray} {n : Nat} {st : PS} (h : st.err ≠ 0) : (pickObj v y n st).2 = st := by unfold pickObj; rw [if_pos h]
theorem done_err {v : JV} {st : PS} (h : st.err ≠ 0) : pickDone v st = st.err := by unfold pickDone; rw [if_pos h]
theorem snapK_bad {u : JV} {er : Int} (h0 : er ≠ 0) (h : (stM u).2.err = er) : snapOfK u = (snapZ, er) := by
 have h1 : (stG u).2.err = er := by unfold stG; rw [metaG_keeps _ _ _ _ (by rw [h]; exact h0), h]
 have h2 : pickDone u (stG u).2 = er := by rw [done_err (by rw [h1]; exact h0), h1]
 unfold snapOfK
 rw [h2, if_pos h0]
theorem stM_ty {u : JV} {er : Int} (h0 : er ≠ 0) (h : (tyS u ⟨[], 0⟩).err = er) : (stM u).2.err = er := by
 have e1 : (stB u).2 = tyS u ⟨[], 0⟩ := num_keeps (by rw [h]; exact h0)
 have e2 : (stC u).2 = tyS u ⟨[], 0⟩ := by unfold stC; rw [text_keeps (by rw [e1, h]; exact h0), e1]
 unfold stM
 rw [e2, fail_keeps (by rw [h]; exact h0), obj_keeps (by rw [h]; exact h0), h]
theorem stM_ver {u : JV} {er : Int} (h0 : er ≠ 0) (h : (stB u).2.err = er) : (stM u).2.err = er := by
 have e2 : (stC u).2 = (stB u).2 := by unfold stC; exact text_keeps (by rw [h]; exact h0)
 unfold stM
 rw [e2, fail_keeps (by rw [h]; exact h0), obj_keeps (by rw [h]; exact h0), h]
theorem stM_exp {u : JV} {er : Int} (h0 : er ≠ 0) (h : (stC u).2.err = er) : (stM u).2.err = er := by
 unfold stM
 rw [fail_keeps (by rw [h]; exact h0), obj_keeps (by rw [h]; exact h0), h]
structure SnapLike (u : JV) (s : SnapV) : Prop where
 ty : u.look typN = some (txtJ snpN)
 ver : u.look verN = some (numJ s.ver)
 exp : u.look expN = some (txtJ (dateB s.exp))
 met : u.look metN = some (metaJ s.pins)
theorem ty_ok {u : JV} (h : u.look typN = some (txtJ snpN)) : tyS u ⟨[], 0⟩ = ⟨[typN], 0⟩ := by
 unfold tyS
 rw [pickText_ok h, if_neg (by simp)]
theorem ver_ok {u : JV} {s : SnapV} (hm : maySnap s = true) (ht : tyS u ⟨[], 0⟩ = ⟨[typN], 0⟩) (h : u.look verN = some (numJ s.ver)) : stB u = (s.ver, ⟨[verN, typN], 0⟩) := by
 obtain ⟨hv, _, _, _, _⟩ := maySnap_parts.1 hm
 unfold stB
 rw [ht]
 exact pickNum_ok h hv.1 hv.2
theorem exp_ok {u : JV} {s : SnapV} (hb : stB u = (s.ver, ⟨[verN, typN], 0⟩)) (h : u.look expN = some (txtJ (dateB s.exp))) : stC u = (dateB s.exp, ⟨[expN, verN, typN], 0⟩) := by
 unfold stC
 rw [hb]
 exact pickText_ok h
theorem snap_more {u : JV} {s : SnapV} (hm : maySnap s = true) (hl : SnapLike u s) {x : ByteArray} (hx : x ∈ u.names) (hn : x ≠ typN ∧ x ≠ expN ∧ x ≠ metN ∧ x ≠ verN) : snapOfK u = (snapZ, 11) := by
 obtain ⟨hv, he, hl5, ha, hr⟩ := maySnap_parts.1 hm
 have e1 := ty_ok hl.ty
 have e2 := ver_ok hm e1 hl.ver
 have e3 := exp_ok e2 hl.exp
 have e4 : stR u = (s.exp, 0) := by unfold stR; rw [e3]; exact (date_txt he).2
 have e5 : stM u = (metaJ s.pins, ⟨[metN, expN, verN, typN], 0⟩) := by
   unfold stM
   rw [e3, e4]
   unfold pickObj
   show (if ((⟨[expN, verN, typN], 0⟩ : PS).fail 0).err ≠ 0 then _ else _) = _
   rw [if_neg (by simp [PS.fail]), hl.met]
   have h5 : (metaJ s.pins).items.length = s.pins.length := List.length_map ..
   show (if (metaJ s.pins).kind ≠ 5 then _ else if 256 < (metaJ s.pins).items.length then _ else _) = _
   rw [if_neg (by simp [metaJ, JV.kind]), if_neg (by omega)]
   rfl
 have e6 : stG u = (s.pins, ⟨[metN, expN, verN, typN], 0⟩) := by
   unfold stG
   rw [e5]
   exact meta_back s.pins [] _ ha
 have e7 : pickDone u (stG u).2 = 11 := by
   rw [e6]
   unfold pickDone
   rw [if_neg (by simp), if_neg]
   intro h
   have := List.all_eq_true.1 h x hx
   obtain ⟨a, ha, e⟩ := List.any_eq_true.1 this
   simp only [decide_eq_true_eq] at e
   subst e
   simp only [List.mem_cons, List.not_mem_nil, or_false] at ha
   rcases ha with h | h | h | h
   · exact hn.2.2.1 h
   · exact hn.2.1 h
   · exact hn.2.2.2 h
   · exact hn.1 h
 unfold snapOfK
 rw [e7, if_pos (by decide)]
theorem ty_none {u : JV} (h : u.look typN = none) : (tyS u ⟨[], 0⟩).err = 6 := by
 have e : pickText u typN ⟨[], 0⟩ = ({ data := #[] }, ⟨[], 6⟩) := by unfold pickText; rw [if_neg (by simp), h]
 unfold tyS
 rw [e, if_pos (by decide)]
 rfl
theorem ver_none {u : JV} (ht : tyS u ⟨[], 0⟩ = ⟨[typN], 0⟩) (h : u.look verN = none) : (stB u).2.err = 6 := by
 unfold stB pickNum
 rw [ht, if_neg (by simp), h]
theorem exp_none {u : JV} {s : SnapV} (hb : stB u = (s.ver, ⟨[verN, typN], 0⟩)) (h : u.look expN = none) : (stC u).2.err = 6 := by
 unfold stC pickText
 rw [hb, if_neg (by simp), h]
theorem met_state {u : JV} {s : SnapV} (hm : maySnap s = true) (hc : stC u = (dateB s.exp, ⟨[expN, verN, typN], 0⟩)) : (stC u).2.fail (stR u).2 = ⟨[expN, verN, typN], 0⟩ := by
 obtain ⟨_, he, _, _, _⟩ := maySnap_parts.1 hm
 have e4 : stR u = (s.exp, 0) := by unfold stR; rw [hc]; exact (date_txt he).2
 rw [hc, e4]; rfl
theorem met_none {u : JV} {s : SnapV} (hm : maySnap s = true) (hc : stC u = (dateB s.exp, ⟨[expN, verN, typN], 0⟩)) (h : u.look metN = none) : (stM u).2.err = 6 := by
 unfold stM
 rw [met_state hm hc]
 unfold pickObj
 rw [if_neg (by simp), h]
theorem snap_less {s : SnapV} (hm : maySnap s = true) (k : Nat) (hk : k < 4) : snapOfA (objJ ((snapM s).eraseIdx k)) = (snapZ, 6) := by
 obtain ⟨hv, he, hl, ha, hr⟩ := maySnap_parts.1 hm
 obtain ⟨a, b, c⟩ := metaJ_ok ha hl hr
 obtain ⟨n1, n2, n3, n4, n5, n6, n7⟩ := names_txt
 obtain ⟨_, _, x1, x2, x3, x4, x5, x6⟩ := names_ne
 have d1 := txtJ_cd snpN
 have d2 := txtJ_cd (dateB s.exp)
 have d3 := numJ_cd s.ver
 have hp : ∀ q ∈ snapM s, txtOk q.1 = true ∧ q.2.partB = true ∧ q.2.depth ≤ 3 ∧ q.2.count ≤ 4097 := fun q hq => by
   simp only [snapM, List.mem_cons, List.not_mem_nil, or_false] at hq
   rcases hq with rfl | rfl | rfl | rfl
   · exact ⟨n4, txtJ_part n7, Nat.le_trans (Nat.le_of_eq d1.2) (by decide), Nat.le_trans (Nat.le_of_eq d1.1) (by decide)⟩
   · exact ⟨n5, txtJ_part (date_txt he).1, Nat.le_trans (Nat.le_of_eq d2.2) (by decide), Nat.le_trans (Nat.le_of_eq d2.1) (by decide)⟩
   · exact ⟨n6, a, c, b⟩
   · exact ⟨n3, numJ_part _, Nat.le_trans (Nat.le_of_eq d3.2) (by decide), Nat.le_trans (Nat.le_of_eq d3.1) (by decide)⟩
 have hin : ∀ q ∈ (snapM s).eraseIdx k, q ∈ snapM s := fun q hq => List.mem_of_mem_eraseIdx hq
 have hri : rises (((snapM s).eraseIdx k).map (·.1)) = true := by
   have r0 : rises [expN, metN, verN] = true := by kernel_rfl
   have r1 : rises [typN, metN, verN] = true := by kernel_rfl
   have r2 : rises [typN, expN, verN] = true := by kernel_rfl
   have r3 : rises [typN, expN, metN] = true := by kernel_rfl
   match k, hk with
   | 0, _ => exact r0
   | 1, _ => exact r1
   | 2, _ => exact r2
   | 3, _ => exact r3
 have hpart : (objJ ((snapM s).eraseIdx k)).partB = true := objJ_part ⟨hri, fun q hq => ⟨(hp q (hin q hq)).1, (hp q (hin q hq)).2.1⟩⟩
 have hdep : (objJ ((snapM s).eraseIdx k)).depth ≤ 4 := objJ_depth 3 fun q hq => (hp q (hin q hq)).2.2.1
 have hcnt : (objJ ((snapM s).eraseIdx k)).count ≤ 8192 := by
   rw [JV.count_eq]
   match k, hk with
   | 0, _ => show 1 + JV.counts [txtJ (dateB s.exp), metaJ s.pins, numJ s.ver] ≤ _; simp only [JV.counts, d2.1, d3.1]; omega
   | 1, _ => show 1 + JV.counts [txtJ snpN, metaJ s.pins, numJ s.ver] ≤ _; simp only [JV.counts, d1.1, d3.1]; omega
   | 2, _ => show 1 + JV.counts [txtJ snpN, txtJ (dateB s.exp), numJ s.ver] ≤ _; simp only [JV.counts, d1.1, d2.1, d3.1]; omega
   | 3, _ => show 1 + JV.counts [txtJ snpN, txtJ (dateB s.exp), metaJ s.pins] ≤ _; simp only [JV.counts, d1.1, d2.1]; omega
 have hmay : (objJ ((snapM s).eraseIdx k)).mayB = true := by rw [JV.mayB_iff, hpart, decide_eq_true hcnt, decide_eq_true (by omega)]; rfl
 rw [snapA_err hmay rfl]
 refine snapK_bad (by decide) ?_
 match k, hk with
 | 0, _ =>
   refine stM_ty (by decide) (ty_none ?_)
   show lookL [expN, metN, verN] [txtJ (dateB s.exp), metaJ s.pins, numJ s.ver] typN = none
   simp [lookL, Ne.symm x1, Ne.symm x2, Ne.symm x3]
 | 1, _ =>
   have e1 : (objJ ((snapM s).eraseIdx 1)).look typN = some (txtJ snpN) := by show lookL [typN, metN, verN] [txtJ snpN, metaJ s.pins, numJ s.ver] typN = _; simp [lookL]
   have e2 : (objJ ((snapM s).eraseIdx 1)).look verN = some (numJ s.ver) := by show lookL [typN, metN, verN] [txtJ snpN, metaJ s.pins, numJ s.ver] verN = _; simp [lookL, x3, x6]
   refine stM_exp (by decide) (exp_none (ver_ok hm (ty_ok e1) e2) ?_)
   show lookL [typN, metN, verN] [txtJ snpN, metaJ s.pins, numJ s.ver] expN = none
   simp [lookL, x1, Ne.symm x4, Ne.symm x5]
 | 2, _ =>
   have e1 : (objJ ((snapM s).eraseIdx 2)).look typN = some (txtJ snpN) := by show lookL [typN, expN, verN] [txtJ snpN, txtJ (dateB s.exp), numJ s.ver] typN = _; simp [lookL]
   have e2 : (objJ ((snapM s).eraseIdx 2)).look verN = some (numJ s.ver) := by show lookL [typN, expN, verN] [txtJ snpN, txtJ (dateB s.exp), numJ s.ver] verN = _; simp [lookL, x3, x5]
   have e3 : (objJ ((snapM s).eraseIdx 2)).look expN = some (txtJ (dateB s.exp)) := by show lookL [typN, expN, verN] [txtJ snpN, txtJ (dateB s.exp), numJ s.ver] expN = _; simp [lookL, x1]
   refine met_none hm (exp_ok (ver_ok hm (ty_ok e1) e2) e3) ?_
   show lookL [typN, expN, verN] [txtJ snpN, txtJ (dateB s.exp), numJ s.ver] metN = none
   simp [lookL, x2, x4, Ne.symm x6]
 | 3, _ =>
   have e1 : (objJ ((snapM s).eraseIdx 3)).look typN = some (txtJ snpN) := by show lookL [typN, expN, metN] [txtJ snpN, txtJ (dateB s.exp), metaJ s.pins] typN = _; simp [lookL]
   refine stM_ver (by decide) (ver_none (ty_ok e1) ?_)
   show lookL [typN, expN, metN] [txtJ snpN, txtJ (dateB s.exp), metaJ s.pins] verN = none
   simp [lookL, x3, x5, x6]
theorem txtJ_partB (t : ByteArray) : (txtJ t).partB = txtOk t := by
 rw [JV.partB_eq]
 show (properB 3 0 t [] 0 && JV.partsB []) = _
 unfold properB
 rw [if_neg (by decide), if_neg (by decide), if_pos rfl]
 simp [JV.partsB]
theorem txtJ_mayB (t : ByteArray) : (txtJ t).mayB = txtOk t := by
 have h := txtJ_cd t
 rw [JV.mayB_iff, txtJ_partB, h.1, h.2]
 simp
theorem partsB_mem {l : List JV} {x : JV} (hx : x ∈ l) (h : x.partB = false) : JV.partsB l = false := by
 obtain ⟨i, hi, rfl⟩ := List.getElem_of_mem hx
 exact JV.partsB_bad l i hi h
theorem ty_kind {u : JV} {t : ByteArray} (h : u.look typN = some (txtJ t)) (hn : t ≠ snpN) : (tyS u ⟨[], 0⟩).err = 13 := by
 unfold tyS
 rw [pickText_ok h, if_pos hn]
 rfl
theorem ver_kind {u : JV} {t : ByteArray} (ht : tyS u ⟨[], 0⟩ = ⟨[typN], 0⟩) (h : u.look verN = some (txtJ t)) : (stB u).2.err = 10 := by
 unfold stB pickNum
 rw [ht, if_neg (by simp), h]
 show (if (txtJ t).kind ≠ 2 then _ else _ : Int × PS).2.err = 10
 rw [if_pos (by simp [txtJ, JV.kind])]
theorem met_kind {u : JV} {s : SnapV} {t : ByteArray} (hm : maySnap s = true) (hc : stC u = (dateB s.exp, ⟨[expN, verN, typN], 0⟩)) (h : u.look metN = some (txtJ t)) : (stM u).2.err = 10 := by
 unfold stM
 rw [met_state hm hc]
 unfold pickObj
 rw [if_neg (by simp), h]
 show (if (txtJ t).kind ≠ 5 then _ else _ : JV × PS).2.err = 10
 rw [if_pos (by simp [txtJ, JV.kind])]
def turnM (s : SnapV) (k : Nat) (t : ByteArray) : List NJ := (snapM s).set k ((snapM s)[k]?.elim { data := #[] } (·.1), txtJ t)
theorem turn_bad {s : SnapV} (k : Nat) (hk : k < 4) {t : ByteArray} (h : txtOk t = false) : snapOfA (objJ (turnM s k t)) = (snapZ, 3) := by
 have hp : (objJ (turnM s k t)).mayB = false := by
   rw [JV.mayB_iff]
   have : (objJ (turnM s k t)).partB = false := by
     rw [JV.partB_eq]
     have hin : txtJ t ∈ (objJ (turnM s k t)).items := by
       show txtJ t ∈ (turnM s k t).map (·.2)
       unfold turnM
       refine List.mem_map.2 ⟨_, List.mem_set (by simpa [snapM] using hk) _, rfl⟩
     rw [partsB_mem hin (by rw [txtJ_partB]; exact h)]
     simp
   rw [this]; rfl
 unfold snapOfA
 rw [if_pos hp]
theorem turn_err {s : SnapV} (hm : maySnap s = true) (k : Nat) (hk : k = 0 ∨ k = 2 ∨ k = 3) {t : ByteArray} (ht : txtOk t = true) (h0 : k = 0 → t ≠ snpN) : snapOfA (objJ (turnM s k t)) = (snapZ, if k = 0 then 13 else 10) := by
 obtain ⟨hv, he, hl, ha, hr⟩ := maySnap_parts.1 hm
 obtain ⟨a, b, c⟩ := metaJ_ok ha hl hr
 obtain ⟨n1, n2, n3, n4, n5, n6, n7⟩ := names_txt
 obtain ⟨_, _, x1, x2, x3, x4, x5, x6⟩ := names_ne
 have d1 := txtJ_cd snpN
 have d2 := txtJ_cd (dateB s.exp)
 have d3 := numJ_cd s.ver
 have d4 := txtJ_cd t
 have hp : ∀ q ∈ snapM s, txtOk q.1 = true ∧ q.2.partB = true ∧ q.2.depth ≤ 3 ∧ q.2.count ≤ 4097 := fun q hq => by
   simp only [snapM, List.mem_cons, List.not_mem_nil, or_false] at hq
   rcases hq with rfl | rfl | rfl | rfl
   · exact ⟨n4, txtJ_part n7, Nat.le_trans (Nat.le_of_eq d1.2) (by decide), Nat.le_trans (Nat.le_of_eq d1.1) (by decide)⟩
   · exact ⟨n5, txtJ_part (date_txt he).1, Nat.le_trans (Nat.le_of_eq d2.2) (by decide), Nat.le_trans (Nat.le_of_eq d2.1) (by decide)⟩
   · exact ⟨n6, a, c, b⟩
   · exact ⟨n3, numJ_part _, Nat.le_trans (Nat.le_of_eq d3.2) (by decide), Nat.le_trans (Nat.le_of_eq d3.1) (by decide)⟩
 have hnm : (turnM s k t).map (·.1) = [typN, expN, metN, verN] := by rcases hk with rfl | rfl | rfl <;> rfl
 have hin : ∀ q ∈ turnM s k t, txtOk q.1 = true ∧ q.2.partB = true ∧ q.2.depth ≤ 3 := fun q hq => by
   rcases List.mem_or_eq_of_mem_set hq with h | h
   · obtain ⟨h1, h2, h3, _⟩ := hp q h; exact ⟨h1, h2, h3⟩
   · subst h
     refine ⟨?_, txtJ_part ht, Nat.le_trans (Nat.le_of_eq d4.2) (by decide)⟩
     rcases hk with rfl | rfl | rfl
     · exact n4
     · exact n6
     · exact n3
 have hpart : (objJ (turnM s k t)).partB = true := objJ_part ⟨by rw [hnm]; exact names_4, fun q hq => ⟨(hin q hq).1, (hin q hq).2.1⟩⟩
 have hdep : (objJ (turnM s k t)).depth ≤ 4 := objJ_depth 3 fun q hq => (hin q hq).2.2
 have hcnt : (objJ (turnM s k t)).count ≤ 8192 := by
   rw [JV.count_eq]
   rcases hk with rfl | rfl | rfl
   · show 1 + JV.counts [txtJ t, txtJ (dateB s.exp), metaJ s.pins, numJ s.ver] ≤ _; simp only [JV.counts, d2.1, d3.1, d4.1]; omega
   · show 1 + JV.counts [txtJ snpN, txtJ (dateB s.exp), txtJ t, numJ s.ver] ≤ _; simp only [JV.counts, d1.1, d2.1, d3.1, d4.1]; omega
   · show 1 + JV.counts [txtJ snpN, txtJ (dateB s.exp), metaJ s.pins, txtJ t] ≤ _; simp only [JV.counts, d1.1, d2.1, d4.1]; omega
 have hmay : (objJ (turnM s k t)).mayB = true := by rw [JV.mayB_iff, hpart, decide_eq_true hcnt, decide_eq_true (by omega)]; rfl
 rw [snapA_err hmay rfl]
 rcases hk with rfl | rfl | rfl
 · refine snapK_bad (by decide) (stM_ty (by decide) (ty_kind (t := t) ?_ (h0 rfl)))
   show lookL [typN, expN, metN, verN] [txtJ t, txtJ (dateB s.exp), metaJ s.pins, numJ s.ver] typN = _
   simp [lookL]
 · have e0 : ∀ y, (objJ (turnM s 2 t)).look y = lookL [typN, expN, metN, verN] [txtJ snpN, txtJ (dateB s.exp), txtJ t, numJ s.ver] y := fun _ => rfl
   have e1 : (objJ (turnM s 2 t)).look typN = some (txtJ snpN) := by rw [e0]; simp [lookL]
   have e2 : (objJ (turnM s 2 t)).look verN = some (numJ s.ver) := by rw [e0]; simp [lookL, x3, x5, x6]
   have e3 : (objJ (turnM s 2 t)).look expN = some (txtJ (dateB s.exp)) := by rw [e0]; simp [lookL, x1]
   have e4 : (objJ (turnM s 2 t)).look metN = some (txtJ t) := by rw [e0]; simp [lookL, x2, x4]
   exact snapK_bad (by decide) (met_kind hm (exp_ok (ver_ok hm (ty_ok e1) e2) e3) e4)
 · have e0 : ∀ y, (objJ (turnM s 3 t)).look y = lookL [typN, expN, metN, verN] [txtJ snpN, txtJ (dateB s.exp), metaJ s.pins, txtJ t] y := fun _ => rfl
   have e1 : (objJ (turnM s 3 t)).look typN = some (txtJ snpN) := by rw [e0]; simp [lookL]
   have e2 : (objJ (turnM s 3 t)).look verN = some (txtJ t) := by rw [e0]; simp [lookL, x3, x5, x6]
   exact snapK_bad (by decide) (stM_ver (by decide) (ver_kind (ty_ok e1) e2))
theorem pin_less {p : PinV} (hm : mayPin p = true) (n : Nat) (hn : n < (pinM p).length) :
   ((pinM p)[n].1 = lenN → pinOfA p.name (objJ ((pinM p).eraseIdx n)) = (⟨p.name, p.ver, -1, p.hs⟩, 0)) ∧ ((pinM p)[n].1 = hasN → pinOfA p.name (objJ ((pinM p).eraseIdx n)) = (⟨p.name, p.ver, p.len, []⟩, 0)) := by
 obtain ⟨nm, vr, ln, hs⟩ := p
 obtain ⟨⟨a1, a2, a3⟩, ⟨b1, b2, b3⟩, _⟩ := names_ne
 have m1 : mayPin ⟨nm, vr, -1, hs⟩ = true := by
   unfold mayPin at hm ⊢
   simp only [Bool.and_eq_true, decide_eq_true_eq] at hm ⊢
   exact ⟨⟨hm.1.1, by omega⟩, hm.2⟩
 have m2 : mayPin ⟨nm, vr, ln, []⟩ = true := by
   unfold mayPin at hm ⊢
   simp only [Bool.and_eq_true, decide_eq_true_eq] at hm ⊢
   exact ⟨hm.1, by simp⟩
 have c1 : pinM ⟨nm, vr, -1, hs⟩ = (pinM ⟨nm, vr, ln, hs⟩).eraseIdx n ∨ (pinM ⟨nm, vr, ln, hs⟩)[n].1 ≠ lenN := by
   cases hs with
   | nil =>
     by_cases hl : ln = -1
     · subst hl
       have : n = 0 := by simp [pinM] at hn; omega
       subst this
       exact .inr (by simp [pinM]; exact b3)
     · have : n = 0 ∨ n = 1 := by simp [pinM, hl] at hn; omega
       rcases this with rfl | rfl
       · exact .inl (by simp [pinM, hl])
       · exact .inr (by simp [pinM, hl]; exact b3)
   | cons h r =>
     by_cases hl : ln = -1
     · subst hl
       have : n = 0 ∨ n = 1 := by simp [pinM] at hn; omega
       rcases this with rfl | rfl
       · exact .inr (by simp [pinM]; exact a1)
       · exact .inr (by simp [pinM]; exact b3)
     · have : n = 0 ∨ n = 1 ∨ n = 2 := by simp [pinM, hl] at hn; omega
       rcases this with rfl | rfl | rfl
       · exact .inr (by simp [pinM]; exact a1)
       · exact .inl (by simp [pinM, hl])
       · exact .inr (by simp [pinM, hl]; exact b3)
 have c2 : pinM ⟨nm, vr, ln, []⟩ = (pinM ⟨nm, vr, ln, hs⟩).eraseIdx n ∨ (pinM ⟨nm, vr, ln, hs⟩)[n].1 ≠ hasN := by
   cases hs with
   | nil =>
     by_cases hl : ln = -1
     · subst hl
       have : n = 0 := by simp [pinM] at hn; omega
       subst this
       exact .inr (by simp [pinM]; exact b2)
     · have : n = 0 ∨ n = 1 := by simp [pinM, hl] at hn; omega
       rcases this with rfl | rfl
       · exact .inr (by simp [pinM, hl]; exact b1)
       · exact .inr (by simp [pinM, hl]; exact b2)
   | cons h r =>
     by_cases hl : ln = -1
     · subst hl
       have : n = 0 ∨ n = 1 := by simp [pinM] at hn; omega
       rcases this with rfl | rfl
       · exact .inl (by simp [pinM])
       · exact .inr (by simp [pinM]; exact b2)
     · have : n = 0 ∨ n = 1 ∨ n = 2 := by simp [pinM, hl] at hn; omega
       rcases this with rfl | rfl | rfl
       · exact .inl (by simp [pinM, hl])
       · exact .inr (by simp [pinM, hl]; exact b1)
       · exact .inr (by simp [pinM, hl]; exact b2)
 refine ⟨fun h => ?_, fun h => ?_⟩
 · rw [← c1.resolve_right (fun h2 => h2 h)]
   exact pin_back m1
 · rw [← c2.resolve_right (fun h2 => h2 h)]
   exact pin_back m2
theorem pin_nover {p : PinV} (hm : mayPin p = true) (n : Nat) (hn : n < (pinM p).length) (h1 : (pinM p)[n].1 ≠ lenN) (h2 : (pinM p)[n].1 ≠ hasN) : (pinOfA p.name (objJ ((pinM p).eraseIdx n))).2 = 6 := by
 obtain ⟨nm, vr, ln, hs⟩ := p
 obtain ⟨⟨a1, a2, a3⟩, ⟨b1, b2, b3⟩, _⟩ := names_ne
 obtain ⟨hf, hv, hl0, hh⟩ := mayPin_parts hm
 dsimp only at hf hv hl0 hh
 have r0 : rises [hasN, lenN] = true := by kernel_rfl
 have hL : (∀ q ∈ (pinM ⟨nm, vr, ln, hs⟩).eraseIdx n, q ∈ pinM ⟨nm, vr, ln, hs⟩ ∧ q.1 ≠ verN) ∧ rises (((pinM ⟨nm, vr, ln, hs⟩).eraseIdx n).map (·.1)) = true := by
   cases hs with
   | nil =>
     by_cases hl : ln = -1
     · subst hl
       have : n = 0 := by simp [pinM] at hn; omega
       subst this
       exact ⟨by simp [pinM], rfl⟩
     · have : n = 0 ∨ n = 1 := by simp [pinM, hl] at hn; omega
       rcases this with rfl | rfl
       · exact absurd (by simp [pinM, hl]) h1
       · exact ⟨by simp [pinM, hl]; exact a3, by simp [pinM, hl]; rfl⟩
   | cons h r =>
     by_cases hl : ln = -1
     · subst hl
       have : n = 0 ∨ n = 1 := by simp [pinM] at hn; omega
       rcases this with rfl | rfl
       · exact absurd (by simp [pinM]) h2
       · exact ⟨by simp [pinM]; exact a2, by simp [pinM]; rfl⟩
     · have : n = 0 ∨ n = 1 ∨ n = 2 := by simp [pinM, hl] at hn; omega
       rcases this with rfl | rfl | rfl
       · exact absurd (by simp [pinM, hl]) h2
       · exact absurd (by simp [pinM, hl]) h1
       · exact ⟨by simp [pinM, hl]; exact ⟨a2, a3⟩, by simp [pinM, hl]; exact r0⟩
 have hlen : ((pinM ⟨nm, vr, ln, hs⟩).eraseIdx n).length ≤ 3 := Nat.le_trans (List.length_eraseIdx_le _ _) (pinM_rises _).2
 generalize (pinM ⟨nm, vr, ln, hs⟩).eraseIdx n = L at hL hlen ⊢
 obtain ⟨n1, n2, n3, _⟩ := names_txt
 have hp : ∀ q ∈ L, txtOk q.1 = true ∧ q.2.partB = true ∧ q.2.count ≤ 5 ∧ q.2.depth ≤ 1 := fun q hq => by
   rcases pinM_mem (hL.1 q hq).1 with ⟨rfl, h0⟩ | ⟨rfl, _⟩ | rfl
   · obtain ⟨a, b, c⟩ := hashJ_ok (hh.resolve_left h0)
     exact ⟨n1, a, b, c⟩
   · have := numJ_cd ln
     exact ⟨n2, numJ_part _, Nat.le_trans (Nat.le_of_eq this.1) (by decide), Nat.le_trans (Nat.le_of_eq this.2) (by decide)⟩
   · exact absurd rfl (hL.1 _ hq).2
 have hpart : (objJ L).partB = true := objJ_part ⟨hL.2, fun q hq => ⟨(hp q hq).1, (hp q hq).2.1⟩⟩
 have hcnt : (objJ L).count ≤ 16 := by have := objJ_count 5 fun q hq => (hp q hq).2.2.1; omega
 have hdep : (objJ L).depth ≤ 2 := objJ_depth 1 fun q hq => (hp q hq).2.2.2
 have hmay : (objJ L).mayB = true := by rw [JV.mayB_iff, hpart, decide_eq_true (by omega), decide_eq_true (by omega)]; rfl
 have hlk : (objJ L).look verN = none := lookL_none _ _ _ fun t ht e => by
   have ht' : t < L.length := by simpa [objJ, JV.names] using ht
   have e2 : (objJ L).names[t] = L[t].1 := by simp [objJ, JV.names]
   exact (hL.1 L[t] (List.getElem_mem ht')).2 (by rw [← e2]; exact e)
 have hr : (roleOf nm).isNone = false := by cases hq : roleOf nm with | none => rw [hq] at hf; cases hf | some _ => rfl
 have e1 : pickNum (objJ L) verN 1 1099511627776 ⟨[], 0⟩ = (0, ⟨[], 6⟩) := by unfold pickNum; rw [if_neg (by simp), hlk]
 have e2 : lenSt (objJ L) ⟨[], 6⟩ = (-1, ⟨[], 6⟩) := by unfold lenSt pickHas; simp
 have e3 : hasSt (objJ L) ⟨[], 6⟩ = ([], ⟨[], 6⟩) := by unfold hasSt pickHas; simp
 unfold pinOfA
 rw [hr, hmay, if_neg (by decide), if_neg (by simp [objJ, JV.kind]), pinOfK_eq, e1]
 dsimp only
 rw [e2]
 dsimp only
 rw [e3]
 dsimp only
 rw [done_err (by decide), if_pos (by decide)]
end Go.Proofs.YtgghgcilpfdbjaaGreatDoor

namespace Go.Proofs.YtgghgcilpfdbjaaGreatDoor
open Go.RowKit Go.Shelf Go.Sort
theorem flatM_split (ms : List Mem) (i : Nat) : flatM ms = flatM (ms.take i) ++ flatM (ms.drop i) := by
 unfold flatM; rw [← List.flatMap_append, List.take_append_drop]
theorem flatM_one (ms : List Mem) : ∀ u ∈ flatM ms, u.oneCell' = true := fun u hu => by
 obtain ⟨m, _, hm⟩ := List.mem_flatMap.1 hu
 exact encM_one m u hm
theorem addr_add (g j : Nat) : (⟨g, 0, none⟩ : Addr).add j = ⟨g, j, none⟩ := by unfold Addr.add; split <;> simp_all
theorem own_first {w : World} {base g c : Nat} {ms : List Mem} (h : w.ownsRow base 74 6 (.slice (some ⟨g, 0, none⟩) ms.length c) ms.length (flatM ms)) (k : Nat) :
   ∀ j u, (flatM (ms.take k))[j]? = some u → w.cell? ((⟨g, 0, none⟩ : Addr).add j) = some u := fun j u hj => by
 refine h.cells (g := g) rfl j u ?_
 rw [flatM_split ms k, List.getElem?_append_left (List.getElem?_eq_some_iff.1 hj).1]
 exact hj
theorem own_behind {w : World} {base g c : Nat} {ms : List Mem} (h : w.ownsRow base 74 6 (.slice (some ⟨g, 0, none⟩) ms.length c) ms.length (flatM ms)) (k : Nat) (hk : k ≤ ms.length) :
   ∀ j u, (flatM (ms.drop k))[j]? = some u → w.cell? (((⟨g, 0, none⟩ : Addr).add (k * 6)).add j) = some u := fun j u hj => by
 have hl : (flatM (ms.take k)).length = k * 6 := by rw [flatM_len, List.length_take]; congr 1; omega
 have := h.cells (g := g) rfl (k * 6 + j) u (by
   rw [flatM_split ms k, List.getElem?_append_right (by omega), hl, Nat.add_sub_cancel_left]
   exact hj)
 rw [addr_add] at this ⊢
 have e : (⟨g, k * 6, none⟩ : Addr).add j = ⟨g, k * 6 + j, none⟩ := by unfold Addr.add; split <;> simp_all
 rw [e]; exact this
theorem own_cap {w : World} {base g c : Nat} {ms : List Mem} (h : w.ownsRow base 74 6 (.slice (some ⟨g, 0, none⟩) ms.length c) ms.length (flatM ms)) : ms.length ≤ c := by
 rcases h.2 with ⟨h0, _⟩ | ⟨g', cap, cur, hv, hg, hh, hc, hm, hs, ht⟩
 · cases h0
 · cases hv; omega
theorem mems_less {lo k : Nat} {W w' : World} {x y : Value} {ms : List Mem} {its : List JV} (h : MemsAt lo W x ms its) (hlo : lo ≤ W.heap.size) (hb : Below W.heap.size W w') (hk : k < ms.length) (ho : w'.ownsRow W.heap.size 74 6 y (k + (ms.length - (k + 1))) (flatM (ms.take k) ++ flatM (ms.drop (k + 1)))) :
   MemsAt lo w' y (ms.eraseIdx k) (its.eraseIdx k) := by
 have hl := h.len
 have e1 : (ms.eraseIdx k).length = k + (ms.length - (k + 1)) := by rw [List.length_eraseIdx]; split <;> omega
 have e2 : flatM (ms.eraseIdx k) = flatM (ms.take k) ++ flatM (ms.drop (k + 1)) := by
   rw [List.eraseIdx_eq_take_drop_succ]; unfold flatM; rw [List.flatMap_append]
 refine ⟨?_, by rw [List.length_eraseIdx, List.length_eraseIdx, hl], fun i hi => ?_⟩
 · rw [e1, e2]
   refine ⟨ho.1, ?_⟩
   rcases ho.2 with h0 | ⟨g, cap, cur, hv, hg, r⟩
   · exact .inl h0
   · exact .inr ⟨g, cap, cur, hv, Nat.le_trans hlo hg, r⟩
 · have hi2 : i < its.length - 1 := by rw [List.length_eraseIdx] at hi; split at hi <;> omega
   have hnb : ∀ b, y.ownBlock = some b → W.heap.size ≤ b := fun b hb' => (ho.lt b hb').1
   rw [List.getElem_eraseIdx]
   have key : ∀ q (hq : q < its.length), ∃ lo' hi', lo ≤ lo' ∧ hi' ≤ w'.heap.size ∧ (∀ b, y.ownBlock = some b → ¬ (lo' ≤ b ∧ b < hi')) ∧ Rep w' lo' hi' its[q] (ms[q]'(by omega)).val := fun q hq => by
     obtain ⟨lo', hi', h1, h2, _, hr⟩ := h.reps q hq
     exact ⟨lo', hi', h1, Nat.le_trans h2 hb.size, fun b hb' q2 => by have := hnb b hb'; omega, Rep.carry (Nat.le_refl _) (Nat.le_refl _) (fun b _ hb' => hb.block b (by omega)) _ _ hr⟩
   split
   · rename_i hik
     obtain ⟨a, b, h1, h2, h3, h4⟩ := key i (by omega)
     refine ⟨a, b, h1, h2, h3, ?_⟩
     rw [List.getElem_eraseIdx, dif_pos hik]; exact h4
   · rename_i hik
     obtain ⟨a, b, h1, h2, h3, h4⟩ := key (i + 1) (by omega)
     refine ⟨a, b, h1, h2, h3, ?_⟩
     rw [List.getElem_eraseIdx, dif_neg hik]; exact h4
theorem map_erase {α β : Type} (f : α → β) : ∀ (l : List α) (k : Nat), (l.map f).eraseIdx k = (l.eraseIdx k).map f
 | [], k => by simp
 | a :: r, 0 => by simp
 | a :: r, k + 1 => by simp [map_erase f r k]
theorem less_obj {lo k : Nat} {W w' : World} {x y : Value} {ms : List Mem} {N : List NJ} (h : MemsAt lo W x ms (N.map (·.2))) (hn : ms.map (·.name) = N.map (·.1)) (hlo : lo ≤ W.heap.size) (h0 : 0 < lo) (hb : Below W.heap.size W w') (hk : k < ms.length)
   (ho : w'.ownsRow W.heap.size 74 6 y (k + (ms.length - (k + 1))) (flatM (ms.take k) ++ flatM (ms.drop (k + 1)))) (hf : ∃ g c, y = .slice (some ⟨g, 0, none⟩) (k + (ms.length - (k + 1))) c)
   (hr : rises ((N.eraseIdx k).map (·.1)) = true) (hN : N.length ≤ 4294967296) (hw : ∀ p ∈ N, p.2.wt ≤ 4294967296) :
   Calls Tryz.prog 42 #[y] w' (fun r w2 => ∃ an cn ai ci, r = .returned (tupR 0 (aggV (objJ (N.eraseIdx k)) an cn ai ci)) ∧ Rep w2 w'.heap.size w2.heap.size (objJ (N.eraseIdx k)) (.agg (aggV (objJ (N.eraseIdx k)) an cn ai ci)) ∧ Below w'.heap.size w' w2) := by
 have hl : N.length = ms.length := by have := congrArg List.length hn; simpa using this.symm
 have hM : MembG lo w' y (N.eraseIdx k) := ⟨ms.eraseIdx k, by
   have := mems_less h hlo hb hk ho
   rwa [map_erase] at this, by rw [← map_erase, hn, map_erase]⟩
 have e1 : (N.eraseIdx k).length = k + (ms.length - (k + 1)) := by rw [List.length_eraseIdx, hl]; split <;> omega
 refine (objOfG (N.eraseIdx k) hM (by rw [e1]; exact hf) (.refl _) hr (by rw [e1]; omega) (fun p hp => hw p (List.mem_of_mem_eraseIdx hp)) h0).mono ?_
 rintro r w2 ⟨an, cn, ai, ci, rfl, h2, h3⟩
 exact ⟨an, cn, ai, ci, rfl, h2, h3⟩
theorem own_val {w : World} {base g c : Nat} {ms : List Mem} (h : w.ownsRow base 74 6 (.slice (some ⟨g, 0, none⟩) ms.length c) ms.length (flatM ms)) (k : Nat) (hk : k < ms.length) :
   w.cell? ⟨g, k * 6 + 1, none⟩ = some (.int .u8 ms[k].k) ∧ w.cell? ⟨g, k * 6 + 2, none⟩ = some (.int .i64 ms[k].n) ∧ w.cell? ⟨g, k * 6 + 3, none⟩ = some (.string ms[k].t) ∧ w.cell? ⟨g, k * 6 + 4, none⟩ = some (.slice ms[k].an ms[k].nn ms[k].cn) ∧ w.cell? ⟨g, k * 6 + 5, none⟩ = some (.slice ms[k].ai ms[k].ni ms[k].ci) := by
 have key : ∀ q (hq : q < 6), w.cell? ⟨g, k * 6 + q, none⟩ = some ((encM ms[k])[q]'(by rw [encM_len]; exact hq)) := fun q hq => by
   have := h.cells (g := g) rfl (k * 6 + q) _ (flatM_get ms k q hk hq)
   rwa [addr_add] at this
 exact ⟨key 1 (by decide), key 2 (by decide), key 3 (by decide), key 4 (by decide), key 5 (by decide)⟩
theorem own_froz {w : World} {base g c : Nat} {ms : List Mem} (h : w.ownsRow base 74 6 (.slice (some ⟨g, 0, none⟩) ms.length c) ms.length (flatM ms)) (k : Nat) :
   w.frozen? ⟨g, k * 6 + 1, none⟩ = false ∧ w.frozen? ⟨g, k * 6 + 2, none⟩ = false ∧ w.frozen? ⟨g, k * 6 + 3, none⟩ = false ∧ w.frozen? ⟨g, k * 6 + 4, none⟩ = false ∧ w.frozen? ⟨g, k * 6 + 5, none⟩ = false := by
 have key : ∀ q, w.frozen? ⟨g, q, none⟩ = false := fun q => by
   rcases h.2 with ⟨h0, _⟩ | ⟨g', cap, cur, hv, hg, hh, _⟩
   · cases h0
   · cases hv
     simp [World.frozen?, hh]
 exact ⟨key _, key _, key _, key _, key _⟩
theorem own_set1 {w : World} {base e size n g c j : Nat} {xs : List Value} (h : w.ownsRow base e size (.slice (some ⟨g, 0, none⟩) n c) n xs) (u : Value) : (w.setCell ⟨g, j, none⟩ u).ownsRow base e size (.slice (some ⟨g, 0, none⟩) n c) n (xs.set j u) := by
 rcases h.2 with ⟨h0, _⟩ | ⟨g', cap, cur, hv, hb, hh, hc, hm, hs, ht⟩
 · cases h0
 · cases hv
   refine ⟨by rw [List.length_set]; exact h.1, .inr ⟨g, c, cur.setIfInBounds j u, rfl, hb, ?_, hc, hm, by simpa using hs, ?_⟩⟩
   · simp [World.setCell, Array.getElem?_modify, hh]
   · rw [Array.toList_setIfInBounds, List.take_set, ht]
def turnMem (m : Mem) (t : ByteArray) : Mem := ⟨m.name, 3, 0, t, none, 0, 0, none, 0, 0⟩
theorem flatM_turn (t : ByteArray) : ∀ (ms : List Mem) (k : Nat) (h : k < ms.length), (((((flatM ms).set (k * 6 + 1) (.int .u8 3)).set (k * 6 + 1 + 1) (.int .i64 0)).set (k * 6 + 1 + 2) (.string t)).set (k * 6 + 1 + 3) (.slice none 0 0)).set (k * 6 + 1 + 4) (.slice none 0 0) = flatM (ms.set k (turnMem ms[k] t))
 | [], k, h => by simp at h
 | a :: r, 0, h => by simp [flatM, encM, turnMem]
 | a :: r, k + 1, h => by
   have key : ∀ (L : List Value) (q : Nat) (u : Value), (encM a ++ L).set ((k + 1) * 6 + q) u = encM a ++ L.set (k * 6 + q) u := fun L q u => by
     rw [List.set_append_right _ _ (by rw [encM_len]; omega), encM_len, show (k + 1) * 6 + q - 6 = k * 6 + q by omega]
   have ih := flatM_turn t r k (by simpa using h)
   have e : ∀ (b : Mem) (l : List Mem), flatM (b :: l) = encM b ++ flatM l := fun b l => by unfold flatM; rw [List.flatMap_cons]
   simp only [Nat.add_assoc] at ih ⊢
   rw [e, key, key, key, key, key, ih, List.set_cons_succ, e]
   rfl
theorem own_turn {w : World} {base g c k : Nat} {ms : List Mem} (h : w.ownsRow base 74 6 (.slice (some ⟨g, 0, none⟩) ms.length c) ms.length (flatM ms)) (hk : k < ms.length) (t : ByteArray) :
   (((((w.setCell ⟨g, k * 6 + 1, none⟩ (.int .u8 3)).setCell ⟨g, k * 6 + 1 + 1, none⟩ (.int .i64 0)).setCell ⟨g, k * 6 + 1 + 2, none⟩ (.string t)).setCell ⟨g, k * 6 + 1 + 3, none⟩ (.slice none 0 0)).setCell ⟨g, k * 6 + 1 + 4, none⟩ (.slice none 0 0)).ownsRow base 74 6 (.slice (some ⟨g, 0, none⟩) ms.length c) ms.length (flatM (ms.set k (turnMem ms[k] t))) := by
 rw [← flatM_turn t ms k hk]
 exact own_set1 (own_set1 (own_set1 (own_set1 (own_set1 h _) _) _) _) _
theorem mems_turn {lo g c k : Nat} {w : World} {ms : List Mem} {its : List JV} (h : MemsAt lo w (.slice (some ⟨g, 0, none⟩) ms.length c) ms its) (hlo : lo ≤ w.heap.size) (hk : k < ms.length) (t : ByteArray) :
   MemsAt lo (((((w.setCell ⟨g, k * 6 + 1, none⟩ (.int .u8 3)).setCell ⟨g, k * 6 + 1 + 1, none⟩ (.int .i64 0)).setCell ⟨g, k * 6 + 1 + 2, none⟩ (.string t)).setCell ⟨g, k * 6 + 1 + 3, none⟩ (.slice none 0 0)).setCell ⟨g, k * 6 + 1 + 4, none⟩ (.slice none 0 0)) (.slice (some ⟨g, 0, none⟩) ms.length c) (ms.set k (turnMem ms[k] t)) (its.set k (txtJ t)) := by
 have ho := own_turn h.own hk t
 have hhp : ∀ b, b ≠ g → (((((w.setCell ⟨g, k * 6 + 1, none⟩ (.int .u8 3)).setCell ⟨g, k * 6 + 1 + 1, none⟩ (.int .i64 0)).setCell ⟨g, k * 6 + 1 + 2, none⟩ (.string t)).setCell ⟨g, k * 6 + 1 + 3, none⟩ (.slice none 0 0)).setCell ⟨g, k * 6 + 1 + 4, none⟩ (.slice none 0 0)).heap[b]? = w.heap[b]? := fun b hb => by
   rw [Below.heap_setCell _ _ _ _ hb, Below.heap_setCell _ _ _ _ hb, Below.heap_setCell _ _ _ _ hb, Below.heap_setCell _ _ _ _ hb, Below.heap_setCell _ _ _ _ hb]
 have hsz : (((((w.setCell ⟨g, k * 6 + 1, none⟩ (.int .u8 3)).setCell ⟨g, k * 6 + 1 + 1, none⟩ (.int .i64 0)).setCell ⟨g, k * 6 + 1 + 2, none⟩ (.string t)).setCell ⟨g, k * 6 + 1 + 3, none⟩ (.slice none 0 0)).setCell ⟨g, k * 6 + 1 + 4, none⟩ (.slice none 0 0)).heap.size = w.heap.size := by simp [World.setCell]
 refine ⟨by rw [List.length_set]; exact ho, by rw [List.length_set, List.length_set]; exact h.len, fun i hi => ?_⟩
 rw [List.length_set] at hi
 by_cases e : i = k
 · subst e
   refine ⟨lo, lo, Nat.le_refl _, by rw [hsz]; exact hlo, fun b _ q => by omega, ?_⟩
   rw [List.getElem_set_self, List.getElem_set_self]
   exact rep_txt _ _ _ _
 · obtain ⟨lo', hi', h1, h2, h3, hr⟩ := h.reps i hi
   refine ⟨lo', hi', h1, by rw [hsz]; exact h2, h3, ?_⟩
   rw [List.getElem_set_ne (Ne.symm e), List.getElem_set_ne (Ne.symm e)]
   exact Rep.carry (Nat.le_refl _) (Nat.le_refl _) (fun b q1 q2 => hhp b fun e2 => h3 g rfl (by subst e2; exact ⟨q1, q2⟩)) _ _ hr
theorem snapM_less_rises (s : SnapV) (k : Nat) (hk : k < 4) : rises (((snapM s).eraseIdx k).map (·.1)) = true := by
 match k, hk with
 | 0, _ => show rises [expN, metN, verN] = true; kernel_rfl
 | 1, _ => show rises [typN, metN, verN] = true; kernel_rfl
 | 2, _ => show rises [typN, expN, verN] = true; kernel_rfl
 | 3, _ => show rises [typN, expN, metN] = true; kernel_rfl
theorem snapJ_wt {s : SnapV} (h : maySnap s = true) : (snapJ s).wt ≤ 2000000 := by
 obtain ⟨_, he, hl, ha, _⟩ := maySnap_parts.1 h
 have h1 := metaJ_wt ha hl
 have h2 := dateL_short s.exp.toNat (by omega)
 have h3 : ((⟨(dateL s.exp.toNat).toArray⟩ : ByteArray)).size ≤ 1000 := by simpa [ByteArray.size] using h2
 have e1 : (snapJ s).wt = 1 + 0 + bytesSum [typN, expN, metN, verN] + ((txtJ snpN).wt + ((txtJ ⟨(dateL s.exp.toNat).toArray⟩).wt + ((metaJ s.pins).wt + ((numJ s.ver).wt + 0)))) := by
   rw [JV.wt_eq]
   show 1 + 0 + bytesSum [typN, expN, metN, verN] + JV.wts [txtJ snpN, txtJ ⟨(dateL s.exp.toNat).toArray⟩, metaJ s.pins, numJ s.ver] = _
   simp only [JV.wts]
 rw [e1]
 have e2 : (txtJ snpN).wt ≤ 100 := by decide
 have e3 : (txtJ ⟨(dateL s.exp.toNat).toArray⟩).wt ≤ 2000 := by simp [txtJ, JV.wt, JV.wts, bytesSum]; omega
 have e4 : (numJ s.ver).wt ≤ 10 := by simp [numJ, JV.wt, JV.wts, bytesSum, ByteArray.size]
 have e5 : bytesSum [typN, expN, metN, verN] ≤ 100 := by decide
 omega
theorem snapM_wts2 {s : SnapV} (hm : maySnap s = true) : ∀ p ∈ snapM s, p.2.wt ≤ 2000000 := fun p hp => by
 refine Nat.le_trans ?_ (snapJ_wt hm)
 obtain ⟨i, hi, he⟩ := List.getElem_of_mem (List.mem_map_of_mem (f := (·.2)) hp)
 have h1 := wts_item _ i hi
 rw [he] at h1
 exact Nat.le_trans h1 (Nat.le_of_lt (snapJ s).wt_bd.2.2.2)
theorem snapM_wts {s : SnapV} (hm : maySnap s = true) : ∀ p ∈ snapM s, p.2.wt ≤ 4294967296 := fun p hp => Nat.le_trans (snapM_wts2 hm p hp) (by decide)
theorem wts_erase : ∀ (l : List JV) (k : Nat), JV.wts (l.eraseIdx k) ≤ JV.wts l
 | [], k => by simp
 | a :: r, 0 => by simp only [List.eraseIdx_cons_zero, JV.wts]; omega
 | a :: r, k + 1 => by simp only [List.eraseIdx_cons_succ, JV.wts]; have := wts_erase r k; omega
theorem sum_erase : ∀ (l : List ByteArray) (k : Nat), bytesSum (l.eraseIdx k) ≤ bytesSum l
 | [], k => by simp
 | a :: r, 0 => by simp only [List.eraseIdx_cons_zero, bytesSum]; omega
 | a :: r, k + 1 => by simp only [List.eraseIdx_cons_succ, bytesSum]; have := sum_erase r k; omega
theorem obj_erase_wt (N : List NJ) (k : Nat) : (objJ (N.eraseIdx k)).wt ≤ (objJ N).wt := by
 unfold objJ JV.wt
 have h1 := wts_erase (N.map (·.2)) k
 have h2 := sum_erase (N.map (·.1)) k
 rw [map_erase] at h1 h2
 omega
theorem less_wt {s : SnapV} (hm : maySnap s = true) (k : Nat) : (objJ ((snapM s).eraseIdx k)).wt ≤ 4294967296 :=
 Nat.le_trans (obj_erase_wt _ _) (Nat.le_trans (snapJ_wt hm) (by decide))
theorem wts_set : ∀ (l : List JV) (k : Nat) (x : JV), JV.wts (l.set k x) ≤ JV.wts l + x.wt
 | [], k, x => by simp [JV.wts]
 | a :: r, 0, x => by simp only [List.set_cons_zero, JV.wts]; omega
 | a :: r, k + 1, x => by simp only [List.set_cons_succ, JV.wts]; have := wts_set r k x; omega
theorem Boxed_ne {w : World} {base size n b : Nat} {v : Value} {xs : List Value} {cs : Array Value} {fr : Nat × Nat} (h : w.ownsRow base 74 size v n xs) (hb : w.heap[b]? = some (.cells cs 30 fr)) : v.ownBlock ≠ some b := fun e => by
 rcases h.2 with ⟨h0, _⟩ | ⟨g, cap, cur, hv, hg, hh, _⟩
 · rw [h0] at e; cases e
 · rw [hv] at e
   simp only [Value.ownBlock, Option.some.injEq] at e
   subst e
   rw [hb] at hh
   cases hh
theorem pinJ_lens (p : PinV) : (pinJ p).items.length = (pinJ p).names.length ∧ 1 ≤ (pinJ p).names.length ∧ (pinJ p).names.length ≤ 3 := by
 refine ⟨by simp [pinJ, JV.items, JV.names], ?_⟩
 show 1 ≤ ((pinM p).map (·.1)).length ∧ ((pinM p).map (·.1)).length ≤ 3
 rw [List.length_map]
 unfold pinM
 by_cases h1 : p.hs.isEmpty <;> by_cases h2 : p.len = -1 <;> simp [h1, h2]
theorem txt_wt (t : ByteArray) : (txtJ t).wt = 1 + t.size := by simp [txtJ, JV.wt, JV.wts, bytesSum]
theorem turn_names (s : SnapV) (k : Nat) (hk : k < 4) (t : ByteArray) : (turnM s k t).map (·.1) = (snapM s).map (·.1) := by
 match k, hk with
 | 0, _ => rfl
 | 1, _ => rfl
 | 2, _ => rfl
 | 3, _ => rfl
theorem turn_items (s : SnapV) (k : Nat) (t : ByteArray) : (turnM s k t).map (·.2) = ((snapM s).map (·.2)).set k (txtJ t) := by
 unfold turnM; rw [List.map_set]
theorem turn_wt {s : SnapV} (hm : maySnap s = true) (k : Nat) (hk : k < 4) {t : ByteArray} (ht : t.size ≤ 1000) : (objJ (turnM s k t)).wt ≤ 4294967296 := by
 have h1 := snapJ_wt hm
 have h2 := wts_set ((snapM s).map (·.2)) k (txtJ t)
 have h3 := txt_wt t
 have e : (snapJ s).wt = (objJ (snapM s)).wt := rfl
 rw [e] at h1
 unfold objJ JV.wt at h1 ⊢
 rw [turn_names s k hk, turn_items]
 omega
theorem turn_obj {lo g c k : Nat} {W : World} {ms' : List Mem} {s : SnapV} {t : ByteArray} (h : MemsAt lo W (.slice (some ⟨g, 0, none⟩) 4 c) ms' (((snapM s).map (·.2)).set k (txtJ t))) (hn : ms'.map (·.name) = (snapM s).map (·.1)) (h0 : 0 < lo) (hk : k < 4) (hm : maySnap s = true) (ht : t.size ≤ 1000) :
   Calls Tryz.prog 42 #[.slice (some ⟨g, 0, none⟩) 4 c] W (fun r w2 => ∃ an cn ai ci, r = .returned (.tuple #[.agg #[.int .u8 5, .int .i64 0, .string { data := #[] }, .slice an 4 cn, .slice ai 4 ci], .int .i64 0]) ∧ Rep w2 W.heap.size w2.heap.size (objJ (turnM s k t)) (.agg #[.int .u8 5, .int .i64 0, .string { data := #[] }, .slice an 4 cn, .slice ai 4 ci]) ∧ Below W.heap.size W w2) := by
 have hl : (turnM s k t).length = 4 := by unfold turnM; rw [List.length_set]; rfl
 have hM : MembG lo W (.slice (some ⟨g, 0, none⟩) 4 c) (turnM s k t) := ⟨ms', by rw [turn_items]; exact h, by rw [turn_names s k hk]; exact hn⟩
 refine (objOfG (turnM s k t) hM ⟨g, c, by rw [hl]⟩ (.refl _) (by rw [turn_names s k hk]; exact names_4) (by omega) (fun p hp => ?_) h0).mono ?_
 · rcases List.mem_or_eq_of_mem_set hp with h | h
   · exact snapM_wts hm p h
   · subst h
     show (txtJ t).wt ≤ _
     rw [txt_wt]; omega
 · rintro r w2 ⟨an, cn, ai, ci, rfl, h2, h3⟩
   rw [List.length_map, List.length_map, hl] at h2
   refine ⟨an, cn, ai, ci, by rw [List.length_map, List.length_map, hl], h2, h3⟩
theorem turnMem_names (ms : List Mem) (k : Nat) (h : k < ms.length) (t : ByteArray) : (ms.set k (turnMem ms[k] t)).map (·.name) = ms.map (·.name) := by
 rw [List.map_set]
 have : (turnMem ms[k] t).name = (ms.map (·.name))[k]'(by simpa using h) := by simp [turnMem]
 rw [this, List.set_getElem_self]
theorem owns_carry {w w' : World} {base e size n : Nat} {v : Value} {cs : List Value} (h : w.ownsRow base e size v n cs) (hk : ∀ b, v.ownBlock = some b → w'.heap[b]? = w.heap[b]?) : w'.ownsRow base e size v n cs := by
 refine ⟨h.1, ?_⟩
 rcases h.2 with h0 | ⟨g, cap, cur, hv, hg, hh, r⟩
 · exact .inl h0
 · exact .inr ⟨g, cap, cur, hv, hg, by rw [hk g (by rw [hv]; rfl)]; exact hh, r⟩
theorem rows_ne {w : World} {base base' g1 g2 c1 c2 : Nat} {ms1 ms2 : List Mem} (h1 : w.ownsRow base 74 6 (.slice (some ⟨g1, 0, none⟩) ms1.length c1) ms1.length (flatM ms1)) (h2 : w.ownsRow base' 74 6 (.slice (some ⟨g2, 0, none⟩) ms2.length c2) ms2.length (flatM ms2)) (l1 : 0 < ms1.length) (l2 : 0 < ms2.length) (hn : ms1[0].name ≠ ms2[0].name) : g1 ≠ g2 := by
 rintro rfl
 have e1 := h1.cells (g := g1) rfl (0 * 6 + 0) _ (flatM_get ms1 0 0 l1 (by decide))
 have e2 := h2.cells (g := g1) rfl (0 * 6 + 0) _ (flatM_get ms2 0 0 l2 (by decide))
 rw [e1] at e2
 exact hn (by simpa [encM] using e2)
theorem pinJ_nt (p : PinV) : ∀ x ∈ (pinJ p).names, x ≠ typN := fun x hx => by
 obtain ⟨q, hq, rfl⟩ := List.mem_map.1 (show x ∈ (pinM p).map (·.1) from hx)
 rcases pinM_mem hq with ⟨rfl, _⟩ | ⟨rfl, _⟩ | rfl
 · show hasN ≠ typN; decide
 · show lenN ≠ typN; decide
 · show verN ≠ typN; decide
theorem mems_carry {lo hi : Nat} {w w' : World} {y : Value} {ms : List Mem} {its : List JV} (ho : w.ownsRow hi 74 6 y ms.length (flatM ms)) (hl : its.length = ms.length) (hr : ∀ (i : Nat) (it : JV) (m : Mem), its[i]? = some it → ms[i]? = some m → Rep w lo hi it m.val) (hlo : lo ≤ hi) (hz : hi ≤ w'.heap.size)
   (hk : ∀ b, b < hi ∨ y.ownBlock = some b → w'.heap[b]? = w.heap[b]?) : MemsAt lo w' y ms its ∧ w'.ownsRow hi 74 6 y ms.length (flatM ms) ∧ ∀ (i : Nat) (it : JV) (m : Mem), its[i]? = some it → ms[i]? = some m → Rep w' lo hi it m.val := by
 have ho' := owns_carry ho (fun b hb => hk b (.inr hb))
 have hr' : ∀ (i : Nat) (it : JV) (m : Mem), its[i]? = some it → ms[i]? = some m → Rep w' lo hi it m.val := fun i it m e1 e2 => Rep.carry (Nat.le_refl _) (Nat.le_refl _) (fun b _ q => hk b (.inl q)) _ _ (hr i it m e1 e2)
 exact ⟨⟨owns_mono ho' hlo, hl, fun i hi => ⟨lo, _, Nat.le_refl _, hz, fun b hb q => by have := (ho.lt b hb).1; omega, hr' i _ _ (List.getElem?_eq_getElem hi) (List.getElem?_eq_getElem (by omega))⟩⟩, ho', hr'⟩
theorem first_name {ms : List Mem} {ns : List ByteArray} (h : ms.map (·.name) = ns) (i : Nat) (hi : i < ms.length) : ∃ h' : i < ns.length, ms[i].name = ns[i] := by
 subst h; exact ⟨by simpa using hi, by simp⟩
theorem name_cell {lo n g c : Nat} {w : World} {ms : List Mem} {its : List JV} {ns : List ByteArray} (h : MemsAt lo w (.slice (some ⟨g, 0, none⟩) n c) ms its) (hn : ms.map (·.name) = ns) (k : Nat) (hk : k < ns.length) : w.cell? ⟨g, k * 6, none⟩ = some (.string ns[k]) := by
 subst hn
 have hl : k < ms.length := by simpa using hk
 have := h.own.cells (g := g) rfl (k * 6 + 0) _ (flatM_get ms k 0 hl (by decide))
 rw [addr_add] at this
 simpa [encM] using this
theorem turn_tells {s : SnapV} (hm : maySnap s = true) (k : Nat) (hk : k < 4) (t : ByteArray) : (k = 0 → t ≠ snpN → txtOk t = true → (snapOfA (objJ (turnM s k t))).2 = 13) ∧ (k = 2 ∨ k = 3 → (snapOfA (objJ (turnM s k t))).2 ≠ 0) := by
 refine ⟨fun h0 hn ht => ?_, fun h => ?_⟩
 · rw [turn_err hm k (.inl h0) ht (fun _ => hn), if_pos h0]
 · cases ht : txtOk t with
   | true => rw [turn_err hm k (.inr h) ht (fun h0 => by omega), if_neg (by omega)]; decide
   | false => rw [turn_bad k hk ht]; decide
def MoreQ (v : JV) : Prop := v.wt ≤ 4294967296 ∧ (v.kind = 0 ∨ (v.kind = 5 ∧ (v.mayB = true → (snapOfA v).2 = 11)))
def erV (cs : Array Value) : Int := match cs[0]? with | some (Value.int IntKind.u8 k) => if k = 0 then 7 else 0 | _ => 0
theorem erV_agg (v : JV) (an ai : Option Addr) (cn ci : Nat) : erV (aggV v an cn ai ci) = if v.kind = 0 then 7 else 0 := rfl
theorem more_obj {s : SnapV} (hm : maySnap s = true) {u : JV} {lo hi B : Nat} {w' : World} {y : Value} {ms : List Mem} {mk : Mem} (hn : ms.map (·.name) = (snapM s).map (·.1)) (hr : ∀ (i : Nat) (it : JV) (m : Mem), ((snapM s).map (·.2))[i]? = some it → ms[i]? = some m → Rep w' lo hi it m.val) (h0 : 0 < lo) (hhi : hi ≤ w'.heap.size)
   (hu : Rep w' 0 w'.heap.size u mk.val) (huw : u.wt ≤ 20000) (ho : mk.name.size ≤ 1000) (hown : w'.ownsRow B 74 6 y 5 (flatM (ms ++ [mk]))) :
   Calls Tryz.prog 42 #[y] w' (fun r w2 => ∃ v an cn ai ci, MoreQ v ∧ r = .returned (tupR (erV (aggV v an cn ai ci)) (aggV v an cn ai ci)) ∧ Rep w2 w'.heap.size w2.heap.size v (.agg (aggV v an cn ai ci)) ∧ Below w'.heap.size w' w2) := by
 have hl : ms.length = 4 := by have := congrArg List.length hn; simpa [snapM] using this
 have hil : ((snapM s).map (·.2)).length = ms.length := by rw [hl]; rfl
 have e5 : (ms ++ [mk]).length = 5 := by simp [hl]
 obtain ⟨g, cap, rfl, hg, hH⟩ := holds_own (ms := ms ++ [mk]) (by rw [e5]; exact hown) (by omega)
 have hc := pickObjectOfQ (fun m it => (m ∈ ms → ∃ (i : Nat) (h1 : i < ms.length), m = ms[i] ∧ it = ((snapM s).map (·.2))[i]'(by omega)) ∧ it.wt ≤ 2000000) (ms ++ [mk]).toArray g 0 cap w' hH hg (by simp [hl]) (fun m hmem w1 hb => by
   by_cases hin : m ∈ ms
   · obtain ⟨i, hii, rfl⟩ := List.getElem_of_mem hin
     have hw : JV.wt (((snapM s).map (fun q : NJ => q.2))[i]'(by omega)) ≤ 2000000 := by
       rw [List.getElem_map]; exact snapM_wts2 hm _ (List.getElem_mem _)
     have hr1 := hr i (((snapM s).map (fun q : NJ => q.2))[i]'(by omega)) ms[i] (List.getElem?_eq_getElem _) (List.getElem?_eq_getElem _)
     refine (valueCopy _ _ w1 lo hi (Nat.le_trans hw (by decide)) (Nat.le_trans hhi hb.size) (hr1.below hb hhi (Nat.le_refl _) (Nat.le_refl _)) (fun k _ => .inl h0)).mono ?_
     rintro e w2 ⟨an, cn, ai, ci, rfl, b1, b2⟩
     exact ⟨_, an, cn, ai, ci, ⟨fun _ => ⟨i, hii, rfl, rfl⟩, hw⟩, rfl, b1, b2⟩
   · have he : m = mk := by
       have : m ∈ ms ++ [mk] := hmem
       simpa [hin] using this
     subst he
     refine (valueCopyW u _ w1 w1.heap.size (by omega) (Nat.le_refl _) (hu.below hb (Nat.le_refl _) (Nat.le_refl _) hb.size)).mono ?_
     rintro e w2 ⟨v', an, cn, ai, ci, hw, rfl, b1, b2⟩
     exact ⟨v', an, cn, ai, ci, ⟨fun hq => absurd hq hin, by have := hw.wt; omega⟩, rfl, b1, b2⟩)
 have e6 : (ms ++ [mk]).toArray.size = 5 := by simp [hl]
 rw [e6] at hc
 rw [e5]
 refine hc.mono ?_
 rintro r w2 ⟨d', hsd, hp⟩
 rcases hp with ⟨hd, its', hl', hq, an, cn, ai, ci, rfl, hr, hb⟩ | ⟨_, rfl, hb⟩
 · have hds : d'.size = 5 := by rw [hsd.size, e6]
   have hdist : ∀ i j, i < j → j < d'.size → d'[i]!.name ≠ d'[j]!.name := fun i j hij hj he => by
     have hle : ∀ t, i ≤ t → t < d'.size → bl d'[t]!.name d'[i]!.name = false := fun t h1 h2 => by
       rcases Nat.eq_or_lt_of_le h1 with h1 | h1
       · subst h1; exact bl_irrefl _
       · exact hsd.2 i t h1 (by rw [← hsd.size]; exact h2)
     have h1 := hle (i + 1) (by omega) (by omega)
     have h2 : bl d'[i]!.name d'[i + 1]!.name = false := by
       rcases Nat.eq_or_lt_of_le (show i + 1 ≤ j by omega) with h3 | h3
       · rw [h3, ← he]; exact bl_irrefl _
       · rw [he]; exact hsd.2 (i + 1) j h3 (by rw [← hsd.size]; exact hj)
     exact hd i (by omega) (bl_tri h2 h1)
   have hat : ∀ t (ht : t < d'.toList.length), d'.toList[t] = d'[t]! := fun t ht => by
     rw [getElem!_pos d' t (by simpa using ht)]; simp
   have hnd : (d'.toList.map (·.name)).Nodup := by
     refine List.pairwise_iff_getElem.2 fun i j hi hj hij => ?_
     rw [List.getElem_map, List.getElem_map, hat, hat]
     exact hdist i j hij (by simpa using hj)
   have hnd2 : ((ms ++ [mk]).map (·.name)).Nodup := (hsd.1.map (·.name)).nodup_iff.1 hnd
   have hno : mk.name ∉ (snapM s).map (·.1) := by
     rw [List.map_append, hn, List.nodup_append] at hnd2
     intro hq
     exact hnd2.2.2 _ hq _ (by simp) rfl
   have key : ∀ (i : Nat) (hi : i < 4), lookL (d'.toList.map (·.name)) its' (((snapM s).map (·.1))[i]'hi) = some (((snapM s).map (·.2))[i]'hi) := fun i hi => by
     have hmi : ms[i]'(by omega) ∈ d'.toList := hsd.1.mem_iff.2 (by simp)
     obtain ⟨p, hp, hpe⟩ := List.getElem_of_mem hmi
     have hps : p < d'.size := by simpa using hp
     have hqp := hq p (by rw [hl']; exact hps)
     dsimp only at hqp
     have e1 : d'[p]! = ms[i]'(by omega) := by rw [← hat p hp]; exact hpe
     rw [e1] at hqp
     obtain ⟨j, hj, hje, hit⟩ := hqp.1 (List.getElem_mem _)
     have hnm : ∀ t (ht : t < 4), (ms[t]'(by omega)).name = ((snapM s).map (·.1))[t]'ht := fun t ht => by
       have := List.getElem_of_eq hn (i := t) (by simp; omega)
       rw [List.getElem_map] at this
       exact this
     have hij : i = j := by
       refine rises_neq ((snapM s).map (fun q : NJ => q.1)) (show rises ((snapM s).map (fun q : NJ => q.1)) = true from names_4) i j hi (show j < 4 by omega) ?_
       rw [← hnm i hi, ← hnm j (by omega), hje]
     subst hij
     have := lookL_some (d'.toList.map (·.name)) its' (((snapM s).map (·.1))[i]'hi) p (by simpa using hps) (by rw [hl']; exact hps) (fun t ht htp => by
       rw [← hnm i hi, List.getElem_map, hat t (by simpa using ht), ← e1]
       exact hdist t p htp hps) (by rw [List.getElem_map, hpe, hnm i hi])
     exact this.trans (congrArg some hit)
   have hL : SnapLike (.mk 5 0 { data := #[] } (d'.toList.map (·.name)) its') s := ⟨key 0 (by decide), key 3 (by decide), key 1 (by decide), key 2 (by decide)⟩
   have hwt : (JV.mk 5 0 { data := #[] } (d'.toList.map (·.name)) its').wt ≤ 4294967296 := by
     have h1 := sum_map_le (fun m : Mem => m.name) 1000 d'.toList fun m hmm => by
       have := hsd.1.mem_iff.1 hmm
       rcases List.mem_append.1 (show m ∈ ms ++ [mk] from this) with h3 | h3
       · have h4 : m.name ∈ (snapM s).map (·.1) := by rw [← hn]; exact List.mem_map_of_mem h3
         have h5 : ∀ z ∈ [typN, expN, metN, verN], z.size ≤ 1000 := by decide
         exact h5 _ h4
       · simp only [List.mem_cons, List.not_mem_nil, or_false] at h3
         rw [h3]; exact ho
     have h2 := wts_map_le (id : JV → JV) 2000000 its' fun z hz => by
       obtain ⟨i, hi, rfl⟩ := List.getElem_of_mem hz
       exact (hq i hi).2
     rw [List.map_id] at h2
     have h3 : d'.toList.length = 5 := by simpa using hds
     have h4 : its'.length = 5 := by omega
     rw [h3] at h1
     rw [h4] at h2
     rw [JV.wt_eq]
     show 1 + 0 + bytesSum (d'.toList.map (·.name)) + JV.wts its' ≤ _
     omega
   refine ⟨.mk 5 0 { data := #[] } (d'.toList.map (·.name)) its', an, cn, ai, ci, ⟨hwt, .inr ⟨rfl, fun hmay => ?_⟩⟩, rfl, hr, hb⟩
   rw [snapA_err hmay rfl]
   have hx : mk.name ∈ (JV.mk 5 0 { data := #[] } (d'.toList.map (·.name)) its').names := List.mem_map_of_mem (hsd.1.mem_iff.2 (by simp))
   rw [snap_more hm hL hx ⟨fun e => hno (by rw [e]; exact List.mem_cons_self ..), fun e => hno (by rw [e]; exact .tail _ (List.mem_cons_self ..)), fun e => hno (by rw [e]; exact .tail _ (.tail _ (List.mem_cons_self ..))), fun e => hno (by rw [e]; exact .tail _ (.tail _ (.tail _ (List.mem_cons_self ..))))⟩]
 · exact ⟨zeroJ, none, 0, none, 0, ⟨by decide, .inl rfl⟩, rfl, rep_zeroJW _ _ _, hb⟩
structure One (H lo hi p q : Nat) (N : List NJ) (mk : Mem) (d : Nat → Prop) (w' : World) (y z : Value) : Prop where
 o1 : d q → d p
 own : d p → ∃ ms : List Mem, ms.map (·.name) = N.map (·.1) ∧ (∀ (i : Nat) (it : JV) (m : Mem), (N.map (·.2))[i]? = some it → ms[i]? = some m → Rep w' lo hi it m.val) ∧ (¬ d q → w'.ownsRow H 74 6 y N.length (flatM ms)) ∧ (d q → w'.ownsRow H 74 6 z (N.length + 1) (flatM ms ++ encM mk))
section
variable {H lo hi p q : Nat} {N : List NJ} {mk : Mem} {d : Nat → Prop} {w' w2 : World} {y z v : Value}
theorem One.first : One H lo hi p q N mk (fun _ => False) w' y z := ⟨fun h => h.elim, fun h => h.elim⟩
theorem One.next (h : One H lo hi p q N mk d w' y z) (hb : Below w'.heap.size w' w2) (hz : hi ≤ w'.heap.size) (k : Nat) (h0 : k ≠ p) (h1 : k ≠ q) : One H lo hi p q N mk (fun j => j = k ∨ d j) w2 y z := by
 have e : ∀ r, r ≠ k → ((r = k ∨ d r) ↔ d r) := fun r hr => ⟨fun h => h.resolve_left hr, .inr⟩
 have e0 := e p (Ne.symm h0); have e1 := e q (Ne.symm h1)
 refine ⟨by rw [e0, e1]; exact h.o1, ?_⟩
 rw [e0, e1]
 intro hp
 obtain ⟨ms, a, b, c, f⟩ := h.own hp
 exact ⟨ms, a, fun i it m e1 e2 => Rep.carry (Nat.le_refl _) (Nat.le_refl _) (fun b _ hb' => hb.block b (by omega)) _ _ (b i it m e1 e2), fun hq => owns_below (c hq) hb, fun hq => owns_below (f hq) hb⟩
theorem One.row (h : One H lo hi p q N mk d w' y z) (hn : ¬ d p) (hqp : q ≠ p) (ms : List Mem) (a : ms.map (·.name) = N.map (·.1)) (b : ∀ (i : Nat) (it : JV) (m : Mem), (N.map (·.2))[i]? = some it → ms[i]? = some m → Rep w2 lo hi it m.val) (c : w2.ownsRow H 74 6 v N.length (flatM ms)) :
   One H lo hi p q N mk (fun j => j = p ∨ d j) w2 v z :=
 ⟨fun _ => .inl rfl, fun _ => ⟨ms, a, b, fun _ => c, fun hq => (hn (h.o1 (hq.resolve_left hqp))).elim⟩⟩
theorem One.more (hp : d p) (ms : List Mem) (a : ms.map (·.name) = N.map (·.1)) (b : ∀ (i : Nat) (it : JV) (m : Mem), (N.map (·.2))[i]? = some it → ms[i]? = some m → Rep w2 lo hi it m.val) (c : w2.ownsRow H 74 6 v (N.length + 1) (flatM ms ++ encM mk)) :
   One H lo hi p q N mk (fun j => j = q ∨ d j) w2 y v :=
 ⟨fun _ => .inr hp, fun _ => ⟨ms, a, b, fun hq => (hq (.inl rfl)).elim, fun _ => c⟩⟩
end
theorem Six_ne {w : World} {base b n : Nat} {v : Value} {xs : List Value} {c0 c1 c2 c3 c4 c5 : Value} {T : Nat} {fr : Nat × Nat} (h : w.ownsRow base 74 6 v n xs) (hn : 4 ≤ n) (hb : w.heap[b]? = some (.cells #[c0, c1, c2, c3, c4, c5] T fr)) : v.ownBlock ≠ some b := fun e => by
 rcases h.2 with ⟨h0, _⟩ | ⟨g, cap, cur, hv, hg, hh, hc, hm, hs, ht⟩
 · rw [h0] at e; cases e
 · rw [hv] at e
   simp only [Value.ownBlock, Option.some.injEq] at e
   subst e
   rw [hb] at hh
   simp only [Option.some.injEq, Obj.cells.injEq] at hh
   rw [← hh.1] at hs
   simp at hs
   omega
def erT (cs : Array Value) : Value := tupR (erV cs) cs
def MoreI (H lo hi : Nat) (N : List NJ) (mk : Mem) (B : Nat) (Q : JV → Prop) (d : Nat → Prop) (w' : World) (x1 x6 x7 x8 x9 x10 x11 : Value) : Prop :=
 One H lo hi 1 6 N mk d w' x1 x6 ∧ Aft 6 [7, 8, 9, 10] d ∧ SepC B Q erT 7 11 d w' x7 x11 ∧ SepC B Q erT 8 11 d w' x8 x11 ∧ SepC B Q Value.agg 9 11 d w' x9 x11 ∧
   (d 9 → d 8 ∧ ∃ cs, x8 = erT cs ∧ x9 = .agg cs) ∧ (d 10 → d 8 ∧ ∃ cs, x8 = erT cs ∧ x10 = .int .i64 (erV cs))
section
variable {H lo hi B : Nat} {N : List NJ} {mk : Mem} {Q : JV → Prop} {d : Nat → Prop} {w' w2 : World} {x1 x6 x7 x8 x9 x10 x11 x : Value}
theorem MoreI.first : MoreI H lo hi N mk B Q (fun _ => False) w' x1 x6 x7 x8 x9 x10 x11 := ⟨One.first, Aft.first _ _, SepC.first, SepC.first, SepC.first, fun h => h.elim, fun h => h.elim⟩
theorem MoreI.next (h : MoreI H lo hi N mk B Q d w' x1 x6 x7 x8 x9 x10 x11) (hb : Below w'.heap.size w' w2) (hz : hi ≤ w'.heap.size) (j : Nat) (hj : j ∉ [1, 6, 7, 8, 9, 10, 11]) : MoreI H lo hi N mk B Q (fun i => i = j ∨ d i) w2 x1 x6 x7 x8 x9 x10 x11 := by
 simp only [List.mem_cons, List.not_mem_nil, or_false, not_or] at hj
 obtain ⟨h1, h2, h3, h4, h5, h6, h7⟩ := hj
 exact ⟨h.1.next hb hz j h1 h2, h.2.1.out j (by simp; omega), h.2.2.1.same hb j h3 h7, h.2.2.2.1.same hb j h4 h7, h.2.2.2.2.1.same hb j h5 h7,
   fun h9 => have q := h.2.2.2.2.2.1 (h9.resolve_left (Ne.symm h5)); ⟨.inr q.1, q.2⟩, fun h9 => have q := h.2.2.2.2.2.2 (h9.resolve_left (Ne.symm h6)); ⟨.inr q.1, q.2⟩⟩
theorem MoreI.late (h : MoreI H lo hi N mk B Q d w' x1 x6 x7 x8 x9 x10 x11) (hn : ¬ d 6) : ¬ d 7 ∧ ¬ d 8 ∧ ¬ d 9 ∧ ¬ d 10 := ⟨fun e => hn (h.2.1 7 (by decide) e), fun e => hn (h.2.1 8 (by decide) e), fun e => hn (h.2.1 9 (by decide) e), fun e => hn (h.2.1 10 (by decide) e)⟩
theorem MoreI.s1 (h : MoreI H lo hi N mk B Q d w' x1 x6 x7 x8 x9 x10 x11) (hb : Below w'.heap.size w' w2) (hn : ¬ d 1) (ms : List Mem) (a : ms.map (·.name) = N.map (·.1)) (b : ∀ (i : Nat) (it : JV) (m : Mem), (N.map (·.2))[i]? = some it → ms[i]? = some m → Rep w2 lo hi it m.val) (c : w2.ownsRow H 74 6 x N.length (flatM ms)) :
   MoreI H lo hi N mk B Q (fun i => i = 1 ∨ d i) w2 x x6 x7 x8 x9 x10 x11 :=
 ⟨h.1.row hn (by decide) ms a b c, h.2.1.out 1 (by decide), h.2.2.1.same hb 1 (by decide) (by decide), h.2.2.2.1.same hb 1 (by decide) (by decide), h.2.2.2.2.1.same hb 1 (by decide) (by decide),
   fun h9 => have q := h.2.2.2.2.2.1 (h9.resolve_left (by decide)); ⟨.inr q.1, q.2⟩, fun h9 => have q := h.2.2.2.2.2.2 (h9.resolve_left (by decide)); ⟨.inr q.1, q.2⟩⟩
theorem MoreI.s6 (h : MoreI H lo hi N mk B Q d w' x1 x6 x7 x8 x9 x10 x11) (hp : d 1) (hn : ¬ d 6) (ms : List Mem) (a : ms.map (·.name) = N.map (·.1)) (b : ∀ (i : Nat) (it : JV) (m : Mem), (N.map (·.2))[i]? = some it → ms[i]? = some m → Rep w2 lo hi it m.val) (c : w2.ownsRow H 74 6 x (N.length + 1) (flatM ms ++ encM mk)) :
   MoreI H lo hi N mk B Q (fun i => i = 6 ∨ d i) w2 x1 x x7 x8 x9 x10 x11 :=
 have q := h.late hn
 ⟨One.more hp ms a b c, h.2.1.out 6 (by decide), SepC.off q.1 6 (by decide), SepC.off q.2.1 6 (by decide), SepC.off q.2.2.1 6 (by decide),
   fun h9 => (q.2.2.1 (h9.resolve_left (by decide))).elim, fun h9 => (q.2.2.2 (h9.resolve_left (by decide))).elim⟩
theorem MoreI.s7 (h : MoreI H lo hi N mk B Q d w' x1 x6 x7 x8 x9 x10 x11) (h6 : d 6) (hz : hi ≤ w'.heap.size) (hb : Below w'.heap.size w' w2) (v : JV) (an ai : Option Addr) (cn ci : Nat) (h1 : Q v) (h3 : B ≤ w'.heap.size) (h5 : Rep w2 w'.heap.size w2.heap.size v (.agg (aggV v an cn ai ci))) (h11 : d 11 → ∀ b, x11 = .pointer (some ⟨b, 0, none⟩) → b < w'.heap.size) :
   MoreI H lo hi N mk B Q (fun i => i = 7 ∨ d i) w2 x1 x6 (erT (aggV v an cn ai ci)) x8 x9 x10 x11 :=
 ⟨h.1.next hb hz 7 (by decide) (by decide), h.2.1.on 7 h6, SepC.made v _ _ an ai cn ci h1 h3 (Nat.le_refl _) h5 (fun hd b e q => by have := h11 hd b e; omega) (by decide), h.2.2.2.1.same hb 7 (by decide) (by decide), h.2.2.2.2.1.same hb 7 (by decide) (by decide),
   fun h9 => have q := h.2.2.2.2.2.1 (h9.resolve_left (by decide)); ⟨.inr q.1, q.2⟩, fun h9 => have q := h.2.2.2.2.2.2 (h9.resolve_left (by decide)); ⟨.inr q.1, q.2⟩⟩
theorem MoreI.s8 (h : MoreI H lo hi N mk B Q d w' x1 x6 x7 x8 x9 x10 x11) (h7 : d 7) (hn : ¬ d 8) (hz : hi ≤ w'.heap.size) : MoreI H lo hi N mk B Q (fun i => i = 8 ∨ d i) w' x1 x6 x7 x7 x9 x10 x11 := by
 obtain ⟨v, an, cn, ai, ci, rfl, hm⟩ := h.2.2.1.move (s' := 8) h7 (by decide)
 exact ⟨h.1.next (Below.refl _ _) hz 8 (by decide) (by decide), h.2.1.on 8 (h.2.1 7 (by decide) h7), h.2.2.1.same (Below.refl _ _) 8 (by decide) (by decide), hm _, h.2.2.2.2.1.same (Below.refl _ _) 8 (by decide) (by decide),
   fun h9 => (hn (h.2.2.2.2.2.1 (h9.resolve_left (by decide))).1).elim, fun h9 => (hn (h.2.2.2.2.2.2 (h9.resolve_left (by decide))).1).elim⟩
theorem MoreI.tup (h : MoreI H lo hi N mk B Q d w' x1 x6 x7 x8 x9 x10 x11) (h8 : d 8) : ∃ cs, x8 = .tuple #[.agg cs, .int .i64 (erV cs)] := by
 obtain ⟨v, an, cn, ai, ci, rfl, hm⟩ := h.2.2.2.1.move (s' := 9) h8 (by decide)
 exact ⟨_, rfl⟩
theorem MoreI.s9 (h : MoreI H lo hi N mk B Q d w' x1 x6 x7 x8 x9 x10 x11) (h8 : d 8) (hz : hi ≤ w'.heap.size) : ∃ cs, x8 = .tuple #[.agg cs, .int .i64 (erV cs)] ∧ MoreI H lo hi N mk B Q (fun i => i = 9 ∨ d i) w' x1 x6 x7 x8 (.agg cs) x10 x11 := by
 obtain ⟨v, an, cn, ai, ci, rfl, hm⟩ := h.2.2.2.1.move (s' := 9) h8 (by decide)
 exact ⟨_, rfl, h.1.next (Below.refl _ _) hz 9 (by decide) (by decide), h.2.1.on 9 (h.2.1 8 (by decide) h8), h.2.2.1.same (Below.refl _ _) 9 (by decide) (by decide), h.2.2.2.1.same (Below.refl _ _) 9 (by decide) (by decide), hm _,
   fun _ => ⟨.inr h8, _, rfl, rfl⟩, fun h9 => have q := h.2.2.2.2.2.2 (h9.resolve_left (by decide)); ⟨.inr q.1, q.2⟩⟩
theorem MoreI.s10 (h : MoreI H lo hi N mk B Q d w' x1 x6 x7 x8 x9 x10 x11) (h8 : d 8) (hz : hi ≤ w'.heap.size) : ∃ cs, x8 = .tuple #[.agg cs, .int .i64 (erV cs)] ∧ MoreI H lo hi N mk B Q (fun i => i = 10 ∨ d i) w' x1 x6 x7 x8 x9 (.int .i64 (erV cs)) x11 := by
 obtain ⟨v, an, cn, ai, ci, rfl, hm⟩ := h.2.2.2.1.move (s' := 9) h8 (by decide)
 exact ⟨_, rfl, h.1.next (Below.refl _ _) hz 10 (by decide) (by decide), h.2.1.on 10 (h.2.1 8 (by decide) h8), h.2.2.1.same (Below.refl _ _) 10 (by decide) (by decide), h.2.2.2.1.same (Below.refl _ _) 10 (by decide) (by decide), h.2.2.2.2.1.same (Below.refl _ _) 10 (by decide) (by decide),
   fun h9 => have q := h.2.2.2.2.2.1 (h9.resolve_left (by decide)); ⟨.inr q.1, q.2⟩, fun _ => ⟨.inr h8, _, rfl, rfl⟩⟩
theorem MoreI.s11 (h : MoreI H lo hi N mk B Q d w' x1 x6 x7 x8 x9 x10 x11) (o : Obj) (hz : hi ≤ w'.heap.size) : MoreI H lo hi N mk B Q (fun i => i = 11 ∨ d i) (w'.alloc o) x1 x6 x7 x8 x9 x10 (.pointer (some ⟨w'.heap.size, 0, none⟩)) :=
 ⟨h.1.next ((Below.refl _ _).alloc (Nat.le_refl _) _) hz 11 (by decide) (by decide), h.2.1.out 11 (by decide), h.2.2.1.alloc o (by decide), h.2.2.2.1.alloc o (by decide), h.2.2.2.2.1.alloc o (by decide),
   fun h9 => have q := h.2.2.2.2.2.1 (h9.resolve_left (by decide)); ⟨.inr q.1, q.2⟩, fun h9 => have q := h.2.2.2.2.2.2 (h9.resolve_left (by decide)); ⟨.inr q.1, q.2⟩⟩
theorem MoreI.out (h : MoreI H lo hi N mk B Q d w' x1 x6 x7 x8 x9 x10 x11) (h9 : d 9) : ∃ v l2 h2 an cn ai ci, Q v ∧ x8 = .tuple #[.agg (aggV v an cn ai ci), .int .i64 (erV (aggV v an cn ai ci))] ∧ x9 = .agg (aggV v an cn ai ci) ∧ (d 10 → x10 = .int .i64 (erV (aggV v an cn ai ci))) ∧ B ≤ l2 ∧ h2 ≤ w'.heap.size ∧ Rep w' l2 h2 v (.agg (aggV v an cn ai ci)) ∧ (d 11 → ∀ b, x11 = .pointer (some ⟨b, 0, none⟩) → ¬ (l2 ≤ b ∧ b < h2)) := by
 obtain ⟨v, l2, h2, an, cn, ai, ci, a, rfl, b, c, f, g⟩ := h.2.2.2.2.1 h9
 obtain ⟨h8, cs, rfl, e⟩ := h.2.2.2.2.2.1 h9
 cases e
 refine ⟨v, l2, h2, an, cn, ai, ci, a, rfl, rfl, fun h10 => ?_, b, c, f, g⟩
 obtain ⟨_, cs, e1, e2⟩ := h.2.2.2.2.2.2 h10
 simp only [erT, tupR, Value.tuple.injEq, Array.mk.injEq, List.cons.injEq, Value.agg.injEq] at e1
 rw [e2, ← e1.1]
end
end Go.Proofs.YtgghgcilpfdbjaaGreatDoor
