/- The contract of snap.parseMeta, of pins with hashes too. Printed by genmetag.py. -/
import Derived.Test.YtgghgcilpfdbjaaGreatDoorSu26
import Derived.Test.YtgghgcilpfdbjaaGreatDoorSu19

namespace Go.Proofs.YtgghgcilpfdbjaaGreatDoor
open Go.RowKit
def pinOfA (f : ByteArray) (v : JV) : PinV × Int := if ((roleOf f).isNone || !v.mayB) = true then (pinZ, 3) else if v.kind ≠ 5 then (pinZ, 10) else pinOfK f v
def PinAPost (r : PinV × Int) (w : World) (e : Ending) (w' : World) : Prop :=
 ∃ ha hc, e = .returned (.tuple #[.agg #[.string r.1.name, .int .i64 r.1.ver, .int .i64 r.1.len, .slice ha r.1.hs.length hc], .int .i64 r.2]) ∧ KeysW w' w.heap.size w'.heap.size ha r.1.hs ∧ r.1.hs.length ≤ hc ∧ Below w.heap.size w w'
set_option maxHeartbeats 4000000 in
set_option maxRecDepth 100000 in
theorem snapPinOfN (f : ByteArray) (v : JV) (x : Value) (w : World) (hN : v.wt ≤ 4294967296) (hR : Rep w 0 w.heap.size v x) (hk : v.kind ≠ 5) (hf : f.size ≤ 9223372036854775807) :
   Calls Tryz.prog 29 #[.string f, x] w (PinAPost (pinOfA f v) w) := by
 obtain ⟨an, cn, ai, ci, hx, h1, h2, h3, h4⟩ := hR.parts
 clear h1 h2 h3 h4
 subst hx
 obtain ⟨W2, hW2⟩ : ∃ W2, W2 = (w.alloc (.cells #[.int .u8 v.kind, .int .i64 v.n, .string v.t, .slice an v.names.length cn, .slice ai v.items.length ci] 30)).alloc (.cells #[.string { data := #[] }, .int .i64 0, .int .i64 0, .slice none 0 0] 36) := ⟨_, rfl⟩
 have hz1 : (w.alloc (.cells #[.int .u8 v.kind, .int .i64 v.n, .string v.t, .slice an v.names.length cn, .slice ai v.items.length ci] 30)).heap.size = w.heap.size + 1 := by simp
 have hz2 : W2.heap.size = w.heap.size + 2 := by rw [hW2]; simp
 have hb2 : Below w.heap.size w W2 := by rw [hW2]; exact ((Below.refl _ _).alloc (Nat.le_refl _) _).alloc (by simp) _
 have hx0 : W2.heap[w.heap.size]? = some (.cells #[.int .u8 v.kind, .int .i64 v.n, .string v.t, .slice an v.names.length cn, .slice ai v.items.length ci] 30 (0, 0)) := by rw [hW2, Below.heap_alloc _ _ _ (by simp)]; exact heap_alloc_new w _
 have hr0 : W2.rowIs (w.heap.size + 1) 36 4 (pick4 (.string { data := #[] }) (.int .i64 0) (.int .i64 0) (.slice none 0 0)) := by
   have := rowIs_box4 (w.alloc (.cells #[.int .u8 v.kind, .int .i64 v.n, .string v.t, .slice an v.names.length cn, .slice ai v.items.length ci] 30)) (.string { data := #[] }) (.int .i64 0) (.int .i64 0) (.slice none 0 0) 36
   rw [hz1, ← hW2] at this
   exact this
 have HRN := Lib.hid (nameRoleOf f W2 hf)
 have HM := Lib.hid (valueMay v _ W2 hN (hR.below hb2 (Nat.le_refl _) (Nat.zero_le _) hb2.size))
 have HW := Lib.hid hW2
 have HB2 := Lib.hid hb2
 have HX0 := Lib.hid hx0
 have HR0 := Lib.hid hr0
 have HZ := Lib.hid hz2
 have HK := Lib.hid hk
 clear hR hW2 hb2 hx0 hr0 hz1 hz2 hk
 have HC := Lib.hid (show ∀ w' : World, Below W2.heap.size W2 w' → w'.cell? ⟨w.heap.size, 0, none⟩ = some (.int .u8 v.kind) ∧ w'.cell? ⟨w.heap.size, 1, none⟩ = some (.int .i64 v.n) ∧ w'.cell? ⟨w.heap.size, 2, none⟩ = some (.string v.t) ∧ w'.cell? ⟨w.heap.size, 3, none⟩ = some (.slice an v.names.length cn) ∧ w'.cell? ⟨w.heap.size, 4, none⟩ = some (.slice ai v.items.length ci) from fun w' h => by
   have x := (h.block _ (heap_lt HX0.out)).trans HX0.out
   exact ⟨box_cell x rfl, box_cell x rfl, box_cell x rfl, box_cell x rfl, box_cell x rfl⟩)
 obtain ⟨c0, c1, c2, c3, c4⟩ := HC.out W2 (Below.refl _ _)
 have HEND := Lib.hid (show ∀ (w' : World) (er : Int), pinOfA f v = (pinZ, er) → Below W2.heap.size W2 w' → PinAPost (pinOfA f v) w (.returned (.tuple #[.agg #[.string { data := #[] }, .int .i64 0, .int .i64 0, .slice none 0 0], .int .i64 er])) ((((w'.setCell ⟨w.heap.size + 1, 0, none⟩ (.string { data := #[] })).setCell ⟨w.heap.size + 1, 1, none⟩ (.int .i64 0)).setCell ⟨w.heap.size + 1, 2, none⟩ (.int .i64 0)).setCell ⟨w.heap.size + 1, 3, none⟩ (.slice none 0 0)) from fun w' er he hb => by
   unfold PinAPost
   rw [he]
   exact ⟨none, 0, rfl, KeysW.nil _ _ _ _, Nat.le_refl _, below4 _ _ _ _ (HB2.out.trans (hb.mono HB2.out.size)) (by omega)⟩)
 by_cases hre : roleErr f = 0
 case neg =>
   have HX := Lib.hid (show pinOfA f v = (pinZ, 3) by unfold pinOfA; rw [roleErr_1 hre]; rfl)
   obtain ⟨re, hre'⟩ : ∃ re, re = roleErr f := ⟨_, rfl⟩
   rw [← hre'] at hre HRN
   have hd1 : (re == 0) = false := by simpa using hre
   have hd2 : (re != 0) = true := by simpa using hre
   have hr := HR0.out
   have t0 := hr.cell (i := 0) (by decide); have t1 := hr.cell (i := 1) (by decide); have t2 := hr.cell (i := 2) (by decide); have t3 := hr.cell (i := 3) (by decide); have s0 := hr.frozen 0; have s1 := hr.frozen 1; have s2 := hr.frozen 2; have s3 := hr.frozen 3
   simp only [pick4] at t0 t1 t2 t3
   have HRS := Lib.hid hr
   clear hr hre hre'
   go_enter Tryz.func29, Tryz.ntmps29
   go_upto_region 1 with fail
   rw [← HW.out]
   go_wp2_with fail
   refine HRN.out.mono ?_
   rintro e w' ⟨rfl, h'⟩
   subst h'
   go_wp2
   exact bodyPost_ret (results_row_tmp Tryz.results29 _ _ (w.heap.size + 1) 36 _ (0, 0) _ rfl (row4_heap (set4 _ _ _ _ HRS.out)) Tryz.underlying36 rfl (by kernel_rfl) _ rfl) rfl (HEND.out _ _ HX.out (Below.refl _ _))
 have HRE := Lib.hid (roleErr_0 hre)
 rw [hre] at HRN
 clear hre
 go_enter Tryz.func29, Tryz.ntmps29
 go_upto_region 1 with fail
 rw [← HW.out]
 go_wp2_with fail
 refine HRN.out.mono ?_
 rintro e w' ⟨rfl, h'⟩
 subst h'
 cases hm : v.mayB with
 | false =>
   have HX := Lib.hid (show pinOfA f v = (pinZ, 3) by unfold pinOfA; rw [HRE.out, hm]; rfl)
   rw [hm] at HM
   clear hm
   go_wp2_with fail
   refine HM.out.mono ?_
   rintro e w1 ⟨rfl, hb1⟩
   have hr := below_row hb1 HR0.out HR0.out.lt
   have HBE := Lib.hid hb1
   have t0 := hr.cell (i := 0) (by decide); have t1 := hr.cell (i := 1) (by decide); have t2 := hr.cell (i := 2) (by decide); have t3 := hr.cell (i := 3) (by decide); have s0 := hr.frozen 0; have s1 := hr.frozen 1; have s2 := hr.frozen 2; have s3 := hr.frozen 3
   simp only [pick4] at t0 t1 t2 t3
   have HRS := Lib.hid hr
   clear hr hb1 c0 c1 c2 c3 c4
   go_wp2
   exact bodyPost_ret (results_row_tmp Tryz.results29 _ _ (w.heap.size + 1) 36 _ (0, 0) _ rfl (row4_heap (set4 _ _ _ _ HRS.out)) Tryz.underlying36 rfl (by kernel_rfl) _ rfl) rfl (HEND.out _ _ HX.out HBE.out)
 | true =>
   have HX := Lib.hid (show pinOfA f v = (pinZ, 10) by unfold pinOfA; rw [HRE.out, hm, if_neg (by decide), if_pos HK.out])
   rw [hm] at HM
   clear hm
   go_wp2_with fail
   refine HM.out.mono ?_
   clear c0 c1 c2 c3 c4
   rintro e w1 ⟨rfl, hb1⟩
   have HB1 := Lib.hid hb1
   obtain ⟨c0, c1, c2, c3, c4⟩ := HC.out w1 hb1
   have HOB := Lib.hid (pickOf_bad v.kind v.n v.t (.slice an v.names.length cn) (.slice ai v.items.length ci) w1 HK.out)
   clear hb1
   go_wp2_with fail
   refine HOB.out.mono ?_
   clear HOB c0 c1 c2 c3 c4
   rintro e w2 ⟨o, rfl, ho1, ho2, hpb, hb2⟩
   obtain ⟨W3, hW3⟩ : ∃ W3, W3 = w2.alloc (.cells #[.string f, .int .i64 0, .int .i64 (-1), .slice none 0 0] 36) := ⟨_, rfl⟩
   have hb3 : Below w2.heap.size w2 W3 := by rw [hW3]; exact (Below.refl _ _).alloc (Nat.le_refl _) _
   have hq3 : W3.rowIs w2.heap.size 36 4 (pick4 (.string f) (.int .i64 0) (.int .i64 (-1)) (.slice none 0 0)) := by rw [hW3]; exact rowIs_box4 _ _ _ _ _ _
   have HPB := Lib.hid (hpb.below hb3 ho2)
   have HQ3 := Lib.hid hq3
   have HB3 := Lib.hid (HB1.out.trans ((hb2.trans (hb3.mono hb2.size)).mono HB1.out.size))
   have HO := Lib.hid (show o < w2.heap.size ∧ w2.heap.size < W3.heap.size ∧ w1.heap.size ≤ w2.heap.size from ⟨ho2, hq3.lt, hb2.size⟩)
   have HN3 := Lib.hid (numBad o 10 verN 1 1099511627776 W3 HPB.out (Nat.lt_trans ho2 hq3.lt))
   clear hb3 hq3 hpb ho1 ho2 hb2
   go_upto_region 6 with fail
   rw [← hW3]
   clear hW3
   go_wp2_with fail
   refine HN3.out.mono ?_
   clear HN3
   rintro e w4 ⟨rfl, hb4⟩
   have hq4 := below_row hb4 HQ3.out HQ3.out.lt
   have hp4 := HPB.out.below hb4 (by have := HO.out; omega)
   obtain ⟨W5, hW5⟩ : ∃ W5, W5 = w4.setCell ⟨w2.heap.size, 1, none⟩ (.int .i64 0) := ⟨_, rfl⟩
   have ht5 : Touch (fun b => b = w2.heap.size) w4 W5 := by rw [hW5]; exact touch_put _
   have hp5 : PickBad o 10 W5 := by
     obtain ⟨h1, h2, k, h3⟩ := hp4
     have hz := hb4.size
     have ho := HO.out
     exact ⟨h1, by rw [ht5.cell (p := ⟨o, 6, none⟩) (show o < w4.heap.size by omega) (show ¬ o = w2.heap.size by omega)]; exact h2, k, by rw [ht5.cell (p := ⟨o, 0, none⟩) (show o < w4.heap.size by omega) (show ¬ o = w2.heap.size by omega)]; exact h3⟩
   have u1 := hq4.cell (i := 1) (by decide)
   have f1 := hq4.frozen 1
   simp only [pick4] at u1
   have HP5 := Lib.hid hp5
   have hB3 := HB3.out.trans (hb4.mono HB3.out.size)
   have HB5 := Lib.hid (hB3.setCell (p := ⟨w2.heap.size, 1, none⟩) (Nat.le_trans HB1.out.size HO.out.2.2) (.int .i64 0))
   rw [← hW5] at HB5
   have hr5 := below_row HB5.out HR0.out HR0.out.lt
   have HRS := Lib.hid hr5
   have HW5 := Lib.hid hW5
   clear hq4 hp4 ht5 hp5 hW5 hb4 hr5
   go_upto_region 7 with fail
   rw [← HW5.out]
   clear u1 f1
   go_wp2_with fail
   refine (hasBad o 10 lenN W5 HP5.out).mono ?_
   rintro e w' ⟨rfl, h'⟩
   subst h'
   go_wp2_with fail
   refine (hasBad o 10 hasN W5 HP5.out).mono ?_
   rintro e w' ⟨rfl, h'⟩
   subst h'
   obtain ⟨k5, hk5⟩ := HP5.out.2.2
   have HDE := Lib.hid (doneErr o 10 k5 W5 (by decide) HP5.out.2.1 hk5)
   clear hk5
   go_wp2_with fail
   refine HDE.out.mono ?_
   rintro e w' ⟨rfl, h'⟩
   subst h'
   have hr := HRS.out
   have t0 := hr.cell (i := 0) (by decide); have t1 := hr.cell (i := 1) (by decide); have t2 := hr.cell (i := 2) (by decide); have t3 := hr.cell (i := 3) (by decide); have s0 := hr.frozen 0; have s1 := hr.frozen 1; have s2 := hr.frozen 2; have s3 := hr.frozen 3
   simp only [pick4] at t0 t1 t2 t3
   clear hr
   go_wp2
   exact bodyPost_ret (results_row_tmp Tryz.results29 _ _ (w.heap.size + 1) 36 _ (0, 0) _ rfl (row4_heap (set4 _ _ _ _ HRS.out)) Tryz.underlying36 rfl (by kernel_rfl) _ rfl) rfl (HEND.out _ _ HX.out HB5.out)
theorem snapPinOfA (f : ByteArray) (v : JV) (x : Value) (w : World) (lo hi : Nat) (hN : v.wt ≤ 4294967296) (hlo : 0 < lo) (hhi : hi ≤ w.heap.size) (hR : Rep w lo hi v x) (hf : f.size ≤ 9223372036854775807) :
   Calls Tryz.prog 29 #[.string f, x] w (PinAPost (pinOfA f v) w) := by
 by_cases hk : v.kind = 5
 case neg => exact snapPinOfN f v x w hN (hR.carry (Nat.zero_le _) hhi (fun _ _ _ => rfl)) hk hf
 refine (snapPinOfG (fun u => u = v) f v x w hN (hR.carry (Nat.zero_le _) hhi (fun _ _ _ => rfl)) hk hf (fun hm w1 hb => by
   obtain ⟨hri, hle, _⟩ := may_obj hm hk
   exact (pickOf_good v x w1 lo hi hN (Nat.le_trans hhi hb.size) (hR.below hb hhi (Nat.le_refl _) (Nat.le_refl _)) hk hri hle (fun _ _ => .inl hlo)).mono fun e w' h => ⟨v, rfl, h⟩)).mono ?_
 rintro e w' ⟨r, ha, hc, hr, rfl, h1, h2, h3⟩
 have : r = pinOfA f v := by
   unfold pinOfA
   rcases hr with ⟨ha, rfl⟩ | ⟨ha, u, rfl, rfl⟩
   · rw [if_pos ha]
   · rw [if_neg (by rw [ha]; decide), if_neg (by simp [hk])]
 subst this
 exact ⟨ha, hc, rfl, h1, h2, h3⟩
end Go.Proofs.YtgghgcilpfdbjaaGreatDoor

namespace Go.Proofs.YtgghgcilpfdbjaaGreatDoor
open Go.RowKit Go.Lib
def metaG : List ByteArray → List JV → PS → List PinV → List PinV × PS
 | f :: fs, x :: xs, st, acc => if (pinOfA f x).2 ≠ 0 then (acc, st.fail (pinOfA f x).2) else metaG fs xs st (acc ++ [(pinOfA f x).1])
 | _, _, st, acc => (acc, st)
theorem metaG_bad {ns : List ByteArray} {xs : List JV} {st : PS} {ps : List PinV} (k : Nat) (h1 : k < ns.length) (h2 : k < xs.length) (h : (pinOfA ns[k] xs[k]).2 ≠ 0) : metaG (ns.drop k) (xs.drop k) st ps = (ps, st.fail (pinOfA ns[k] xs[k]).2) := by
 rw [List.drop_eq_getElem_cons h1, List.drop_eq_getElem_cons h2, metaG, if_pos h]
theorem metaG_ok {ns : List ByteArray} {xs : List JV} {st : PS} {ps : List PinV} (k : Nat) (h1 : k < ns.length) (h2 : k < xs.length) (h : (pinOfA ns[k] xs[k]).2 = 0) : metaG (ns.drop k) (xs.drop k) st ps = metaG (ns.drop (k + 1)) (xs.drop (k + 1)) st (ps ++ [(pinOfA ns[k] xs[k]).1]) := by
 rw [List.drop_eq_getElem_cons h1, List.drop_eq_getElem_cons h2, metaG, if_neg (by simp [h])]
theorem metaG_end {ns : List ByteArray} {xs : List JV} {st : PS} {ps : List PinV} (k : Nat) (h1 : ns.length ≤ k) : metaG (ns.drop k) (xs.drop k) st ps = (ps, st) := by
 rw [List.drop_eq_nil_of_le h1]; rfl
def MetaGPost (o m lo hi p : Nat) (v : JV) (an ai : Option Addr) (cn ci : Nat) (ps : List PinV) (st : PS) (x0 x1 : Value) (w : World) (r : Ending) (w' : World) : Prop :=
 ∃ vs qs, r = .returned (.tuple #[]) ∧ PickAt o m lo hi v an ai cn ci st w' ∧ w'.rowIs p 24 3 (pick3 x0 x1 vs) ∧ PinsOwn w.heap.size w' vs qs ∧ qs.map (·.1) = ps ∧ Touch (fun b => b = o ∨ b = m ∨ b = p) w w'
set_option maxHeartbeats 4000000 in
set_option maxRecDepth 100000 in
theorem snapParseMetaG (o m lo hi p : Nat) (v : JV) (an ai : Option Addr) (cn ci : Nat) (st : PS) (x0 x1 : Value) (w : World) (hP : PickAt o m lo hi v an ai cn ci st w) (ha : st.asked.length ≤ 4294967296) (hr : w.rowIs p 24 3 (pick3 x0 x1 (.slice none 0 0))) (hpo : p ≠ o) (hpm : p ≠ m) (hph : hi ≤ p) (hlo : 0 < w.heap.size)
   (hnn : (pickObj v metN 256 st).1.names.length = (pickObj v metN 256 st).1.items.length) (hwt : (pickObj v metN 256 st).1.wt ≤ 4294967296) (hsz : (pickObj v metN 256 st).1.items.length ≤ 256) (hns : ∀ k (h : k < (pickObj v metN 256 st).1.names.length), (pickObj v metN 256 st).1.names[k].size ≤ 4294967296) :
   Calls Tryz.prog 116 #[.pointer (some ⟨o, 0, none⟩), .pointer (some ⟨p, 0, none⟩)] w (MetaGPost o m lo hi p v an ai cn ci (metaG (pickObj v metN 256 st).1.names (pickObj v metN 256 st).1.items (pickObj v metN 256 st).2 []).1 (metaG (pickObj v metN 256 st).1.names (pickObj v metN 256 st).1.items (pickObj v metN 256 st).2 []).2 x0 x1 w) := by
 have ho : o < w.heap.size := heap_lt hP.obj
 have hm : m < w.heap.size := by obtain ⟨D, n, h, _⟩ := hP.map; exact h.lt
 have hpl : p < w.heap.size := hr.lt
 have HOB := Lib.hid (pickObjF o m lo hi v an ai cn ci metN 256 st w hP (by decide) ha)
 have HR := Lib.hid hr
 have HNE := Lib.hid (And.intro (show p ≠ o ∧ p ≠ m ∧ hi ≤ p from ⟨hpo, hpm, hph⟩) (show o < w.heap.size ∧ m < w.heap.size ∧ p < w.heap.size from ⟨ho, hm, hpl⟩))
 have HLO := Lib.hid hlo
 clear hP hr ho hm hpl hpo hpm hph hlo
 go_enter Tryz.func116, Tryz.ntmps116
 go_wp2_with fail
 refine HOB.out.mono ?_
 clear HOB
 rintro r w1 ⟨⟨an2, cn2, ai2, ci2, rfl, hrep⟩, hp1, ht1⟩
 obtain ⟨M, hM⟩ : ∃ M, M = pickObj v metN 256 st := ⟨_, rfl⟩
 have HM := Lib.hid hM
 rw [← hM] at hnn hwt hsz hns hp1 hrep ⊢
 clear hM
 obtain ⟨J, sm⟩ := M
 dsimp only at hnn hwt hsz hns hp1 hrep ⊢
 have HNS := Lib.hid hns
 have HNN := Lib.hid hnn
 have HWT := Lib.hid hwt
 have HSZ := Lib.hid hsz
 have HREP := Lib.hid hrep
 have HP1 := Lib.hid hp1
 have HT1 := Lib.hid ht1
 have HR1 := Lib.hid (ht1.row HR.out (by have := HNE.out; omega))
 have HZ1 := Lib.hid ht1.size
 clear hnn hwt hsz hns hrep hp1 ht1
 obtain ⟨WM, hWM⟩ : ∃ WM, WM = w1.alloc (.cells #[.int .u8 J.kind, .int .i64 J.n, .string J.t, .slice an2 J.names.length cn2, .slice ai2 J.items.length ci2] 30) := ⟨_, rfl⟩
 have hbM : Below w1.heap.size w1 WM := by rw [hWM]; exact (Below.refl _ _).alloc (Nat.le_refl _) _
 have hxM : WM.heap[w1.heap.size]? = some (.cells #[.int .u8 J.kind, .int .i64 J.n, .string J.t, .slice an2 J.names.length cn2, .slice ai2 J.items.length ci2] 30 (0, 0)) := by rw [hWM]; exact heap_alloc_new w1 _
 have HXM := Lib.hid hxM
 have HBM := Lib.hid hbM
 have HPM := Lib.hid (HP1.out.below hbM)
 have HRM := Lib.hid (below_row hbM HR1.out HR1.out.lt)
 have HTM := Lib.hid (show Touch (fun b => b = o ∨ b = m ∨ b = p) w WM from (HT1.out.mono (fun k _ h => h.elim .inl (fun h => .inr (.inl h)))).trans (Touch.of_below hbM (Nat.le_refl _)))
 have HWM := Lib.hid hWM
 clear hbM hxM hWM
 go_upto_region 1 with fail
 rw [← HWM.out]
 have c3 : WM.cell? ⟨w1.heap.size, 3, none⟩ = some (.slice an2 J.names.length cn2) := box_cell HXM.out rfl
 go_wp2
 clear c3
 go_loopw [5, 6, 7, 8, 14] (fun _ _ _ _ i wr => ∃ (k : Nat) (qs : List PinC) (vs : Value), k ≤ J.names.length ∧ i = .int .i64 k ∧ qs.length ≤ k ∧ metaG J.names J.items sm [] = metaG (J.names.drop k) (J.items.drop k) sm (qs.map (·.1)) ∧ wr.rowIs p 24 3 (pick3 x0 x1 vs) ∧ PinsOwn WM.heap.size wr vs qs ∧ Touch (fun b => b = p) WM wr) (fun _ _ _ _ i _ => J.names.length - (intOf i).toNat)
 case atStart => exact ⟨0, [], .slice none 0 0, by omega, rfl, by simp, rfl, HRM.out, PinsOwn.nil _ _, Touch.refl _ _⟩
 case round =>
   obtain ⟨k, qs, vs, hk, rfl, hpk, hmo, hrow, hown, ht⟩ := hrel
   have htz := ht.size
   have hzM : w1.heap.size < WM.heap.size := heap_lt HXM.out
   have HREPr := Rep.carry (lo' := w.heap.size) (hi' := w1.heap.size) (Nat.le_refl _) (Nat.le_refl _) (fun b h1 h2 => (ht.block b (by omega) (by have := HNE.out; omega)).trans (HBM.out.block b h2)) _ _ HREP.out
   have c4 : wr.cell? ⟨w1.heap.size, 4, none⟩ = some (.slice ai2 J.items.length ci2) := box_cell ((ht.block _ hzM (by have := HNE.out; have := HZ1.out; omega)).trans HXM.out) rfl
   obtain ⟨an0, cn0, ai0, ci0, hx, -, -, h3, h4⟩ := HREPr.parts
   simp only [Value.agg.injEq, Array.mk.injEq, List.cons.injEq, Value.slice.injEq, true_and, and_true] at hx
   obtain ⟨⟨rfl, rfl⟩, rfl, rfl⟩ := hx
   have HROW := Lib.hid hrow
   have HOWN := Lib.hid hown
   have HMO := Lib.hid hmo
   have HT := Lib.hid ht
   have HZ := Lib.hid (show w1.heap.size < wr.heap.size by omega)
   have HPR := Lib.hid (HPM.out.touch ht HNE.out.1.1 HNE.out.1.2.1 HNE.out.1.2.2)
   have HZM := Lib.hid hzM
   clear hrow hown hmo ht htz hzM HREPr
   by_cases hlt : k < J.names.length
   · have hlt2 : k < J.items.length := by have := HNN.out; omega
     obtain ⟨bn, on, ha, _, _, n0⟩ := h3.at k hlt
     obtain ⟨bi, oi, an3, cn3, ai3, ci3, hai, _, _, y0, y1, y2, y3, y4, hry⟩ := h4.get k hlt2
     subst ha hai
     have hwk := JV.wts_get J.items k hlt2
     have hbd := J.wt_bd
     have HPO := Lib.hid (snapPinOfA J.names[k] J.items[k] _ wr w.heap.size w1.heap.size (by have := HWT.out; omega) HLO.out (Nat.le_of_lt HZ.out) hry (by have := HNS.out k hlt; omega))
     have HMB := Lib.hid (metaG_bad (st := sm) (ps := qs.map (·.1)) k hlt hlt2)
     have HMK := Lib.hid (metaG_ok (st := sm) (ps := qs.map (·.1)) k hlt hlt2)
     obtain ⟨PO, hPO⟩ : ∃ PO, PO = pinOfA J.names[k] J.items[k] := ⟨_, rfl⟩
     rw [← hPO] at HPO HMB HMK
     generalize J.names[k] = fk at *
     generalize J.items[k] = xk at *
     clear h3 h4 hry hwk hbd hPO
     obtain ⟨⟨pn, pv, pl, phs⟩, er⟩ := PO
     dsimp only at HPO HMB HMK
     go_wp2_with fail
     refine HPO.out.mono ?_
     clear HPO y0 y1 y2 y3 y4 n0 c4
     rintro r w2 ⟨ah, ch, rfl, hkh, hcp, hb2⟩
     have HKH := Lib.hid hkh
     have HCP := Lib.hid hcp
     clear hkh hcp
     obtain ⟨WX, hWX⟩ : ∃ WX, WX = w2.alloc (.cells #[.string pn, .int .i64 pv, .int .i64 pl, .slice ah phs.length ch] 36) := ⟨_, rfl⟩
     have hbX : Below wr.heap.size wr WX := by rw [hWX]; exact hb2.alloc hb2.size _
     have hxX : WX.heap[w2.heap.size]? = some (.cells #[.string pn, .int .i64 pv, .int .i64 pl, .slice ah phs.length ch] 36 (0, 0)) := by rw [hWX]; exact heap_alloc_new w2 _
     have HBX := Lib.hid hbX
     have HXX := Lib.hid hxX
     have HWX := Lib.hid hWX
     have HZX := Lib.hid (show wr.heap.size ≤ w2.heap.size from hb2.size)
     clear hb2 hbX hxX hWX
     go_upto_region 5 with fail
     rw [← HWX.out]
     by_cases he : er = 0
     · subst he
       have HMK2 := Lib.hid (HMK.out rfl)
       clear HMB HMK
       obtain ⟨i1, hi1, hy0, hy1, hy2⟩ := info_parts infoPin
       obtain ⟨sv, cv, rfl⟩ := owns_slice HOWN.out.own
       have hrowX := below_row HBX.out HROW.out HROW.out.lt
       have hownX := HOWN.out.below HBX.out
       have HRX := Lib.hid hrowX
       have HOX := Lib.hid hownX
       have HCL := Lib.hid (show ∀ w' : World, Below WX.heap.size WX w' → w'.cell? ⟨p, 2, none⟩ = some (.slice sv qs.length cv) ∧ w'.cell? ⟨w2.heap.size, 0, none⟩ = some (.string pn) ∧ w'.cell? ⟨w2.heap.size, 1, none⟩ = some (.int .i64 pv) ∧ w'.cell? ⟨w2.heap.size, 2, none⟩ = some (.int .i64 pl) ∧ w'.cell? ⟨w2.heap.size, 3, none⟩ = some (.slice ah phs.length ch) from fun w' h => by
         have x := (h.block _ (heap_lt HXX.out)).trans HXX.out
         exact ⟨by have := (below_row h HRX.out HRX.out.lt).cell (i := 2) (by decide); simpa [pick3] using this, box_cell x rfl, box_cell x rfl, box_cell x rfl, box_cell x rfl⟩)
       have hpsl : qs.length ≤ 256 := by have := HSZ.out; have := HNN.out; omega
       have HPSL := Lib.hid hpsl
       clear hrowX hownX hpsl
       have HOD := Lib.hid (show WX.drew.ownsRow WM.heap.size 36 4 (.slice sv qs.length cv) qs.length (qs.flatMap encQ) from owns_below HOX.out.own ((Below.refl _ _).drew))
       have hwm : WM.heap.size ≤ WX.heap.size := by have h2 := HBX.out.size; have h3 := HT.out.size; omega
       have hpsl := HPSL.out
       have hkb : k < 256 := by have := HSZ.out; omega
       have hpn : some p ≠ (Value.slice sv qs.length cv).ownBlock := fun e => by have := (HOX.out.own.lt _ e.symm).1; have := HNE.out; have := HZ1.out; have := HZM.out; omega
       have hpl : p < WX.heap.size := HRX.out.lt
       have hflen := flatQ_len qs
       obtain ⟨e2, y0, y1, y2, y3⟩ := HCL.out WX (Below.refl _ _)
       have fp2 := HRX.out.frozen 2
       go_upto_region 7 with fail
       go_region_law (refine step_append_lies _ (by rfl) (.tmp 38) (.tmp 40) 22 (by rfl) WM.heap.size 36 i1 _ 4 56 Tryz.underlying22 hi1 hy0 hy1 hy2 rfl (by omega) (.slice sv qs.length cv) qs.length (qs.flatMap encQ) (by rfl) (HOD.out.alloc _) ⟨WX.heap.size, 0, none⟩ 1 1 (Array.toList #[.string pn, .int .i64 pv, .int .i64 pl, .slice ah phs.length ch]) (by rfl) (by rfl) (World.news_of_block (cs := #[.string pn, .int .i64 pv, .int .i64 pl, .slice ah phs.length ch]) (t := 36) (fr := (0, 0)) (heap_alloc_new WX.drew _)) (by simp [Value.oneCell']) (by omega) (by unfold maxLen; omega) (by omega) (by simp; omega) (WX.heap.size + 1) (by simp) ?_; intro g2 cap3 w4 hown4 hgrow4 hat4 hlt4; have c44 : w4.cell? ⟨p, 2, none⟩ = some (.slice sv qs.length cv) := (World.cell?_of_block (hgrow4.block p (by simp; omega) hpn)).trans ((cell_alloc_lt _ (show p < WX.drew.heap.size from hpl)).trans e2); have f44 : w4.frozen? ⟨p, 2, none⟩ = false := (World.frozen?_of_block (hgrow4.block p (by simp; omega) hpn)).trans ((((Below.refl WX.drew.heap.size WX.drew).alloc (Nat.le_refl _) _).frozen (show p < WX.drew.heap.size from hpl)).trans fp2); have HO4 := Lib.hid hown4; have HG4 := Lib.hid hgrow4; have HA4 := Lib.hid hat4; clear hown4 hgrow4 hat4)
       all_goals
         have tt := fun (ob : Obj) => HT.out.trans (Touch.of_below (S := fun b => b = p) (HBX.out.trans (((Below.refl WX.heap.size WX).drew.alloc (Nat.le_refl _) ob).mono HBX.out.size)) (Nat.le_refl _))
         have hr4 : w4.rowIs p 24 3 (pick3 x0 x1 (.slice sv qs.length cv)) := HRX.out.of_block ((HG4.out.block p (by simp; omega) hpn).trans (Below.heap_alloc _ _ _ (show p < WX.drew.heap.size from hpl)))
         have tt := tt (.cells #[.string pn, .int .i64 pv, .int .i64 pl, .slice ah phs.length ch] 36)
         have ht4 : Touch (fun b => b = p) WM w4 := ⟨HG4.out.os.trans tt.os, HG4.out.tape.trans tt.tape, HG4.out.output.trans tt.output, Nat.le_trans tt.size HG4.out.size, fun q hq hn => (HG4.out.block q (Nat.lt_of_lt_of_le hq tt.size) (fun e => by have := (HOX.out.own.lt _ e.symm).1; omega)).trans (tt.block q hq hn)⟩
         have HFR := Lib.hid (show (w4.setCell ⟨p, 2, none⟩ (.slice (some ⟨g2, 0, none⟩) (qs.length + 1) cap3)).rowIs p 24 3 (pick3 x0 x1 (.slice (some ⟨g2, 0, none⟩) (qs.length + 1) cap3)) from by
           refine (hr4.set 2 _).congr fun j hj => ?_
           rcases j with _ | _ | _ | j <;> first | rfl | omega)
         have HFO := Lib.hid (show PinsOwn WM.heap.size (w4.setCell ⟨p, 2, none⟩ (.slice (some ⟨g2, 0, none⟩) (qs.length + 1) cap3)) (.slice (some ⟨g2, 0, none⟩) (qs.length + 1) cap3) (qs ++ [((⟨pn, pv, pl, phs⟩, ah, ch) : PinC)]) from by
           have hbd : Below WX.heap.size WX (WX.drew.alloc (.cells #[.string pn, .int .i64 pv, .int .i64 pl, .slice ah phs.length ch] 36)) := (Below.refl WX.heap.size WX).drew.alloc (Nat.le_refl _) _
           have hz := HBX.out.size
           have hzx := HZX.out
           have hxx := heap_lt HXX.out
           have hwx : w2.heap.size ≤ WX.heap.size := by omega
           have hb2x : Below w2.heap.size w2 WX := by rw [HWX.out]; exact (Below.refl _ _).alloc (Nat.le_refl _) _
           have hsn := (HOX.out.below hbd).snoc (v' := .slice (some ⟨g2, 0, none⟩) (qs.length + 1) cap3) (⟨pn, pv, pl, phs⟩, ah, ch) wr.heap.size w2.heap.size (by have := HT.out.size; omega) (by simp; omega) (fun b hb => by have := (HOWN.out.own.lt _ hb).2; omega) HCP.out (HKH.out.below (hb2x.trans (hbd.mono hwx)) (Nat.le_refl _) (Nat.le_refl _) (Nat.le_refl _)) HG4.out HO4.out (by
             rcases HA4.out with h | h
             · exact .inl h.symm
             · exact .inr ⟨g2, rfl, by simp; omega⟩)
           exact hsn.touch (touch_put (g := p) (j := 2) (.slice (some ⟨g2, 0, none⟩) (qs.length + 1) cap3)) (fun k hk e => by have := HNE.out; have := HZ1.out; have := HZM.out; omega))
         have HFT := Lib.hid (ht4.trans (touch_put (g := p) (j := 2) (.slice (some ⟨g2, 0, none⟩) (qs.length + 1) cap3)))
         clear tt hr4 ht4 HO4 HG4 HA4 c44 f44 e2 y0 y1 y2 y3 fp2
         go_wp2
         go_roundw
         case rel => exact ⟨k + 1, _, _, by omega, by go_num, by simp; omega, by rw [HMO.out, HMK2.out, List.map_append]; rfl, HFR.out, HFO.out, HFT.out⟩
         case measure => simp [intOf]; omega
     · have HMB := Lib.hid (HMB.out he)
       have hd2 : (er != 0) = true := by simpa using he
       have HF := Lib.hid (pickFailG o m lo hi v an ai cn ci er sm WX (HPR.out.below HBX.out))
       clear he HMK
       go_wp2_with fail
       refine HF.out.mono ?_
       rintro r w3 ⟨rfl, h3, h4⟩
       have hrowX := below_row HBX.out HROW.out HROW.out.lt
       have hr3 := h4.row hrowX (by have := HNE.out; omega)
       have hown3 : PinsOwn w.heap.size w3 vs qs := ((HOWN.out.below HBX.out).touch h4 (fun k hk e => by have := HNE.out; have := HZ1.out; have := HZM.out; omega)).mono (by have := HZ1.out; have := HZM.out; omega)
       have HFIN := Lib.hid (show MetaGPost o m lo hi p v an ai cn ci (metaG J.names J.items sm []).1 (metaG J.names J.items sm []).2 x0 x1 w (.returned (.tuple #[])) w3 from by
         rw [HMO.out, HMB.out]
         exact ⟨vs, qs, rfl, h3, hr3, hown3, rfl, (HTM.out.trans ((HT.out.mono (fun k _ h => .inr (.inr h))).trans ((Touch.of_below HBX.out (Nat.le_refl _)).trans (h4.mono (fun k _ h => h.elim .inl (fun h => .inr (.inl h)))))))⟩)
       clear h3 h4 hrowX hr3 hown3
       go_wp2
       go_end0
       rw [← HM.out]
       exact HFIN.out
   · have HE := Lib.hid (metaG_end (xs := J.items) (st := sm) (ps := qs.map (·.1)) k (show J.names.length ≤ k by omega))
     clear h3 h4
     have HFIN := Lib.hid (show MetaGPost o m lo hi p v an ai cn ci (metaG J.names J.items sm []).1 (metaG J.names J.items sm []).2 x0 x1 w (.returned (.tuple #[])) wr from by
       rw [HMO.out, HE.out]
       exact ⟨vs, qs, rfl, HPR.out, HROW.out, HOWN.out.mono (by have := HZ1.out; have := HZM.out; omega), rfl, HTM.out.trans (HT.out.mono (fun k _ h => .inr (.inr h)))⟩)
     go_wp2
     go_end0
     rw [← HM.out]
     exact HFIN.out
end Go.Proofs.YtgghgcilpfdbjaaGreatDoor
