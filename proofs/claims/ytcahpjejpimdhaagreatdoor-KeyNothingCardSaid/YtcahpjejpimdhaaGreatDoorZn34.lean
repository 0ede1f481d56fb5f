/- The contract of the law KeyNothing: it returns true, whatever the two keys, the name and the value. -/
import Derived.Test.YtcahpjejpimdhaaGreatDoorZn32
import Derived.Test.YtcahpjejpimdhaaGreatDoorZn20
import Derived.Test.YtcahpjejpimdhaaGreatDoorZn33
import Derived.Test.YtcahpjejpimdhaaGreatDoorZn22

namespace Go.Proofs.YtcahpjejpimdhaaGreatDoor
open Go.RowKit

theorem keyJ_flat (s t : ByteArray) : ∀ it ∈ (keyJ s t).items, it.items = [] := by
  intro it h
  rw [key_items] at h
  simp at h
  rcases h with rfl | rfl <;> rfl
theorem keyJ_wt2 {s t : ByteArray} (hs : s.size ≤ 300) (ht : t.size ≤ 300) : (keyJ s t).wt ≤ 10000 := by
  unfold keyJ txtJ
  have e1 : pubN.size = 6 := rfl
  have e2 : schN.size = 6 := rfl
  have e3 : ({ data := #[] } : ByteArray).size = 0 := rfl
  simp only [JV.wt, JV.wts, bytesSum]
  omega
theorem wts_two (a b c : List JV) : JV.wts (a ++ b ++ c) = JV.wts a + JV.wts b + JV.wts c := by
  have h : ∀ a b : List JV, JV.wts (a ++ b) = JV.wts a + JV.wts b := fun a b => by
    induction a with
    | nil => simp [JV.wts]
    | cons x r ih => simp only [List.cons_append, JV.wts, ih]; omega
  rw [h, h]
theorem weak_wt {x x' : JV} (h : WeakCopy x x') : x'.wt ≤ x.wt := by
  obtain ⟨k, n, t, ns, xs⟩ := x
  obtain ⟨k', n', t', ns', xs'⟩ := x'
  obtain rfl : t' = t := h.t
  obtain rfl : ns' = ns := h.names
  have hl : xs'.length = xs.length := h.len
  have hi : ∀ j (h : j < xs'.length) (h' : j < xs.length), WeakItem xs[j] xs'[j] := h.items
  have key : ∀ (xs xs' : List JV), xs'.length = xs.length → (∀ j (h : j < xs'.length) (h' : j < xs.length), WeakItem xs[j] xs'[j]) → JV.wts xs' ≤ JV.wts xs := fun xs => by
    induction xs with
    | nil => intro xs' hl _; rw [List.eq_nil_of_length_eq_zero hl]; exact Nat.le_refl _
    | cons y r ih =>
      intro xs' hl hi
      match xs', hl with
      | z :: r', hl =>
        have h0 := hi 0 (by simp) (by simp)
        have h1 := ih r' (by simpa using hl) fun j h h' => by have := hi (j + 1) (by simpa using h) (by simpa using h'); simpa using this
        have h2 : z.wt ≤ y.wt := by
          simp only [List.getElem_cons_zero] at h0
          rcases h0 with e | ⟨e, _⟩
          · rw [e]; exact Nat.le_refl _
          · rw [e]; have := y.wt_pos; exact this
        simp only [JV.wts]; omega
  have := key xs xs' hl hi
  simp only [JV.wt]
  omega
theorem with_wt {s t n : ByteArray} {r : Nat} {f : Bool} {x x' : JV} (hs : s.size ≤ 300) (ht : t.size ≤ 300) (hn : n.size ≤ 300) (hx : x.wt ≤ 20000) (hw : WeakCopy x x') : (withJ (keyJ s t) r f n x').wt ≤ 4294967296 := by
  have h1 := weak_wt hw
  have hb : ∀ l : List ByteArray, ∀ k, bytesSum (l.take k) ≤ bytesSum l ∧ bytesSum (l.drop k) ≤ bytesSum l := fun l => by
    induction l with
    | nil => intro k; simp
    | cons a r ih =>
      intro k
      cases k with
      | zero => simp [bytesSum]
      | succ k => have := ih k; simp only [List.take_succ_cons, List.drop_succ_cons, bytesSum]; omega
  have ha : ∀ a b : List ByteArray, bytesSum (a ++ b) = bytesSum a + bytesSum b := fun a b => by
    induction a with
    | nil => simp [bytesSum]
    | cons x r ih => simp only [List.cons_append, bytesSum, ih]; omega
  have hc : ∀ l : List JV, ∀ k, JV.wts (l.take k) ≤ JV.wts l ∧ JV.wts (l.drop k) ≤ JV.wts l := fun l => by
    induction l with
    | nil => intro k; simp
    | cons a r ih =>
      intro k
      cases k with
      | zero => simp [JV.wts]
      | succ k => have := ih k; simp only [List.take_succ_cons, List.drop_succ_cons, JV.wts]; omega
  have h2 := keyJ_wt2 hs ht
  have h3 := (keyJ s t).wt_bd
  have e3 : ({ data := #[] } : ByteArray).size = 0 := rfl
  have h4 := hb (keyJ s t).names r
  have h5 := hb (keyJ s t).names (r + f.toNat)
  have h6 := hc (keyJ s t).items r
  have h7 := hc (keyJ s t).items (r + f.toNat)
  have h8 : JV.wts (keyJ s t).items ≤ 10000 := by
    have : (keyJ s t).wt = 1 + (keyJ s t).t.size + bytesSum (keyJ s t).names + JV.wts (keyJ s t).items := by unfold keyJ; rw [JV.wt]; rfl
    omega
  have h9 : bytesSum (keyJ s t).names ≤ 10000 := by
    have : (keyJ s t).wt = 1 + (keyJ s t).t.size + bytesSum (keyJ s t).names + JV.wts (keyJ s t).items := by unfold keyJ; rw [JV.wt]; rfl
    omega
  unfold withJ withN withI
  rw [JV.wt, ha, ha, wts_two]
  simp only [bytesSum, JV.wts]
  omega
theorem out_pub {s t : ByteArray} : outJ (keyJ s t) pubN = oneS s := by
  have h1 : (pubN.toList != pubN.toList) = false := by simp
  have h2 : (schN.toList != pubN.toList) = true := by
    rw [bne_iff_ne]; intro e; exact pub_ne (ba_ext e).symm
  unfold outJ outN outI outP
  rw [key_names, key_items]
  simp [h2, oneS]
theorem out_sch {s t : ByteArray} : outJ (keyJ s t) schN = oneJ t := by
  have h2 : (pubN.toList != schN.toList) = true := by
    rw [bne_iff_ne]; intro e; exact pub_ne (ba_ext e)
  unfold outJ outN outI outP
  rw [key_names, key_items]
  simp [h2, oneJ]
theorem keyOf_out {s t y : ByteArray} (h : keyOk s.data.toList t.data.toList = true) (hy : y = pubN ∨ y = schN) : (keyOfJ (outJ (keyJ s t) y)).2 = 6 ∧ (outJ (keyJ s t) y).wt ≤ 4294967296 := by
  obtain ⟨h1, h2, h3, h4⟩ := key_txt h
  have e1 : pubN.size = 6 := rfl
  have e2 : schN.size = 6 := rfl
  have e3 : ({ data := #[] } : ByteArray).size = 0 := rfl
  rcases hy with rfl | rfl
  · rw [out_pub]; exact ⟨keyOf_oneS h1, by unfold oneS txtJ; simp only [JV.wt, JV.wts, bytesSum]; omega⟩
  · rw [out_sch, keyOf_oneJ h2]; exact ⟨rfl, by unfold oneJ txtJ; simp only [JV.wt, JV.wts, bytesSum]; omega⟩
/-- A table of one name, of which the name's row and the Item's row lie anew. -/
theorem rep_one {w : World} {n s t : ByteArray} {g1 g2 T1 T2 : Nat} {c3 c4 : Value} (h1 : w.heap[g1]? = some (.cells #[.string n] T1 (0, 0))) (h2 : w.heap[g2]? = some (.cells #[.int .u8 5, .int .i64 0, .string { data := #[] }, c3, c4] T2 (0, 0)))
    (hr : Rep w 0 w.heap.size (keyJ s t) (.agg #[.int .u8 5, .int .i64 0, .string { data := #[] }, c3, c4])) :
    Rep w 0 w.heap.size (tabOne n s t) (.agg #[.int .u8 5, .int .i64 0, .string { data := #[] }, .slice (some ⟨g1, 0, none⟩) 1 1, .slice (some ⟨g2, 0, none⟩) 1 1]) := by
  have hv := vals_one h2 (heap_lt h2) hr
  have hs : StrsAt w 0 w.heap.size (some ⟨g1, 0, none⟩) [n] := by
    refine .inr ⟨g1, 0, rfl, Nat.zero_le _, heap_lt h1, fun i hi => ?_⟩
    obtain rfl : i = 0 := by simp at hi; omega
    exact box_cell h1 rfl
  exact Rep.mk (v := tabOne n s t) (an := some ⟨g1, 0, none⟩) (cn := 1) (ai := some ⟨g2, 0, none⟩) (ci := 1) (Nat.le_refl _) (Nat.le_refl _) hs hv

set_option maxHeartbeats 4000000 in
set_option maxRecDepth 100000 in
theorem lawKeyNothing (s p n : ByteArray) (x : JV) (xx : Value) (s' p' : ByteArray) (w : World) (hX : Rep w 0 w.heap.size x xx) (hT : Tabs w) :
    Calls Tryz.prog 11 #[.agg #[.string s, .string p], .string n, xx, .agg #[.string s', .string p']] w fun e w' => e = .returned (.bool true) ∧ Below w.heap.size w w' := by
  obtain ⟨an, cn, ai, ci, rfl, -, -, -, -⟩ := hX.parts
  obtain ⟨W0, hW0⟩ : ∃ W0, W0 = ((w.alloc (.cells #[.string s, .string p] 23)).alloc (.cells #[.int .u8 x.kind, .int .i64 x.n, .string x.t, .slice an x.names.length cn, .slice ai x.items.length ci] 29)).alloc (.cells #[.string s', .string p'] 23) := ⟨_, rfl⟩
  have hz0 : W0.heap.size = w.heap.size + 3 := by rw [hW0]; simp
  have HB0 := Lib.hid (show Below w.heap.size w W0 by rw [hW0]; exact (((Below.refl _ _).alloc (Nat.le_refl _) _).alloc (by simp) _).alloc (by simp; omega) _)
  have HXK := Lib.hid (show W0.heap[w.heap.size]? = some (.cells #[.string s, .string p] 23 (0, 0)) by rw [hW0]; exact old_blk (heap_old _ _ _))
  have HXX := Lib.hid (show W0.heap[w.heap.size + 1]? = some (.cells #[.int .u8 x.kind, .int .i64 x.n, .string x.t, .slice an x.names.length cn, .slice ai x.items.length ci] 29 (0, 0)) by rw [hW0]; exact old_blk (heap_two _ _ _))
  have HXO := Lib.hid (show W0.heap[w.heap.size + 2]? = some (.cells #[.string s', .string p'] 23 (0, 0)) by
    rw [hW0]
    have := heap_alloc_new ((w.alloc (.cells #[.string s, .string p] 23)).alloc (.cells #[.int .u8 x.kind, .int .i64 x.n, .string x.t, .slice an x.names.length cn, .slice ai x.items.length ci] 29)) (.cells #[.string s', .string p'] 23)
    rwa [show ((w.alloc (.cells #[.string s, .string p] 23)).alloc (.cells #[.int .u8 x.kind, .int .i64 x.n, .string x.t, .slice an x.names.length cn, .slice ai x.items.length ci] 29)).heap.size = w.heap.size + 2 by simp] at this)
  have HT := Lib.hid (hT.below HB0.out)
  have HX := Lib.hid (hX.below HB0.out (Nat.le_refl _) (Nat.le_refl _) HB0.out.size)
  have HW0 := Lib.hid hW0
  have HZ0 := Lib.hid hz0
  clear hT hX hW0 hz0
  have HEND := Lib.hid (show ∀ w', Below W0.heap.size W0 w' → Below w.heap.size w w' from fun w' h => HB0.out.trans (h.mono HB0.out.size))
  have HAW := Lib.hid (show ∀ w', Below W0.heap.size W0 w' → Calls Tryz.prog 14 #[] w' (fun e w'' => e = .returned (.bool true) ∧ Below W0.heap.size W0 w'') from fun w' h => by
    refine (lawAwake w' (HT.out.below h)).mono ?_
    rintro e w'' ⟨rfl, hb⟩
    exact ⟨rfl, h.trans (hb.mono h.size)⟩)
  have HS := Lib.hid (lawShort s p W0)
  go_enter Tryz.func11, Tryz.ntmps11
  go_wp2_with fail
  rw [← HW0.out]
  clear HW0
  refine HS.out.mono ?_
  clear HS
  rintro e w1 ⟨rfl, hb1⟩
  have HB1 := Lib.hid hb1
  clear hb1
  have HSS := Lib.hid (@short_iff s p)
  generalize shortK s p = sh at HSS
  cases sh
  · clear HSS
    go_wp2_with fail
    refine (HAW.out w1 HB1.out).mono ?_
    rintro e w2 ⟨rfl, hb2⟩
    go_wp2
    go_ret
    exact ⟨rfl, HEND.out _ hb2⟩
  obtain ⟨hs3, hp3⟩ := HSS.out.1 rfl
  clear HSS
  obtain ⟨k0, k1⟩ := kcells2 HXO.out HB1.out
  go_wp2_with fail
  refine (lawShort s' p' w1).mono ?_
  clear k0 k1
  rintro e w2 ⟨rfl, hb2⟩
  have HB2 := Lib.hid (HB1.out.trans (hb2.mono HB1.out.size))
  clear hb2
  have HSS := Lib.hid (@short_iff s' p')
  generalize shortK s' p' = sh at HSS
  cases sh
  · clear HSS
    go_wp2_with fail
    refine (HAW.out w2 HB2.out).mono ?_
    rintro e w2 ⟨rfl, hb2⟩
    go_wp2
    go_ret
    exact ⟨rfl, HEND.out _ hb2⟩
  obtain ⟨hs4, hp4⟩ := HSS.out.1 rfl
  clear HSS
  by_cases hn3 : n.size ≤ 300
  case neg =>
    have hid2 : decide (300 < (n.size : Int)) = true := by simp; omega
    have hid3 : (300 : Int) < (n.size : Int) := by omega
    go_wp2_with fail
    refine (HAW.out w2 HB2.out).mono ?_
    rintro e w2 ⟨rfl, hb2⟩
    go_wp2
    go_ret
    exact ⟨rfl, HEND.out _ hb2⟩
  have hid2 : decide (300 < (n.size : Int)) = false := by simp; omega
  have hid3 : ¬ (300 : Int) < (n.size : Int) := by omega
  obtain ⟨c0, c1, c2, c3, c4⟩ := kcells5 HXX.out HB2.out
  have HL := Lib.hid (lawLong [x] (some ⟨w2.heap.size, 0, none⟩) 1 (w2.alloc (.cells #[.int .u8 x.kind, .int .i64 x.n, .string x.t, .slice an x.names.length cn, .slice ai x.items.length ci] 29)) (vals_one (heap_alloc_new _ _) (by simp) ((HX.out.below HB2.out (Nat.le_refl _) (Nat.le_refl _) HB2.out.size).below ((Below.refl _ _).alloc (Nat.le_refl _) _) (Nat.le_refl _) (Nat.le_refl _) (by simp))))
  go_wp2_with fail
  refine HL.out.mono ?_
  clear HL c0 c1 c2 c3 c4
  rintro e w3 ⟨b, rfl, hlong, hw3⟩
  have HB3 := Lib.hid (show Below W0.heap.size W0 w3 by rw [← hw3]; exact below_now HB2.out)
  clear hw3
  cases b
  case true =>
    clear hlong
    go_wp2_with fail
    refine (HAW.out w3 HB3.out).mono ?_
    rintro e w2 ⟨rfl, hb2⟩
    go_wp2
    go_ret
    exact ⟨rfl, HEND.out _ hb2⟩
  have hwx : x.wt ≤ 20000 := by have := hlong rfl; simp [JV.wts] at this; omega
  clear hlong
  obtain ⟨k0, k1⟩ := kcells2 HXK.out HB3.out
  go_wp2_with fail
  refine (keyMay s p w3 (by omega) (by omega)).mono ?_
  clear k0 k1
  rintro e w4 ⟨rfl, hb4⟩
  have HB4 := Lib.hid (HB3.out.trans (hb4.mono HB3.out.size))
  clear hb4
  cases hok : keyOk s.data.toList p.data.toList
  · clear hok
    go_wp2_with fail
    refine (HAW.out w4 HB4.out).mono ?_
    rintro e w2 ⟨rfl, hb2⟩
    go_wp2
    go_ret
    exact ⟨rfl, HEND.out _ hb2⟩
  have HOK := Lib.hid hok
  clear hok
  go_wp2_with fail
  refine (HAW.out w4 HB4.out).mono ?_
  clear HB1 HB2 HB3 HB4
  rintro e w5 ⟨rfl, hb5⟩
  have HB5 := Lib.hid hb5
  clear hb5
  obtain ⟨k0, k1⟩ := kcells2 HXK.out HB5.out
  have HKV := Lib.hid (keyValue_yes s p w5 (by omega) (by omega) HOK.out)
  unfold KeyValPost at HKV
  go_wp2_with fail
  refine HKV.out.mono ?_
  clear HKV k0 k1
  rintro e w6 ⟨on, pn, oi, qi, rfl, hr6, hb6⟩
  obtain ⟨W6, hW6⟩ : ∃ W6, W6 = w6.alloc (.cells #[.int .u8 5, .int .i64 0, .string { data := #[] }, .slice on 2 pn, .slice oi 2 qi] 29) := ⟨_, rfl⟩
  have HB6 := Lib.hid (show Below W0.heap.size W0 W6 by rw [hW6]; exact below_now (HB5.out.trans (hb6.mono HB5.out.size)))
  have HX6 := Lib.hid (show W6.heap[w6.heap.size]? = some (.cells #[.int .u8 5, .int .i64 0, .string { data := #[] }, .slice on 2 pn, .slice oi 2 qi] 29 (0, 0)) by rw [hW6]; exact heap_alloc_new w6 _)
  have HR6 := Lib.hid (show Rep W6 0 W6.heap.size (keyJ s p) (.agg #[.int .u8 5, .int .i64 0, .string { data := #[] }, .slice on 2 pn, .slice oi 2 qi]) by
    rw [hW6]; exact Rep.carry (Nat.zero_le _) (by simp) (fun b _ h => Below.heap_alloc _ _ _ h) _ _ hr6)
  have HE6 := Lib.hid (show ∀ w', Below W6.heap.size W6 w' → Below W0.heap.size W0 w' from fun w' h => HB6.out.trans (h.mono HB6.out.size))
  have HW6 := Lib.hid hW6
  clear hr6 hb6 hW6 HB5
  have HPU := Lib.hid (show (n.toList != pubN.toList) = false → n = pubN from fun h => ba_ext (by simpa [bne] using h))
  have HSC := Lib.hid (show (n.toList != schN.toList) = false → n = schN from fun h => ba_ext (by simpa [bne] using h))
  go_upto_region 6 with fail
  rw [← HW6.out]
  clear HW6
  go_cut [67] (fun s67 wx => ∃ b : Bool, s67 = .bool b ∧ (b = true → n ≠ pubN ∧ n ≠ schN) ∧ wx = W6)
  case first =>
    cases hp1 : (n.toList != [112, 117, 98, 108, 105, 99])
    · have hp1' : (n.toList == [112, 117, 98, 108, 105, 99]) = true := by simpa [bne] using hp1
      go_wp2_with fail
      go_meet
      exact ⟨false, rfl, fun h => by simp at h, rfl⟩
    · have hp1' : (n.toList == [112, 117, 98, 108, 105, 99]) = false := by simpa [bne] using hp1
      have HP1 := Lib.hid (show n ≠ pubN from fun e => by rw [e, ByteArray.toList_eq] at hp1; simp [pubN] at hp1)
      cases hp2 : (n.toList != [115, 99, 104, 101, 109, 101])
      · have hp2' : (n.toList == [115, 99, 104, 101, 109, 101]) = true := by simpa [bne] using hp2
        go_wp2_with fail
        go_meet
        exact ⟨false, rfl, fun h => by simp at h, rfl⟩
      · have hp2' : (n.toList == [115, 99, 104, 101, 109, 101]) = false := by simpa [bne] using hp2
        have HP2 := Lib.hid (show n ≠ schN from fun e => by rw [e, ByteArray.toList_eq] at hp2; simp [schN] at hp2)
        go_wp2_with fail
        go_meet
        exact ⟨true, rfl, fun _ => ⟨HP1.out, HP2.out⟩, rfl⟩
  case rest =>
    obtain ⟨b, hs67, hbn, hwc⟩ := hcut
    subst hs67
    subst hwc
    have HBN := Lib.hid hbn
    clear hbn HPU HSC
    obtain ⟨W6, hW6⟩ : ∃ W6, W6 = wc := ⟨_, rfl⟩
    rw [← hW6] at HB6 HX6 HR6 HE6
    rw [← hW6]
    clear hW6
    go_upto_if 67 with fail
    go_cut [8] (fun _ wx => Below W6.heap.size W6 wx)
    case first =>
      cases b
      · go_wp2_with fail
        go_meet
        exact Below.refl _ _
      · obtain ⟨hn1, hn2⟩ := HBN.out rfl
        have HN1 := Lib.hid hn1
        have HN2 := Lib.hid hn2
        clear hn1 hn2
        have HWI := Lib.hid (valueWith (keyJ s p) n x _ _ W6 (by have := keyJ_wt2 hs3 hp3; omega) (by omega) rfl rfl rfl rfl names_ok.2.2 (keyJ_flat s p) HR6.out (HX.out.below HB6.out (Nat.le_refl _) (Nat.le_refl _) HB6.out.size))
        unfold WithPost at HWI
        obtain ⟨c0, c1, c2, c3, c4⟩ := kcells5 HXX.out HB6.out
        obtain ⟨d0, d1, d2, d3, d4⟩ := kcells5 HX6.out (Below.refl _ _)
        go_wp2_with fail
        refine HWI.out.mono ?_
        clear HWI c0 c1 c2 c3 c4 d0 d1 d2 d3 d4
        rintro e w7 ⟨r, f, x', yn, gn, yi, gi, hrl, _, _, hft, _, hwk, rfl, hr7, hb7⟩
        have HOF := Lib.hid (keyOf_with (s := s) (t := p) (n := n) (r := r) (f := f) (x := x') hrl HN1.out HN2.out hft)
        have HWU := Lib.hid (with_wt (r := r) (f := f) hs3 hp3 hn3 hwx hwk)
        obtain ⟨u, hu⟩ : ∃ u, u = withJ (keyJ s p) r f n x' := ⟨_, rfl⟩
        obtain ⟨nl, hnl⟩ : ∃ nl, nl = (withN (keyJ s p) r f n).length := ⟨_, rfl⟩
        obtain ⟨il, hil⟩ : ∃ il, il = (withI (keyJ s p) r f x').length := ⟨_, rfl⟩
        rw [← hu] at HOF HWU hr7
        rw [← hnl, ← hil] at hr7
        rw [← hnl, ← hil]
        clear hu hnl hil hft hwk hrl
        obtain ⟨W7, hW7⟩ : ∃ W7, W7 = w7.alloc (.cells #[.int .u8 5, .int .i64 0, .string { data := #[] }, .slice yn nl gn, .slice yi il gi] 29) := ⟨_, rfl⟩
        have HB7 := Lib.hid (show Below W6.heap.size W6 W7 by rw [hW7]; exact below_now hb7)
        have HX7 := Lib.hid (show W7.heap[w7.heap.size]? = some (.cells #[.int .u8 5, .int .i64 0, .string { data := #[] }, .slice yn nl gn, .slice yi il gi] 29 (0, 0)) by rw [hW7]; exact heap_alloc_new w7 _)
        have HR7 := Lib.hid (show Rep W7 0 W7.heap.size u (.agg #[.int .u8 5, .int .i64 0, .string { data := #[] }, .slice yn nl gn, .slice yi il gi]) by
          rw [hW7]; exact Rep.carry (Nat.zero_le _) (by simp) (fun b _ h => Below.heap_alloc _ _ _ h) _ _ hr7)
        have HKO := Lib.hid (keyOfW u _ W7 W7.heap.size HWU.out (Nat.le_refl _) HR7.out)
        unfold KeyOfPost at HKO
        obtain ⟨K, hK⟩ : ∃ K, K = keyOfJ u := ⟨_, rfl⟩
        rw [← hK] at HKO HOF
        clear hK
        obtain ⟨⟨ks, kp⟩, ke⟩ := K
        obtain ⟨d0, d1, d2, d3, d4⟩ := kcells5 HX7.out (Below.refl _ _)
        rw [hW7] at d0 d1 d2 d3 d4
        have HW7 := Lib.hid hW7
        clear hr7 hb7 hW7
        go_wp2_with fail
        clear d0 d1 d2 d3 d4
        rw [← HW7.out]
        refine HKO.out.mono ?_
        clear HKO HW7
        rintro e w8 ⟨rfl, hb8⟩
        have HB8' := Lib.hid (below_now (o := .cells #[.string ks, .string kp] 23) hb8)
        have HB8 := Lib.hid (HB7.out.trans (HB8'.out.mono HB7.out.size))
        clear hb8
        cases hm : u.mayB
        · rw [hm] at HOF
          have hke : ke = 3 := HOF.out
          have t1 : (ke != 11) = true := by rw [hke]; rfl
          have t2 : (ke != 3) = false := by rw [hke]; rfl
          have HMA := Lib.hid (valueMay u _ (w8.alloc (.cells #[.string ks, .string kp] 23)) HWU.out (HR7.out.below HB8'.out (Nat.le_refl _) (Nat.le_refl _) HB8'.out.size))
          rw [hm] at HMA
          obtain ⟨d0, d1, d2, d3, d4⟩ := kcells5 HX7.out HB8'.out
          clear hm hke HOF
          go_wp2_with fail
          refine HMA.out.mono ?_
          rintro e w9 ⟨rfl, hb9⟩
          have HB9 := Lib.hid (HB8.out.trans (hb9.mono HB8.out.size))
          clear hb9
          go_wp2_with fail
          go_meet
          exact HB9.out
        · rw [hm] at HOF
          have hke : ke = 11 := HOF.out
          have t1 : (ke != 11) = false := by rw [hke]; rfl
          clear hm hke HOF
          go_wp2_with fail
          go_meet
          exact HB8.out
    case rest =>
      have HB7 := Lib.hid hcut
      clear hcut HBN
      obtain ⟨W7, hW7⟩ : ∃ W7, W7 = wc.alloc (.cells #[.string { data := #[112, 117, 98, 108, 105, 99] }, .string { data := #[115, 99, 104, 101, 109, 101] }] 9) := ⟨_, rfl⟩
      have HBB := Lib.hid (show Below W6.heap.size W6 W7 by rw [hW7]; exact below_now HB7.out)
      have HXS := Lib.hid (show W7.heap[wc.heap.size]? = some (.cells #[.string { data := #[112, 117, 98, 108, 105, 99] }, .string { data := #[115, 99, 104, 101, 109, 101] }] 9 (0, 0)) by rw [hW7]; exact heap_alloc_new wc _)
      have HW7 := Lib.hid hW7
      clear hW7 HB7
      have HZ7 := Lib.hid (show W7.heap.size = wc.heap.size + 1 by rw [HW7.out]; simp)
      go_wp2_with fail
      rw [← HW7.out]
      clear HW7
      go_loopw [16, 17, 18, 19, 20, 96] (fun _ _ _ _ _ i wr => ∃ k : Nat, k ≤ 2 ∧ i = .int .i64 k ∧ Below W7.heap.size W7 wr) (fun _ _ _ _ _ i _ => 2 - (intOf i).toNat)
      case atStart => exact ⟨0, by omega, rfl, Below.refl _ _⟩
      case round =>
        obtain ⟨k, hk, rfl, hbk⟩ := hrel
        have HBK := Lib.hid hbk
        have HBR := Lib.hid (HBB.out.trans (hbk.mono HBB.out.size))
        clear hbk
        by_cases hlt : k < 2
        · obtain ⟨yk, hyk, y1⟩ : ∃ yk : ByteArray, (yk = pubN ∨ yk = schN) ∧ wr.cell? ⟨wc.heap.size, k, none⟩ = some (.string yk) := by
            have hx := kept_blk HBK.out HXS.out
            match k, hlt with
            | 0, _ => exact ⟨pubN, .inl rfl, box_cell hx rfl⟩
            | 1, _ => exact ⟨schN, .inr rfl, box_cell hx rfl⟩
          obtain ⟨ho6, hwo⟩ := keyOf_out HOK.out hyk
          have HO6 := Lib.hid ho6
          have HWO := Lib.hid hwo
          have HWT := Lib.hid (valueWithout (keyJ s p) yk _ wr (by have := keyJ_wt2 hs3 hp3; omega) rfl rfl rfl rfl names_ok.2.2 (keyJ_flat s p) (by rw [key_names]; rcases hyk with e | e <;> simp [e]) (HR6.out.below HBR.out (Nat.le_refl _) (Nat.le_refl _) HBR.out.size))
          unfold OutPost at HWT
          obtain ⟨u, hu⟩ : ∃ u, u = outJ (keyJ s p) yk := ⟨_, rfl⟩
          obtain ⟨nl, hnl⟩ : ∃ nl, nl = (outN (keyJ s p) yk (keyJ s p).names.length).length := ⟨_, rfl⟩
          obtain ⟨il, hil⟩ : ∃ il, il = (outI (keyJ s p) yk (keyJ s p).names.length).length := ⟨_, rfl⟩
          rw [← hu] at HWT HO6 HWO
          rw [← hnl, ← hil] at HWT
          clear hu hnl hil hyk ho6 hwo
          obtain ⟨d0, d1, d2, d3, d4⟩ := kcells5 HX6.out HBR.out
          have m1 : (0 : Int) ≤ (k : Int) := by omega
          have m2 : (k : Int) < 2 := by omega
          have m3 : decide ((k : Int) < 2) = true := by simpa using m2
          go_wp2_with fail
          refine HWT.out.mono ?_
          clear HWT y1 d0 d1 d2 d3 d4
          rintro e w8 ⟨yn, gn, yi, gi, rfl, hr8, hb8⟩
          obtain ⟨W8, hW8⟩ : ∃ W8, W8 = w8.alloc (.cells #[.int .u8 5, .int .i64 0, .string { data := #[] }, .slice yn nl gn, .slice yi il gi] 29) := ⟨_, rfl⟩
          have HB8 := Lib.hid (show Below W7.heap.size W7 W8 by rw [hW8]; exact below_now (HBK.out.trans (hb8.mono HBK.out.size)))
          have HX8 := Lib.hid (show W8.heap[w8.heap.size]? = some (.cells #[.int .u8 5, .int .i64 0, .string { data := #[] }, .slice yn nl gn, .slice yi il gi] 29 (0, 0)) by rw [hW8]; exact heap_alloc_new w8 _)
          have HR8 := Lib.hid (show Rep W8 0 W8.heap.size u (.agg #[.int .u8 5, .int .i64 0, .string { data := #[] }, .slice yn nl gn, .slice yi il gi]) by
            rw [hW8]; exact Rep.carry (Nat.zero_le _) (by simp) (fun b _ h => Below.heap_alloc _ _ _ h) _ _ hr8)
          have HKO := Lib.hid (keyOfW u _ W8 W8.heap.size HWO.out (Nat.le_refl _) HR8.out)
          unfold KeyOfPost at HKO
          obtain ⟨K, hK⟩ : ∃ K, K = keyOfJ u := ⟨_, rfl⟩
          rw [← hK] at HKO HO6
          clear hK
          obtain ⟨⟨ks, kp⟩, ke⟩ := K
          have t1 : (ke != 6) = false := by have h : ke = 6 := HO6.out; rw [h]; rfl
          obtain ⟨d0, d1, d2, d3, d4⟩ := kcells5 HX8.out (Below.refl _ _)
          rw [hW8] at d0 d1 d2 d3 d4
          have HW8 := Lib.hid hW8
          clear hr8 hb8 hW8
          go_wp2_with fail
          clear d0 d1 d2 d3 d4
          rw [← HW8.out]
          refine HKO.out.mono ?_
          clear HKO HW8
          rintro e w9 ⟨rfl, hb9⟩
          have HB9 := Lib.hid (show Below W7.heap.size W7 (w9.alloc (.cells #[.string ks, .string kp] 23)) from below_now (HB8.out.trans (hb9.mono HB8.out.size)))
          clear hb9
          go_wp2
          go_roundw
          case rel => exact ⟨k + 1, by omega, by go_num, HB9.out⟩
          case measure => simp [intOf]; omega
        · obtain rfl : k = 2 := by omega
          obtain ⟨w9, hw9⟩ : ∃ w9, w9 = wr := ⟨_, rfl⟩
          rw [← hw9] at HBR
          rw [← hw9]
          clear hw9 HBK
          have HIO := Lib.hid (keyID s' p' w9 (by omega) (by omega) (HT.out.below (HE6.out _ HBR.out)))
          unfold KeyIdPost at HIO
          have HQI := Lib.hid (@id2_size (s', p'))
          obtain ⟨Iq, hIO⟩ : ∃ Iq : ByteArray, Iq = ⟨(keyId s'.data.toList p'.data.toList).toArray⟩ := ⟨_, rfl⟩
          rw [← hIO] at HIO
          replace HQI := Lib.hid (show Iq.size ≤ 64 by rw [hIO]; exact HQI.out)
          obtain ⟨fo, hfo⟩ : ∃ fo : Int, fo = (if keyOk s'.data.toList p'.data.toList then 0 else 3) := ⟨_, rfl⟩
          rw [← hfo] at HIO
          clear hIO hfo
          obtain ⟨k0, k1⟩ := kcells2 HXO.out (HE6.out _ HBR.out)
          go_wp2_with fail
          refine HIO.out.mono ?_
          clear HIO k0 k1
          rintro e w10 ⟨rfl, hb10⟩
          have HB10 := Lib.hid (HBR.out.trans (hb10.mono HBR.out.size))
          clear hb10 HBR
          have HK1 := Lib.hid (show ∀ (y : ByteArray) (X : World), y.size ≤ 300 → Below W6.heap.size W6 X → Calls Tryz.prog 35 #[.agg #[.int .u8 5, .int .i64 0, .string { data := #[] }, .slice (some ⟨X.heap.size, 0, none⟩) 1 1, .slice (some ⟨X.heap.size + 1, 0, none⟩) 1 1]] ((X.alloc (.cells #[.string y] 9)).alloc (.cells #[.int .u8 5, .int .i64 0, .string { data := #[] }, .slice on 2 pn, .slice oi 2 qi] 29)) (fun e w' => ∃ val, e = .returned (.tuple #[val, .int .i64 (keysJ (tabOne y s p)).2]) ∧ Below W6.heap.size W6 w') from fun y X hy hB => by
            have hBX : Below X.heap.size X ((X.alloc (.cells #[.string y] 9)).alloc (.cells #[.int .u8 5, .int .i64 0, .string { data := #[] }, .slice on 2 pn, .slice oi 2 qi] 29)) := ((Below.refl _ _).alloc (Nat.le_refl _) _).alloc (by simp) _
            have hB2 := hB.trans (hBX.mono hB.size)
            refine (keyKeys (tabOne y s p) _ _ (tabOne_wt hy hs3 hp3) (rep_one (heap_old _ _ _) (heap_two _ _ _) (HR6.out.below hB2 (Nat.le_refl _) (Nat.le_refl _) hB2.size)) (HT.out.below (HE6.out _ hB2))).mono ?_
            rintro e w' ⟨val, rfl, _, hb⟩
            exact ⟨val, rfl, hB2.trans (hb.mono hB2.size)⟩)
          obtain ⟨g1, hg1⟩ : ∃ g1, g1 = (keysJ (tabOne n s p)).2 := ⟨_, rfl⟩
          have HQ1 := Lib.hid (keys_one (n := n) HOK.out)
          have HC1 := Lib.hid (HK1.out n w10 hn3 HB10.out)
          rw [← hg1] at HC1 HQ1
          clear hg1
          obtain ⟨d0, d1, d2, d3, d4⟩ := kcells5 HX6.out HB10.out
          have d5 := heap_lt HX6.out
          have d6 : w6.heap.size < w10.heap.size := Nat.lt_of_lt_of_le d5 HB10.out.size
          have e0 := (cell_alloc_lt (.cells #[.string n] 9) d6).trans d0
          have e1 := (cell_alloc_lt (.cells #[.string n] 9) d6).trans d1
          have e2 := (cell_alloc_lt (.cells #[.string n] 9) d6).trans d2
          have e3 := (cell_alloc_lt (.cells #[.string n] 9) d6).trans d3
          have e4 := (cell_alloc_lt (.cells #[.string n] 9) d6).trans d4
          go_wp2_with fail
          refine HC1.out.mono ?_
          clear HC1 d0 d1 d2 d3 d4 d5 d6 e0 e1 e2 e3 e4
          rintro e w11 ⟨val1, rfl, hb11⟩
          have HB11 := Lib.hid hb11
          clear hb11 HB10
          have HID := Lib.hid (keyID s p w11 (by omega) (by omega) (HT.out.below (HE6.out _ HB11.out)))
          unfold KeyIdPost at HID
          rw [HOK.out, if_pos rfl] at HID
          obtain ⟨ID, hID⟩ : ∃ ID : ByteArray, ID = idOf s p := ⟨_, rfl⟩
          replace HID := Lib.hid (show Calls Tryz.prog 18 #[.agg #[.string s, .string p]] w11 (fun e w' => e = .returned (.tuple #[.string ID, .int .i64 0]) ∧ Below w11.heap.size w11 w') by rw [hID]; exact HID.out)
          rw [← hID] at HQ1
          have HIE := Lib.hid hID
          clear hID
          obtain ⟨k0, k1⟩ := kcells2 HXK.out (HE6.out _ HB11.out)
          go_wp2_with fail
          refine HID.out.mono ?_
          clear HID k0 k1
          rintro e w12 ⟨rfl, hb12⟩
          have HB12 := Lib.hid (HB11.out.trans (hb12.mono HB11.out.size))
          clear hb12 HB11
          obtain ⟨b1, hb1⟩ : ∃ b1, b1 = (n.toList == ID.toList) := ⟨_, rfl⟩
          have t1 : (g1 == 0) = b1 := by rw [hb1]; exact HQ1.out
          have t2 : (n.toList == ID.toList) = b1 := hb1.symm
          have t3 : (b1 != b1) = false := by cases b1 <;> rfl
          clear hb1
          obtain ⟨g2, hg2⟩ : ∃ g2, g2 = (keysJ (tabOne Iq s p)).2 := ⟨_, rfl⟩
          have HQ2 := Lib.hid (keys_one (n := Iq) HOK.out)
          have HC2 := Lib.hid (HK1.out Iq w12 (by have := HQI.out; omega) HB12.out)
          rw [← hg2] at HC2 HQ2
          rw [← HIE.out] at HQ2
          clear hg2 HIE HK1
          obtain ⟨d0, d1, d2, d3, d4⟩ := kcells5 HX6.out HB12.out
          have d5 := heap_lt HX6.out
          have d6 : w6.heap.size < w12.heap.size := Nat.lt_of_lt_of_le d5 HB12.out.size
          have e0 := (cell_alloc_lt (.cells #[.string Iq] 9) d6).trans d0
          have e1 := (cell_alloc_lt (.cells #[.string Iq] 9) d6).trans d1
          have e2 := (cell_alloc_lt (.cells #[.string Iq] 9) d6).trans d2
          have e3 := (cell_alloc_lt (.cells #[.string Iq] 9) d6).trans d3
          have e4 := (cell_alloc_lt (.cells #[.string Iq] 9) d6).trans d4
          go_wp2_with fail
          refine HC2.out.mono ?_
          clear HC2 d0 d1 d2 d3 d4 d5 d6 e0 e1 e2 e3 e4 t1 t2 t3
          rintro e w13 ⟨val2, rfl, hb13⟩
          have HB13 := Lib.hid hb13
          clear hb13
          obtain ⟨b2, hb2⟩ : ∃ b2, b2 = (Iq.toList == ID.toList) := ⟨_, rfl⟩
          have t1 : (g2 == 0) = b2 := by rw [hb2]; exact HQ2.out
          have t2 : (Iq.toList == ID.toList) = b2 := hb2.symm
          have t3 : (b2 == b2) = true := by cases b2 <;> rfl
          clear hb2
          by_cases hfo : fo = 0
          · have t4 : (fo != 0) = false := by simpa using hfo
            clear hfo
            go_wp2
            go_ret
            exact ⟨rfl, HEND.out _ (HE6.out _ HB13.out)⟩
          · have t4 : (fo != 0) = true := by simpa using hfo
            clear hfo
            go_wp2
            go_ret
            exact ⟨rfl, HEND.out _ (HE6.out _ HB13.out)⟩

end Go.Proofs.YtcahpjejpimdhaaGreatDoor
