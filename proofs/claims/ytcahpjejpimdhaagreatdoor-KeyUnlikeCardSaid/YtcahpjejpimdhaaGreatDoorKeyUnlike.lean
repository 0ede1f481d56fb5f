/- The contract of the law KeyUnlike: it returns true, whatever the two keys. -/
import Derived.Test.YtcahpjejpimdhaaGreatDoorKeyForm
import Derived.Test.YtcahpjejpimdhaaGreatDoorSame
namespace Go.Proofs.YtcahpjejpimdhaaGreatDoor
open Go.RowKit

theorem blk_below {w w' : World} {p : Nat} {o : Obj} (hb : Below w.heap.size w w') (h : w.heap[p]? = some o) : w'.heap[p]? = some o := by rw [hb.block _ (heap_lt h)]; exact h
theorem blk_alloc {w : World} {p : Nat} {o x : Obj} (h : w.heap[p]? = some o) : (w.alloc x).heap[p]? = some o := by rw [Below.heap_alloc _ _ _ (heap_lt h)]; exact h

theorem split34 : ∀ (a b x y : List UInt8), (∀ c ∈ a, c.toNat ≠ 34) → (∀ c ∈ b, c.toNat ≠ 34) → a ++ 34 :: x = b ++ 34 :: y → a = b ∧ x = y
  | [], [], x, y, _, _, h => by simpa using h
  | [], d :: b, x, y, _, hb, h => by
    simp only [List.nil_append, List.cons_append, List.cons.injEq] at h
    exact absurd (by rw [← h.1]; rfl) (hb d (by simp))
  | c :: a, [], x, y, ha, _, h => by
    simp only [List.nil_append, List.cons_append, List.cons.injEq] at h
    exact absurd (by rw [h.1]; rfl) (ha c (by simp))
  | c :: a, d :: b, x, y, ha, hb, h => by
    simp only [List.cons_append, List.cons.injEq] at h
    obtain ⟨h1, h2⟩ := split34 a b x y (fun e he => ha e (by simp [he])) (fun e he => hb e (by simp [he])) h.2
    exact ⟨by rw [h.1, h1], h2⟩
theorem keyForm_inj {s t s' t' : List UInt8} (h : keyOk s t = true) (h' : keyOk s' t' = true) (e : keyForm s t = keyForm s' t') : s = s' ∧ t = t' := by
  obtain ⟨h1, h2⟩ := key_parts h
  obtain ⟨h1', h2'⟩ := key_parts h'
  unfold keyForm at e
  have e1 := List.append_cancel_left e
  have e2 : t ++ 34 :: ([44, 34, 115, 99, 104, 101, 109, 101, 34, 58, 34] ++ (s ++ [34, 125])) = t' ++ 34 :: ([44, 34, 115, 99, 104, 101, 109, 101, 34, 58, 34] ++ (s' ++ [34, 125])) := e1
  obtain ⟨e3, e4⟩ := split34 _ _ _ _ (fun c hc => ((pub_plain h2).1 c hc).2.1) (fun c hc => ((pub_plain h2').1 c hc).2.1) e2
  have e5 := List.append_cancel_left e4
  exact ⟨List.append_cancel_right e5, e3⟩

theorem keyJ_same (s t s' t' : ByteArray) : (keyJ s t).sameB (keyJ s' t') = decide (s = s' ∧ t = t') := by
  rw [Bool.eq_iff_iff, JV.sameB_iff, decide_eq_true_eq]
  unfold keyJ txtJ
  constructor
  · intro h
    injection h with _ _ _ _ h5
    simp only [List.cons.injEq, JV.mk.injEq, true_and, and_true] at h5
    exact ⟨h5.2, h5.1⟩
  · rintro ⟨rfl, rfl⟩; rfl
theorem seen_key (lo : Nat) (s t : ByteArray) : Seen lo (keyJ s t) := .inr fun k h => by
  have h2 : k < 2 := h
  match k, h2 with
  | 0, _ => rfl
  | 1, _ => rfl

set_option maxHeartbeats 2000000 in
set_option maxRecDepth 100000 in
theorem lawKeyUnlike (s t s' t' : ByteArray) (w : World) (hT : Tabs w) :
    Calls Tryz.prog 7 #[.agg #[.string s, .string t], .agg #[.string s', .string t']] w fun e w' => e = .returned (.bool true) ∧ Below w.heap.size w w' := by
  have HT := Lib.hid hT
  clear hT
  have HB0 := Lib.hid (show Below w.heap.size w ((w.alloc (.cells #[.string s, .string t] 23)).alloc (.cells #[.string s', .string t'] 23)) from ((Below.refl _ _).alloc (Nat.le_refl _) _).alloc (by simp) _)
  have HA0 := Lib.hid (show ((w.alloc (.cells #[.string s, .string t] 23)).alloc (.cells #[.string s', .string t'] 23)).heap[w.heap.size]? = some (.cells #[.string s, .string t] 23 (0, 0)) from heap_old _ _ _)
  have HC0 := Lib.hid (show ((w.alloc (.cells #[.string s, .string t] 23)).alloc (.cells #[.string s', .string t'] 23)).heap[w.heap.size + 1]? = some (.cells #[.string s', .string t'] 23 (0, 0)) from heap_two _ _ _)
  have HSA := Lib.hid (lawShort s t ((w.alloc (.cells #[.string s, .string t] 23)).alloc (.cells #[.string s', .string t'] 23)))
  cases hsa : shortK s t
  · rw [hsa] at HSA
    clear hsa
    go_enter Tryz.func7, Tryz.ntmps7
    go_wp2_with fail
    refine HSA.out.mono ?_
    rintro e w1 ⟨rfl, hb1⟩
    have HB1 := Lib.hid (HB0.out.trans (hb1.mono (by simp; omega)))
    clear hb1
    go_wp2_with fail
    refine (lawAwake w1 (HT.out.below HB1.out)).mono ?_
    rintro e w2 ⟨rfl, hb2⟩
    have HB2 := Lib.hid (HB1.out.trans (hb2.mono HB1.out.size))
    clear hb2
    go_wp2
    go_ret
    exact ⟨rfl, HB2.out⟩
  obtain ⟨hs, ht⟩ := short_iff.1 hsa
  rw [hsa] at HSA
  clear hsa
  go_enter Tryz.func7, Tryz.ntmps7
  go_wp2_with fail
  refine HSA.out.mono ?_
  clear HSA
  rintro e w1 ⟨rfl, hb1⟩
  have HB1 := Lib.hid (HB0.out.trans (hb1.mono (by simp; omega)))
  have HA1 := Lib.hid (blk_below hb1 HA0.out)
  have HC1 := Lib.hid (blk_below hb1 HC0.out)
  have c0 : w1.cell? ⟨w.heap.size, 0, none⟩ = some (.string s) := box_cell HA1.out rfl
  have c1 : w1.cell? ⟨w.heap.size, 1, none⟩ = some (.string t) := box_cell HA1.out rfl
  have d0 : w1.cell? ⟨w.heap.size + 1, 0, none⟩ = some (.string s') := box_cell HC1.out rfl
  have d1 : w1.cell? ⟨w.heap.size + 1, 1, none⟩ = some (.string t') := box_cell HC1.out rfl
  have HSB := Lib.hid (lawShort s' t' w1)
  clear hb1 HB0 HA0 HC0
  cases hsb : shortK s' t'
  · rw [hsb] at HSB
    clear hsb
    go_wp2_with fail
    refine HSB.out.mono ?_
    rintro e w2 ⟨rfl, hb2⟩
    have HB2 := Lib.hid (HB1.out.trans (hb2.mono HB1.out.size))
    clear hb2
    go_wp2_with fail
    refine (lawAwake w2 (HT.out.below HB2.out)).mono ?_
    rintro e w3 ⟨rfl, hb3⟩
    have HB3 := Lib.hid (HB2.out.trans (hb3.mono HB2.out.size))
    clear hb3
    go_wp2
    go_ret
    exact ⟨rfl, HB3.out⟩
  obtain ⟨hs', ht'⟩ := short_iff.1 hsb
  rw [hsb] at HSB
  clear hsb
  go_wp2_with fail
  refine HSB.out.mono ?_
  clear HSB c0 c1 d0 d1
  rintro e w2 ⟨rfl, hb2⟩
  have HB2 := Lib.hid (HB1.out.trans (hb2.mono HB1.out.size))
  have HA2 := Lib.hid (blk_below hb2 HA1.out)
  have HC2 := Lib.hid (blk_below hb2 HC1.out)
  have c0 : w2.cell? ⟨w.heap.size, 0, none⟩ = some (.string s) := box_cell HA2.out rfl
  have c1 : w2.cell? ⟨w.heap.size, 1, none⟩ = some (.string t) := box_cell HA2.out rfl
  clear hb2 HB1 HA1 HC1
  have HMA := Lib.hid (keyMay s t w2 (by omega) (by omega))
  cases hka : keyOk s.data.toList t.data.toList
  · rw [hka] at HMA
    clear hka
    go_wp2_with fail
    refine HMA.out.mono ?_
    rintro e w3 ⟨rfl, hb3⟩
    have HB3 := Lib.hid (HB2.out.trans (hb3.mono HB2.out.size))
    clear hb3
    go_wp2_with fail
    refine (lawAwake w3 (HT.out.below HB3.out)).mono ?_
    rintro e w4 ⟨rfl, hb4⟩
    have HB4 := Lib.hid (HB3.out.trans (hb4.mono HB3.out.size))
    clear hb4
    go_wp2
    go_ret
    exact ⟨rfl, HB4.out⟩
  rw [hka] at HMA
  have HKA := Lib.hid hka
  clear hka
  go_wp2_with fail
  refine HMA.out.mono ?_
  clear HMA c0 c1
  rintro e w3 ⟨rfl, hb3⟩
  have HB3 := Lib.hid (HB2.out.trans (hb3.mono HB2.out.size))
  have HA3 := Lib.hid (blk_below hb3 HA2.out)
  have HC3 := Lib.hid (blk_below hb3 HC2.out)
  have d0 : w3.cell? ⟨w.heap.size + 1, 0, none⟩ = some (.string s') := box_cell HC3.out rfl
  have d1 : w3.cell? ⟨w.heap.size + 1, 1, none⟩ = some (.string t') := box_cell HC3.out rfl
  clear hb3 HB2 HA2 HC2
  have HMB := Lib.hid (keyMay s' t' w3 (by omega) (by omega))
  cases hkb : keyOk s'.data.toList t'.data.toList
  · rw [hkb] at HMB
    clear hkb
    go_wp2_with fail
    refine HMB.out.mono ?_
    rintro e w4 ⟨rfl, hb4⟩
    have HB4 := Lib.hid (HB3.out.trans (hb4.mono HB3.out.size))
    clear hb4
    go_wp2_with fail
    refine (lawAwake w4 (HT.out.below HB4.out)).mono ?_
    rintro e w5 ⟨rfl, hb5⟩
    have HB5 := Lib.hid (HB4.out.trans (hb5.mono HB4.out.size))
    clear hb5
    go_wp2
    go_ret
    exact ⟨rfl, HB5.out⟩
  rw [hkb] at HMB
  have HKB := Lib.hid hkb
  clear hkb
  go_wp2_with fail
  refine HMB.out.mono ?_
  clear HMB d0 d1
  rintro e w4 ⟨rfl, hb4⟩
  have HB4 := Lib.hid (HB3.out.trans (hb4.mono HB3.out.size))
  have HA4 := Lib.hid (blk_below hb4 HA3.out)
  have HC4 := Lib.hid (blk_below hb4 HC3.out)
  clear hb4 HB3 HA3 HC3
  go_wp2_with fail
  refine (lawAwake w4 (HT.out.below HB4.out)).mono ?_
  rintro e w5 ⟨rfl, hb5⟩
  have HB5 := Lib.hid (HB4.out.trans (hb5.mono HB4.out.size))
  have HA5 := Lib.hid (blk_below hb5 HA4.out)
  have HC5 := Lib.hid (blk_below hb5 HC4.out)
  have c0 : w5.cell? ⟨w.heap.size, 0, none⟩ = some (.string s) := box_cell HA5.out rfl
  have c1 : w5.cell? ⟨w.heap.size, 1, none⟩ = some (.string t) := box_cell HA5.out rfl
  clear hb5 HB4 HA4 HC4
  go_wp2_with fail
  refine (keyValue_yes s t w5 (by omega) (by omega) HKA.out).mono ?_
  clear c0 c1
  rintro e w6 ⟨an, cn, ai, ci, rfl, hr6, hb6⟩
  have HB6 := Lib.hid ((HB5.out.trans (hb6.mono HB5.out.size)).alloc (by have := HB5.out.size; have := hb6.size; omega) (.cells #[.int .u8 5, .int .i64 0, .string { data := #[] }, .slice an 2 cn, .slice ai 2 ci] 29))
  have HA6 := Lib.hid (blk_alloc (x := .cells #[.int .u8 5, .int .i64 0, .string { data := #[] }, .slice an 2 cn, .slice ai 2 ci] 29) (blk_below hb6 HA5.out))
  have HC6 := Lib.hid (blk_alloc (x := .cells #[.int .u8 5, .int .i64 0, .string { data := #[] }, .slice an 2 cn, .slice ai 2 ci] 29) (blk_below hb6 HC5.out))
  have HV6 := Lib.hid (heap_alloc_new w6 (.cells #[.int .u8 5, .int .i64 0, .string { data := #[] }, .slice an 2 cn, .slice ai 2 ci] 29))
  have HR6 := Lib.hid (show Rep (w6.alloc (.cells #[.int .u8 5, .int .i64 0, .string { data := #[] }, .slice an 2 cn, .slice ai 2 ci] 29)) 0 (w6.heap.size + 1) (keyJ s t) (.agg #[.int .u8 5, .int .i64 0, .string { data := #[] }, .slice an 2 cn, .slice ai 2 ci]) from hr6.below ((Below.refl _ _).alloc (Nat.le_refl _) _) (Nat.le_refl _) (Nat.zero_le _) (by omega))
  clear hb6 hr6 HB5 HA5 HC5
  have d0 : (w6.alloc (.cells #[.int .u8 5, .int .i64 0, .string { data := #[] }, .slice an 2 cn, .slice ai 2 ci] 29)).cell? ⟨w.heap.size + 1, 0, none⟩ = some (.string s') := box_cell HC6.out rfl
  have d1 : (w6.alloc (.cells #[.int .u8 5, .int .i64 0, .string { data := #[] }, .slice an 2 cn, .slice ai 2 ci] 29)).cell? ⟨w.heap.size + 1, 1, none⟩ = some (.string t') := box_cell HC6.out rfl
  go_wp2_with fail
  clear d0 d1
  obtain ⟨x6, hx6⟩ : ∃ x6, x6 = w6.alloc (.cells #[.int .u8 5, .int .i64 0, .string { data := #[] }, .slice an 2 cn, .slice ai 2 ci] 29) := ⟨_, rfl⟩
  have hz6 : x6.heap.size = w6.heap.size + 1 := by rw [hx6]; simp
  rw [← hx6] at HB6 HA6 HC6 HV6 HR6 ⊢
  rw [← hz6] at HR6
  have HZ6 := Lib.hid hz6
  clear hx6 hz6
  refine (keyValue_yes s' t' x6 (by omega) (by omega) HKB.out).mono ?_
  rintro e w7 ⟨an', cn', ai', ci', rfl, hr7, hb7⟩
  have hbx : Below x6.heap.size x6 (w7.alloc (.cells #[.int .u8 5, .int .i64 0, .string { data := #[] }, .slice an' 2 cn', .slice ai' 2 ci'] 29)) := hb7.alloc hb7.size _
  obtain ⟨x7, hx7⟩ : ∃ x7, x7 = w7.alloc (.cells #[.int .u8 5, .int .i64 0, .string { data := #[] }, .slice an' 2 cn', .slice ai' 2 ci'] 29) := ⟨_, rfl⟩
  have hz7 : x7.heap.size = w7.heap.size + 1 := by rw [hx7]; simp
  have HW7 := Lib.hid (heap_alloc_new w7 (.cells #[.int .u8 5, .int .i64 0, .string { data := #[] }, .slice an' 2 cn', .slice ai' 2 ci'] 29))
  have HR7 := Lib.hid (show Rep (w7.alloc (.cells #[.int .u8 5, .int .i64 0, .string { data := #[] }, .slice an' 2 cn', .slice ai' 2 ci'] 29)) 0 (w7.heap.size + 1) (keyJ s' t') (.agg #[.int .u8 5, .int .i64 0, .string { data := #[] }, .slice an' 2 cn', .slice ai' 2 ci']) from hr7.below ((Below.refl _ _).alloc (Nat.le_refl _) _) (Nat.le_refl _) (Nat.zero_le _) (by omega))
  have e0 : (w7.alloc (.cells #[.int .u8 5, .int .i64 0, .string { data := #[] }, .slice an' 2 cn', .slice ai' 2 ci'] 29)).cell? ⟨w6.heap.size, 0, none⟩ = some (.int .u8 5) := box_cell (blk_below hbx HV6.out) rfl
  have e1 : (w7.alloc (.cells #[.int .u8 5, .int .i64 0, .string { data := #[] }, .slice an' 2 cn', .slice ai' 2 ci'] 29)).cell? ⟨w6.heap.size, 1, none⟩ = some (.int .i64 0) := box_cell (blk_below hbx HV6.out) rfl
  have e2 : (w7.alloc (.cells #[.int .u8 5, .int .i64 0, .string { data := #[] }, .slice an' 2 cn', .slice ai' 2 ci'] 29)).cell? ⟨w6.heap.size, 2, none⟩ = some (.string { data := #[] }) := box_cell (blk_below hbx HV6.out) rfl
  have e3 : (w7.alloc (.cells #[.int .u8 5, .int .i64 0, .string { data := #[] }, .slice an' 2 cn', .slice ai' 2 ci'] 29)).cell? ⟨w6.heap.size, 3, none⟩ = some (.slice an 2 cn) := box_cell (blk_below hbx HV6.out) rfl
  have e4 : (w7.alloc (.cells #[.int .u8 5, .int .i64 0, .string { data := #[] }, .slice an' 2 cn', .slice ai' 2 ci'] 29)).cell? ⟨w6.heap.size, 4, none⟩ = some (.slice ai 2 ci) := box_cell (blk_below hbx HV6.out) rfl
  go_wp2_with fail
  clear e0 e1 e2 e3 e4
  rw [← hx7] at hbx HW7 HR7 ⊢
  rw [← hz7] at HR7
  have HB7 := Lib.hid (HB6.out.trans (hbx.mono HB6.out.size))
  have HA7 := Lib.hid (blk_below hbx HA6.out)
  have HC7 := Lib.hid (blk_below hbx HC6.out)
  have HV7 := Lib.hid (blk_below hbx HV6.out)
  have HQ7 := Lib.hid (HR6.out.below hbx (Nat.le_refl _) (Nat.le_refl _) hbx.size)
  clear hx7 hz7 hb7 hr7 hbx HB6 HA6 HC6 HV6 HR6 HZ6
  have HE1 := Lib.hid (canonEncode false (keyJ s t) _ x7 (keyJ_wt (by omega) (by omega)) HQ7.out (fun _ => keyJ_form HKA.out) (fun h => by cases h))
  unfold CanonPost at HE1
  rw [keyJ_may HKA.out, keyJ_enc HKA.out, if_pos rfl, if_pos rfl] at HE1
  obtain ⟨FA, hFA⟩ : ∃ FA : ByteArray, FA = ⟨(keyForm s.data.toList t.data.toList).toArray⟩ := ⟨_, rfl⟩
  rw [← hFA] at HE1
  have HFA := Lib.hid hFA
  clear hFA
  generalize w6.heap.size = p6 at HV7 ⊢
  generalize w7.heap.size = p7 at HW7 ⊢
  refine HE1.out.mono ?_
  clear HE1
  rintro e w8 ⟨rfl, hb8⟩
  have HB8 := Lib.hid (HB7.out.trans (hb8.mono HB7.out.size))
  have HA8 := Lib.hid (blk_below hb8 HA7.out)
  have HC8 := Lib.hid (blk_below hb8 HC7.out)
  have HV8 := Lib.hid (blk_below hb8 HV7.out)
  have HW8 := Lib.hid (blk_below hb8 HW7.out)
  have HQ8 := Lib.hid (HQ7.out.below hb8 (Nat.le_refl _) (Nat.le_refl _) hb8.size)
  have HR8 := Lib.hid (HR7.out.below hb8 (Nat.le_refl _) (Nat.le_refl _) hb8.size)
  clear hb8 HB7 HA7 HC7 HV7 HW7 HQ7 HR7
  have HE2 := Lib.hid (canonEncode false (keyJ s' t') _ w8 (keyJ_wt (by omega) (by omega)) HR8.out (fun _ => keyJ_form HKB.out) (fun h => by cases h))
  unfold CanonPost at HE2
  rw [keyJ_may HKB.out, keyJ_enc HKB.out, if_pos rfl, if_pos rfl] at HE2
  obtain ⟨FB, hFB⟩ : ∃ FB : ByteArray, FB = ⟨(keyForm s'.data.toList t'.data.toList).toArray⟩ := ⟨_, rfl⟩
  rw [← hFB] at HE2
  have HFB := Lib.hid hFB
  clear hFB
  have e0 : w8.cell? ⟨p7, 0, none⟩ = some (.int .u8 5) := box_cell HW8.out rfl
  have e1 : w8.cell? ⟨p7, 1, none⟩ = some (.int .i64 0) := box_cell HW8.out rfl
  have e2 : w8.cell? ⟨p7, 2, none⟩ = some (.string { data := #[] }) := box_cell HW8.out rfl
  have e3 : w8.cell? ⟨p7, 3, none⟩ = some (.slice an' 2 cn') := box_cell HW8.out rfl
  have e4 : w8.cell? ⟨p7, 4, none⟩ = some (.slice ai' 2 ci') := box_cell HW8.out rfl
  go_wp2_with fail
  refine HE2.out.mono ?_
  clear HE2 e0 e1 e2 e3 e4
  rintro e w9 ⟨rfl, hb9⟩
  have HB9 := Lib.hid (HB8.out.trans (hb9.mono HB8.out.size))
  have HA9 := Lib.hid (blk_below hb9 HA8.out)
  have HC9 := Lib.hid (blk_below hb9 HC8.out)
  have HV9 := Lib.hid (blk_below hb9 HV8.out)
  have HW9 := Lib.hid (blk_below hb9 HW8.out)
  have HQ9 := Lib.hid (HQ8.out.below hb9 (Nat.le_refl _) (Nat.le_refl _) hb9.size)
  have HR9 := Lib.hid (HR8.out.below hb9 (Nat.le_refl _) (Nat.le_refl _) hb9.size)
  clear hb9 HB8 HA8 HC8 HV8 HW8 HQ8 HR8
  have HS := Lib.hid (show ∀ w' : World, Below w9.heap.size w9 w' → w'.cell? ⟨w.heap.size, 0, none⟩ = some (.string s) ∧ w'.cell? ⟨w.heap.size, 1, none⟩ = some (.string t) ∧ w'.cell? ⟨w.heap.size + 1, 0, none⟩ = some (.string s') ∧ w'.cell? ⟨w.heap.size + 1, 1, none⟩ = some (.string t') ∧ w'.cell? ⟨p6, 0, none⟩ = some (.int .u8 5) ∧ w'.cell? ⟨p6, 1, none⟩ = some (.int .i64 0) ∧ w'.cell? ⟨p6, 2, none⟩ = some (.string { data := #[] }) ∧ w'.cell? ⟨p6, 3, none⟩ = some (.slice an 2 cn) ∧ w'.cell? ⟨p6, 4, none⟩ = some (.slice ai 2 ci) ∧ w'.cell? ⟨p7, 0, none⟩ = some (.int .u8 5) ∧ w'.cell? ⟨p7, 1, none⟩ = some (.int .i64 0) ∧ w'.cell? ⟨p7, 2, none⟩ = some (.string { data := #[] }) ∧ w'.cell? ⟨p7, 3, none⟩ = some (.slice an' 2 cn') ∧ w'.cell? ⟨p7, 4, none⟩ = some (.slice ai' 2 ci') from fun w' h =>
    ⟨box_cell (blk_below h HA9.out) rfl, box_cell (blk_below h HA9.out) rfl, box_cell (blk_below h HC9.out) rfl, box_cell (blk_below h HC9.out) rfl, box_cell (blk_below h HV9.out) rfl, box_cell (blk_below h HV9.out) rfl, box_cell (blk_below h HV9.out) rfl, box_cell (blk_below h HV9.out) rfl, box_cell (blk_below h HV9.out) rfl, box_cell (blk_below h HW9.out) rfl, box_cell (blk_below h HW9.out) rfl, box_cell (blk_below h HW9.out) rfl, box_cell (blk_below h HW9.out) rfl, box_cell (blk_below h HW9.out) rfl⟩)
  have HVS := Lib.hid (show ∀ w' : World, Below w9.heap.size w9 w' → Calls Tryz.prog 31 #[.agg #[.int .u8 5, .int .i64 0, .string { data := #[] }, .slice an 2 cn, .slice ai 2 ci], .agg #[.int .u8 5, .int .i64 0, .string { data := #[] }, .slice an' 2 cn', .slice ai' 2 ci']] w' (fun e w'' => e = .returned (.bool (decide (s = s' ∧ t = t'))) ∧ Below w9.heap.size w9 w'') from fun w' h => by
    refine (valueSame (keyJ s t) (keyJ s' t') _ _ w' 0 w9.heap.size (keyJ_wt (by omega) (by omega)) (keyJ_wt (by omega) (by omega)) h.size (HQ9.out.below h (Nat.le_refl _) (Nat.le_refl _) (Nat.le_refl _)) (HR9.out.below h (Nat.le_refl _) (Nat.le_refl _) (Nat.le_refl _)) (seen_key _ _ _) (seen_key _ _ _)).mono ?_
    rintro e w'' ⟨rfl, hb⟩
    exact ⟨by rw [keyJ_same], h.trans (hb.mono h.size)⟩)
  clear HA9 HC9 HV9 HW9 HQ9 HR9
  have hbz : Below w9.heap.size w9 w9.drew := (Below.refl _ _).drew
  have hq := HS.out w9.drew hbz
  by_cases hss : s = s'
  · subst hss
    by_cases htt : t = t'
    · subst htt
      have hfe : FA = FB := by rw [HFA.out, HFB.out]
      subst hfe
      rw [decide_eq_true ⟨rfl, rfl⟩] at HVS
      go_wp2_with fail
      go_region_held3 (fun w' => w'.cell? ⟨w.heap.size, 0, none⟩ = some (.string s) ∧ w'.cell? ⟨w.heap.size, 1, none⟩ = some (.string t) ∧ w'.cell? ⟨w.heap.size + 1, 0, none⟩ = some (.string s) ∧ w'.cell? ⟨w.heap.size + 1, 1, none⟩ = some (.string t) ∧ w'.cell? ⟨p6, 0, none⟩ = some (.int .u8 5) ∧ w'.cell? ⟨p6, 1, none⟩ = some (.int .i64 0) ∧ w'.cell? ⟨p6, 2, none⟩ = some (.string { data := #[] }) ∧ w'.cell? ⟨p6, 3, none⟩ = some (.slice an 2 cn) ∧ w'.cell? ⟨p6, 4, none⟩ = some (.slice ai 2 ci) ∧ w'.cell? ⟨p7, 0, none⟩ = some (.int .u8 5) ∧ w'.cell? ⟨p7, 1, none⟩ = some (.int .i64 0) ∧ w'.cell? ⟨p7, 2, none⟩ = some (.string { data := #[] }) ∧ w'.cell? ⟨p7, 3, none⟩ = some (.slice an' 2 cn') ∧ w'.cell? ⟨p7, 4, none⟩ = some (.slice ai' 2 ci')) (first | (with_reducible exact hq) | (go_keep; done)) ((go_at_call 31; (with_reducible refine (HVS.out _ hbz).mono ?_); rintro e w10 ⟨rfl, hbz⟩; have hq := HS.out w10 hbz))
      all_goals (go_wp2; go_ret; exact ⟨rfl, HB9.out.trans (hbz.mono HB9.out.size)⟩)
    · have hf1 : (FA.toList == FB.toList) = false := beq_eq_false_iff_ne.2 fun e => htt (by
        have e2 := ba_ext2 e
        rw [HFA.out, HFB.out] at e2
        have e3 := (keyForm_inj HKA.out HKB.out (by simpa using e2)).2
        exact ByteArray.ext (Array.toList_inj.1 e3))
      have hf2 : (t.toList == t'.toList) = false := beq_eq_false_iff_ne.2 fun e => htt (ba_ext2 e)
      rw [decide_eq_false (fun h => htt h.2)] at HVS
      clear htt
      go_wp2_with fail
      go_region_held3 (fun w' => w'.cell? ⟨w.heap.size, 0, none⟩ = some (.string s) ∧ w'.cell? ⟨w.heap.size, 1, none⟩ = some (.string t) ∧ w'.cell? ⟨w.heap.size + 1, 0, none⟩ = some (.string s) ∧ w'.cell? ⟨w.heap.size + 1, 1, none⟩ = some (.string t') ∧ w'.cell? ⟨p6, 0, none⟩ = some (.int .u8 5) ∧ w'.cell? ⟨p6, 1, none⟩ = some (.int .i64 0) ∧ w'.cell? ⟨p6, 2, none⟩ = some (.string { data := #[] }) ∧ w'.cell? ⟨p6, 3, none⟩ = some (.slice an 2 cn) ∧ w'.cell? ⟨p6, 4, none⟩ = some (.slice ai 2 ci) ∧ w'.cell? ⟨p7, 0, none⟩ = some (.int .u8 5) ∧ w'.cell? ⟨p7, 1, none⟩ = some (.int .i64 0) ∧ w'.cell? ⟨p7, 2, none⟩ = some (.string { data := #[] }) ∧ w'.cell? ⟨p7, 3, none⟩ = some (.slice an' 2 cn') ∧ w'.cell? ⟨p7, 4, none⟩ = some (.slice ai' 2 ci')) (first | (with_reducible exact hq) | (go_keep; done)) ((go_at_call 31; (with_reducible refine (HVS.out _ hbz).mono ?_); rintro e w10 ⟨rfl, hbz⟩; have hq := HS.out w10 hbz))
      all_goals (go_wp2; go_ret; exact ⟨rfl, HB9.out.trans (hbz.mono HB9.out.size)⟩)
  · have hf1 : (FA.toList == FB.toList) = false := beq_eq_false_iff_ne.2 fun e => hss (by
      have e2 := ba_ext2 e
      rw [HFA.out, HFB.out] at e2
      have e3 := (keyForm_inj HKA.out HKB.out (by simpa using e2)).1
      exact ByteArray.ext (Array.toList_inj.1 e3))
    have hf2 : (s.toList == s'.toList) = false := beq_eq_false_iff_ne.2 fun e => hss (ba_ext2 e)
    rw [decide_eq_false (fun h => hss h.1)] at HVS
    clear hss
    go_wp2_with fail
    go_region_held3 (fun w' => w'.cell? ⟨w.heap.size, 0, none⟩ = some (.string s) ∧ w'.cell? ⟨w.heap.size, 1, none⟩ = some (.string t) ∧ w'.cell? ⟨w.heap.size + 1, 0, none⟩ = some (.string s') ∧ w'.cell? ⟨w.heap.size + 1, 1, none⟩ = some (.string t') ∧ w'.cell? ⟨p6, 0, none⟩ = some (.int .u8 5) ∧ w'.cell? ⟨p6, 1, none⟩ = some (.int .i64 0) ∧ w'.cell? ⟨p6, 2, none⟩ = some (.string { data := #[] }) ∧ w'.cell? ⟨p6, 3, none⟩ = some (.slice an 2 cn) ∧ w'.cell? ⟨p6, 4, none⟩ = some (.slice ai 2 ci) ∧ w'.cell? ⟨p7, 0, none⟩ = some (.int .u8 5) ∧ w'.cell? ⟨p7, 1, none⟩ = some (.int .i64 0) ∧ w'.cell? ⟨p7, 2, none⟩ = some (.string { data := #[] }) ∧ w'.cell? ⟨p7, 3, none⟩ = some (.slice an' 2 cn') ∧ w'.cell? ⟨p7, 4, none⟩ = some (.slice ai' 2 ci')) (first | (with_reducible exact hq) | (go_keep; done)) ((go_at_call 31; (with_reducible refine (HVS.out _ hbz).mono ?_); rintro e w10 ⟨rfl, hbz⟩; have hq := HS.out w10 hbz))
    all_goals (go_wp2; go_ret; exact ⟨rfl, HB9.out.trans (hbz.mono HB9.out.size)⟩)

end Go.Proofs.YtcahpjejpimdhaaGreatDoor
