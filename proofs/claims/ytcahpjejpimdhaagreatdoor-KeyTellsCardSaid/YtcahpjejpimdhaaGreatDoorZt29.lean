/- The contract of legateref02.Digest. The contract of legateref14.ID. The contract of the law KeyTells: it returns true, whatever the key. -/
import Derived.Test.YtcahpjejpimdhaaGreatDoorZt28
import Derived.Test.YtcahpjejpimdhaaGreatDoorZt17
import Derived.Test.YtcahpjejpimdhaaGreatDoorZt23
import Derived.Test.YtcahpjejpimdhaaGreatDoorZt20
import Derived.Test.YtcahpjejpimdhaaGreatDoorZt21
import Derived.Test.YtcahpjejpimdhaaGreatDoorZt22
import Derived.Test.YtcahpjejpimdhaaGreatDoorZt01

namespace Go.Proofs.YtcahpjejpimdhaaGreatDoor
open Go.RowKit

theorem digit_at (i : Nat) (h : i < 16) : ((({ data := #[48, 49, 50, 51, 52, 53, 54, 55, 56, 57, 97, 98, 99, 100, 101, 102] } : ByteArray)[i]'h).toNat : Int) = (hexChar i).toNat := by
  have : ∀ m : Fin 16, ((({ data := #[48, 49, 50, 51, 52, 53, 54, 55, 56, 57, 97, 98, 99, 100, 101, 102] } : ByteArray)[m.val]'m.isLt).toNat : Int) = (hexChar m.val).toNat := by decide
  exact this ⟨i, h⟩

theorem digit_run (j : Int) (i : Nat) (h : i < 16) (hj : j = (i : Int)) (w : World) : (Instr.index 9 (.string { data := #[48, 49, 50, 51, 52, 53, 54, 55, 56, 57, 97, 98, 99, 100, 101, 102] }) (.int .u8 j)).run Tryz.prog w = .ok (.int .u8 (hexChar i).toNat) w := by
  subst hj
  have hs : i < ({ data := #[48, 49, 50, 51, 52, 53, 54, 55, 56, 57, 97, 98, 99, 100, 101, 102] } : ByteArray).size := h
  rw [run_index_string w _ _ _ _ Tryz.underlying9, dif_pos ⟨by omega, by omega⟩]
  congr 2
  have := digit_at i h
  simpa using this

set_option maxRecDepth 100000 in
set_option maxHeartbeats 400000 in
theorem refDigest (s : ByteArray) (w : World) (hs : s.size ≤ 1099511627000) :
    Calls Tryz.prog 47 #[.string s] w fun e w' => e = .returned (.string ⟨(shaHex s.data.toList).toArray⟩) ∧ Below w.heap.size w w' := by
  obtain ⟨i0, hi, hz0, hz1, hz2⟩ := info_parts infoU8
  have HSM := Lib.hid (refSum s w hs)
  obtain ⟨t, ht⟩ : ∃ t : ByteArray, t = ⟨(shaSum s.data.toList).toArray⟩ := ⟨_, rfl⟩
  have HT := Lib.hid (show hexEnc t.data.toList = shaHex s.data.toList by rw [ht]; rfl)
  have hts : t.size ≤ 32 := by rw [ht]; show (shaSum s.data.toList).toArray.size ≤ 32; rw [List.size_toArray, shaSum_length]; omega
  rw [← ht] at HSM
  clear ht
  go_enter Tryz.func47, Tryz.ntmps47
  go_wp2_with fail
  refine HSM.out.mono ?_
  rintro e w1 ⟨rfl, hb1⟩
  have HB1 := Lib.hid hb1
  clear hb1 HSM
  go_wp2
  go_loopw [4, 5] (fun v i wr => ∃ k : Nat, k ≤ t.size ∧ i = .int .i64 k ∧ wr.ownsRow w1.heap.size 5 1 v (2 * k) (Lib.byteCells (hexEnc (t.data.toList.take k))) ∧ Below w1.heap.size w1 wr) (fun _ i _ => t.size - (intOf i).toNat)
  case atStart => exact ⟨0, by omega, rfl, ⟨rfl, .inl ⟨rfl, rfl⟩⟩, Below.refl _ _⟩
  case round =>
    obtain ⟨k, hk, rfl, hown, hbel⟩ := hrel
    by_cases hlt : k < t.size
    · have hlt0 := hlt
      have hc : t[k].toNat < 256 := t[k].toNat_lt
      have m0 : (k : Int) < (t.size : Int) := by omega
      have hz5 : w1.heap.size ≤ wr.heap.size := hbel.size
      have HO := Lib.hid hown; clear hown
      have HB := Lib.hid hbel; clear hbel
      obtain ⟨c, hcc⟩ : ∃ c, c = t[k].toNat := ⟨_, rfl⟩
      have HCC := Lib.hid hcc
      have hcc' : (t[k].toNat : Int) = (c : Int) := by rw [hcc]
      rw [← hcc] at hc
      clear hcc
      have t1 : (c : Int).tdiv 16 = (c : Int) / 16 := Int.tdiv_eq_ediv_of_nonneg (by omega)
      have t2 : (c : Int).tmod 16 = (c : Int) % 16 := Int.tmod_eq_emod_of_nonneg (by omega)
      have t3 : IntKind.u8.wrap ((c : Int) / 16) = (c : Int) / 16 := IntWalk.u8_in _ (by omega)
      have d1 : ∀ w, (Instr.index 9 (.string { data := #[48, 49, 50, 51, 52, 53, 54, 55, 56, 57, 97, 98, 99, 100, 101, 102] }) (.int .u8 ((c : Int) / 16))).run Tryz.prog w = .ok (.int .u8 (hexChar (c / 16)).toNat) w := digit_run _ (c / 16) (by omega) (by omega)
      have d2 : ∀ w, (Instr.index 9 (.string { data := #[48, 49, 50, 51, 52, 53, 54, 55, 56, 57, 97, 98, 99, 100, 101, 102] }) (.int .u8 ((c : Int) % 16))).run Tryz.prog w = .ok (.int .u8 (hexChar (c % 16)).toNat) w := digit_run _ (c % 16) (by omega) (by omega)
      have HW1 := Lib.hid (show ∀ o, w1.heap.size ≤ ((wr.alloc o).drew).heap.size from fun o => by simp <;> omega)
      have HW2 := Lib.hid (show ∀ o, ((wr.alloc o).drew).heap.size = wr.heap.size + 1 from fun o => by simp)
      have HW3 := Lib.hid (show 2 * k + 2 ≤ maxLen by unfold maxLen; omega)
      have HW4 := Lib.hid (show (2 * k + 2) * 1 ≤ 140737488355328 by omega)
      go_wp2_with fail
      go_region_held3 (fun w' => True) (first | trivial | go_keep) ((refine step_append_lies _ (by rfl) _ _ _ (by rfl) w1.heap.size 5 i0 _ 1 1 Tryz.underlying62 hi hz0 hz1 hz2 rfl (by omega) _ (2 * k) _ (by rfl) ((HO.out.alloc _).drew) ⟨wr.heap.size, 0, none⟩ 2 2 [.int .u8 (hexChar (c / 16)).toNat, .int .u8 (hexChar (c % 16)).toNat] (by rfl) (by rfl) (World.news_of_block (cs := #[.int .u8 (hexChar (c / 16)).toNat, .int .u8 (hexChar (c % 16)).toNat]) (t := 5) (fr := (0, 0)) (heap_alloc_new wr _)) (by simp [Value.oneCell']) (by omega) HW3.out HW4.out (HW1.out _) (wr.heap.size + 1) (HW2.out _) ?_; intro gg cap w2 hown1 hgrow hat hlt6))
      all_goals
        have HO1 := Lib.hid hown1
        have HG := Lib.hid hgrow
        clear hown1 hgrow hat d1 d2
        go_wp2
        go_roundw
        case rel =>
          refine ⟨k + 1, by omega, by go_num, ?_, ?_⟩
          · rw [show 2 * (k + 1) = 2 * k + 2 by omega, hexEnc_snoc t k hlt0 c HCC.out]; exact HO1.out
          · exact ((HB.out.alloc (by omega) _).drew).grown HG.out (by simp; omega) (fun g hg => (HO.out.lt g hg).1)
        case measure => simp [intOf]; omega
    · have hcv := run_convert_owned (P := Tryz.prog) 62 9 5 Tryz.underlying62 Tryz.underlying5 Tryz.underlying9 hown
      rw [List.take_of_length_le (by rw [toList_length]; omega), HT.out] at hcv
      have HB := Lib.hid hbel
      clear hown hbel
      go_wp2
      go_ret
      exact ⟨rfl, HB1.out.trans (HB.out.mono HB1.out.size)⟩

end Go.Proofs.YtcahpjejpimdhaaGreatDoor

namespace Go.Proofs.YtcahpjejpimdhaaGreatDoor
open Go.RowKit

set_option maxHeartbeats 400000 in
set_option maxRecDepth 100000 in
theorem ref14ID (s t : ByteArray) (w : World) (hs : s.size ≤ 4294967) (ht : t.size ≤ 4294967) :
    Calls Tryz.prog 19 #[.agg #[.string s, .string t]] w (KeyIdPost s t w) := by
  have HM := Lib.hid (ref14May s t (w.alloc (.cells #[.string s, .string t] 23)) (by omega) (by omega))
  have HB0 := Lib.hid (show Below w.heap.size w (w.alloc (.cells #[.string s, .string t] 23)) from (Below.refl _ _).alloc (Nat.le_refl _) _)
  have HX0 := Lib.hid (heap_alloc_new w (.cells #[.string s, .string t] 23))
  unfold KeyIdPost keyId
  cases hk : keyOk s.data.toList t.data.toList
  · rw [hk] at HM
    clear hk
    go_enter Tryz.func19, Tryz.ntmps19
    go_wp2_with fail
    refine HM.out.mono ?_
    rintro e w1 ⟨rfl, hb1⟩
    have HB1 := Lib.hid (HB0.out.trans (hb1.mono (by simp)))
    clear hb1
    go_wp2
    go_ret2
    exact ⟨rfl, HB1.out⟩
  · rw [hk] at HM
    clear hk
    obtain ⟨f, hf⟩ : ∃ f : ByteArray, f = (({ data := #[123, 34, 112, 117, 98, 108, 105, 99, 34, 58, 34] } ++ t ++ { data := #[34, 44, 34, 115, 99, 104, 101, 109, 101, 34, 58, 34] }) ++ s) ++ { data := #[34, 125] } := ⟨_, rfl⟩
    have HF := Lib.hid (show f.data.toList = keyForm s.data.toList t.data.toList by
      rw [hf]; simp only [app_list]; unfold keyForm; simp [keyF1, keyF2])
    have hfs : f.size ≤ 1099511627000 := by
      rw [hf]; simp only [ByteArray.size_append]
      show 11 + t.size + 12 + s.size + 2 ≤ _; omega
    have HFF := Lib.hid hf
    clear hf
    go_enter Tryz.func19, Tryz.ntmps19
    go_wp2_with fail
    refine HM.out.mono ?_
    rintro e w1 ⟨rfl, hb1⟩
    have HB1 := Lib.hid (HB0.out.trans (hb1.mono (by simp)))
    have hx1 := hb1.block w.heap.size (by simp)
    rw [HX0.out] at hx1
    have q0 : w1.cell? ⟨w.heap.size, 0, none⟩ = some (.string s) := box_cell (w := w1) hx1 rfl
    have q1 : w1.cell? ⟨w.heap.size, 1, none⟩ = some (.string t) := box_cell (w := w1) hx1 rfl
    clear hb1 hx1
    go_wp2_with fail
    rw [← HFF.out]
    refine (refDigest f w1 hfs).mono ?_
    rintro e w2 ⟨rfl, hb2⟩
    have HB2 := Lib.hid (HB1.out.trans (hb2.mono HB1.out.size))
    clear hb2
    go_wp2
    go_ret2
    exact ⟨by rw [HF.out]; rfl, HB2.out⟩

end Go.Proofs.YtcahpjejpimdhaaGreatDoor

namespace Go.Proofs.YtcahpjejpimdhaaGreatDoor
open Go.RowKit

def zeroJ : JV := .mk 0 0 { data := #[] } [] []
/-- What is told of a key: its object, or nothing; the error. -/
def keyU (s t : ByteArray) : JV := if keyOk s.data.toList t.data.toList then keyJ s t else zeroJ
def keyE (s t : ByteArray) : Int := if keyOk s.data.toList t.data.toList then 0 else 3
def ValPost (u : JV) (er : Int) (w : World) (e : Ending) (w' : World) : Prop :=
  ∃ an cn ai ci, e = .returned (.tuple #[.agg #[.int .u8 u.kind, .int .i64 u.n, .string u.t, .slice an u.names.length cn, .slice ai u.items.length ci], .int .i64 er]) ∧
    Rep w' w.heap.size w'.heap.size u (.agg #[.int .u8 u.kind, .int .i64 u.n, .string u.t, .slice an u.names.length cn, .slice ai u.items.length ci]) ∧ Below w.heap.size w w'
theorem rep_zeroJ (w : World) (lo hi : Nat) : Rep w lo hi zeroJ zeroAgg := by
  unfold zeroJ Rep; exact ⟨none, 0, none, 0, rfl, Nat.le_refl _, Nat.le_refl _, .inl rfl, .inl rfl⟩
theorem keyValue_any (s t : ByteArray) (w : World) (hs : s.size ≤ 4294967000) (ht : t.size ≤ 4294967000) : Calls Tryz.prog 16 #[.agg #[.string s, .string t]] w (ValPost (keyU s t) (keyE s t) w) := by
  unfold keyU keyE
  cases hk : keyOk s.data.toList t.data.toList
  · refine (keyValue_no s t w hs ht hk).mono ?_
    rintro e w' ⟨rfl, hb⟩
    exact ⟨none, 0, none, 0, rfl, rep_zeroJ _ _ _, hb⟩
  · refine (keyValue_yes s t w hs ht hk).mono ?_
    rintro e w' ⟨an, cn, ai, ci, rfl, hr, hb⟩
    exact ⟨an, cn, ai, ci, rfl, hr, hb⟩
theorem ref14Value_any (s t : ByteArray) (w : World) (hs : s.size ≤ 4294967000) (ht : t.size ≤ 4294967000) : Calls Tryz.prog 15 #[.agg #[.string s, .string t]] w (ValPost (keyU s t) (keyE s t) w) := by
  unfold keyU keyE
  cases hk : keyOk s.data.toList t.data.toList
  · refine (ref14Value_no s t w hs ht hk).mono ?_
    rintro e w' ⟨rfl, hb⟩
    exact ⟨none, 0, none, 0, rfl, rep_zeroJ _ _ _, hb⟩
  · refine (ref14Value_yes s t w hs ht hk).mono ?_
    rintro e w' ⟨an, cn, ai, ci, rfl, hr, hb⟩
    exact ⟨an, cn, ai, ci, rfl, hr, hb⟩
theorem keyU_wt {s t : ByteArray} (hs : s.size ≤ 4294967) (ht : t.size ≤ 4294967) : (keyU s t).wt ≤ 4294967296 ∧ (keyU s t).items.length ≤ 2 := by
  unfold keyU
  split
  · exact ⟨keyJ_wt hs ht, Nat.le_refl 2⟩
  · exact ⟨by decide, Nat.zero_le _⟩

/-- At the head of the outer loop. -/
structure TellsAt (s t : ByteArray) (u : JV) (p3 : Nat) (x : Array Value) (w wr : World) : Prop where
  below : Below w.heap.size w wr
  key : wr.heap[w.heap.size]? = some (.cells #[.string s, .string t] 23 (0, 0))
  box : wr.heap[p3]? = some (.cells x 29 (0, 0))
  rep : Rep wr 0 p3 u (.agg x)
  gt : w.heap.size < p3

theorem TellsAt.later {s t : ByteArray} {u : JV} {p3 : Nat} {x : Array Value} {w wr w' : World} (h : TellsAt s t u p3 x w wr) (hb : Below wr.heap.size wr w') : TellsAt s t u p3 x w w' where
  below := h.below.trans (hb.mono h.below.size)
  key := blk_b hb h.key
  box := blk_b hb h.box
  rep := h.rep.below hb (Nat.le_of_lt (heap_lt h.box)) (Nat.le_refl _) (Nat.le_refl _)
  gt := h.gt
where blk_b {w w' : World} {p : Nat} {o : Obj} (hb : Below w.heap.size w w') (h : w.heap[p]? = some o) : w'.heap[p]? = some o := by rw [hb.block _ (heap_lt h)]; exact h
theorem TellsAt.touched {s t : ByteArray} {u : JV} {p3 B p : Nat} {x : Array Value} {w wr w' : World} (h : TellsAt s t u p3 x w wr) (ht : Touch (fun k => B ≤ k ∧ k < p) wr w') (hB : p3 < B) (hB' : B ≤ wr.heap.size) : TellsAt s t u p3 x w w' := by
  have hb : Below B wr w' := ht.below hB' (fun k hk => by omega)
  have := h.gt
  exact ⟨h.below.trans (hb.mono (by omega)), by rw [hb.block _ (by omega)]; exact h.key, by rw [hb.block _ hB]; exact h.box, h.rep.below hb (by omega) (Nat.le_refl _) (Nat.le_refl _), h.gt⟩

set_option maxHeartbeats 2000000 in
set_option maxRecDepth 100000 in
theorem lawKeyTells (s t : ByteArray) (w : World) (hT : Tabs w) :
    Calls Tryz.prog 3 #[.agg #[.string s, .string t]] w fun e w' => e = .returned (.bool true) ∧ Below w.heap.size w w' := by
  have HT := Lib.hid hT
  clear hT
  have HB0 := Lib.hid (show Below w.heap.size w (w.alloc (.cells #[.string s, .string t] 23)) from (Below.refl _ _).alloc (Nat.le_refl _) _)
  have HX0 := Lib.hid (heap_alloc_new w (.cells #[.string s, .string t] 23))
  have HSH := Lib.hid (lawShort s t (w.alloc (.cells #[.string s, .string t] 23)))
  cases hsh : shortK s t
  · rw [hsh] at HSH
    clear hsh
    go_enter Tryz.func3, Tryz.ntmps3
    go_wp2_with fail
    refine HSH.out.mono ?_
    rintro e w1 ⟨rfl, hb1⟩
    have HB1 := Lib.hid (HB0.out.trans (hb1.mono (by simp)))
    clear hb1
    go_wp2_with fail
    refine (lawAwake w1 (HT.out.below HB1.out)).mono ?_
    rintro e w2 ⟨rfl, hb2⟩
    have HB2 := Lib.hid (HB1.out.trans (hb2.mono HB1.out.size))
    clear hb2
    go_wp2
    go_ret
    exact ⟨rfl, HB2.out⟩
  obtain ⟨hs, ht⟩ := short_iff.1 hsh
  rw [hsh] at HSH
  clear hsh
  obtain ⟨u, hu⟩ : ∃ u, u = keyU s t := ⟨_, rfl⟩
  obtain ⟨er, her⟩ : ∃ er, er = keyE s t := ⟨_, rfl⟩
  have HVA := Lib.hid (show ∀ w, Calls Tryz.prog 16 #[.agg #[.string s, .string t]] w (ValPost u er w) from fun w => by rw [hu, her]; exact keyValue_any s t w (by omega) (by omega))
  have HVB := Lib.hid (show ∀ w, Calls Tryz.prog 15 #[.agg #[.string s, .string t]] w (ValPost u er w) from fun w => by rw [hu, her]; exact ref14Value_any s t w (by omega) (by omega))
  have HUW := Lib.hid (show u.wt ≤ 4294967296 by rw [hu]; exact (keyU_wt (by omega) (by omega)).1)
  have hul : u.items.length ≤ 2 := by rw [hu]; exact (keyU_wt (by omega) (by omega)).2
  clear hu her
  obtain ⟨uk, huk⟩ : ∃ x, x = u.kind := ⟨_, rfl⟩
  obtain ⟨un, hun⟩ : ∃ x, x = u.n := ⟨_, rfl⟩
  obtain ⟨ut, hut⟩ : ∃ x, x = u.t := ⟨_, rfl⟩
  obtain ⟨nn, hnn⟩ : ∃ x, x = u.names.length := ⟨_, rfl⟩
  obtain ⟨ni, hni⟩ : ∃ x, x = u.items.length := ⟨_, rfl⟩
  unfold ValPost at HVA HVB
  rw [← huk, ← hun, ← hut, ← hnn, ← hni] at HVA HVB
  rw [← hni] at hul
  have HNI := Lib.hid hni
  clear huk hun hut hnn hni
  go_enter Tryz.func3, Tryz.ntmps3
  go_wp2_with fail
  refine HSH.out.mono ?_
  clear HSH
  rintro e w1 ⟨rfl, hb1⟩
  have hx1 : w1.heap[w.heap.size]? = some (.cells #[.string s, .string t] 23 (0, 0)) := by rw [hb1.block _ (by simp)]; exact HX0.out
  have HX1 := Lib.hid hx1
  have HB1 := Lib.hid (HB0.out.trans (hb1.mono (by simp)))
  have c0 : w1.cell? ⟨w.heap.size, 0, none⟩ = some (.string s) := box_cell hx1 rfl
  have c1 : w1.cell? ⟨w.heap.size, 1, none⟩ = some (.string t) := box_cell hx1 rfl
  clear hb1 hx1 HB0 HX0
  go_wp2_with fail
  refine (HVB.out w1).mono ?_
  clear HVB c0 c1
  rintro e w2 ⟨an, cn, ai, ci, rfl, hr2, hb2⟩
  have HA := Lib.hid (show TellsAt s t u w2.heap.size #[.int .u8 uk, .int .i64 un, .string ut, .slice an nn cn, .slice ai ni ci] w (w2.alloc (.cells #[.int .u8 uk, .int .i64 un, .string ut, .slice an nn cn, .slice ai ni ci] 29)) from
    ⟨(HB1.out.trans (hb2.mono HB1.out.size)).alloc (by have := HB1.out.size; have := hb2.size; omega) _, by rw [Below.heap_alloc _ _ _ (by have := heap_lt HX1.out; have := hb2.size; omega), hb2.block _ (heap_lt HX1.out)]; exact HX1.out, heap_alloc_new w2 _,
      hr2.below ((Below.refl _ _).alloc (Nat.le_refl _) _) (Nat.le_refl _) (Nat.zero_le _) (Nat.le_refl _), by have := heap_lt HX1.out; have := hb2.size; omega⟩)
  clear hr2 hb2 HB1 HX1
  go_wp2_with fail
  obtain ⟨p3, hp3⟩ : ∃ p3, p3 = w2.heap.size := ⟨_, rfl⟩
  rw [← hp3] at HA
  rw [← hp3]
  clear hp3
  go_loopw [5, 6, 7, 8] (fun r _ _ _ wr => ∃ k : Nat, k ≤ 2 ∧ r = .int .i64 k ∧ TellsAt s t u p3 #[.int .u8 uk, .int .i64 un, .string ut, .slice an nn cn, .slice ai ni ci] w wr) (fun r _ _ _ _ => 2 - (intOf r).toNat)
  case atStart => exact ⟨0, by omega, rfl, HA.out⟩
  case round =>
    clear HA
    obtain ⟨k, hk, rfl, hA⟩ := hrel
    have HA := Lib.hid hA
    have c0 : wr.cell? ⟨w.heap.size, 0, none⟩ = some (.string s) := box_cell hA.key rfl
    have c1 : wr.cell? ⟨w.heap.size, 1, none⟩ = some (.string t) := box_cell hA.key rfl
    clear hA
    by_cases hlt : k < 2
    · have hlt2 : (k : Int) < 2 := by omega
      go_wp2_with fail
      refine (HVA.out wr).mono ?_
      clear c0 c1
      rintro e w3 ⟨an', cn', ai', ci', rfl, hr3, hb3⟩
      have hz0 : 0 < wr.heap.size := by have := heap_lt HA.out.box; omega
      have hp3 : p3 < wr.heap.size := heap_lt HA.out.box
      have hz3 : wr.heap.size ≤ w3.heap.size := hb3.size
      obtain ⟨W, hW⟩ : ∃ W, W = w3.alloc (.cells #[.int .u8 uk, .int .i64 un, .string ut, .slice an' nn cn', .slice ai' ni ci'] 29) := ⟨_, rfl⟩
      have hbW : Below wr.heap.size wr W := by rw [hW]; exact hb3.alloc hb3.size _
      have hWz : W.heap.size = w3.heap.size + 1 := by rw [hW]; simp
      have hxW : W.heap[w3.heap.size]? = some (.cells #[.int .u8 uk, .int .i64 un, .string ut, .slice an' nn cn', .slice ai' ni ci'] 29 (0, 0)) := by rw [hW]; exact heap_alloc_new w3 _
      have hrW : Rep W wr.heap.size w3.heap.size u (.agg #[.int .u8 uk, .int .i64 un, .string ut, .slice an' nn cn', .slice ai' ni ci']) := by rw [hW]; exact hr3.below ((Below.refl _ _).alloc (Nat.le_refl _) _) (Nat.le_refl _) (Nat.le_refl _) (Nat.le_refl _)
      have HAW := Lib.hid (HA.out.later hbW)
      have HSM := Lib.hid (refSame 4294967296 u u _ _ 0 W.heap.size W HUW.out HUW.out (Nat.le_refl _) (Nat.le_refl _) (Rep.carry (Nat.zero_le _) (by omega) (fun _ _ _ => rfl) _ _ hrW) (Rep.carry (Nat.le_refl _) (Nat.le_of_lt (heap_lt HAW.out.box)) (fun _ _ _ => rfl) _ _ HAW.out.rep))
      rw [show u.sameB u = true from (JV.sameB_iff u u).2 rfl] at HSM
      have HRW := Lib.hid hrW
      have HXW := Lib.hid hxW
      have d0 : W.cell? ⟨w3.heap.size, 0, none⟩ = some (.int .u8 uk) := box_cell hxW rfl
      have d1 : W.cell? ⟨w3.heap.size, 1, none⟩ = some (.int .i64 un) := box_cell hxW rfl
      have d2 : W.cell? ⟨w3.heap.size, 2, none⟩ = some (.string ut) := box_cell hxW rfl
      have d3 : W.cell? ⟨w3.heap.size, 3, none⟩ = some (.slice an' nn cn') := box_cell hxW rfl
      have d4 : W.cell? ⟨w3.heap.size, 4, none⟩ = some (.slice ai' ni ci') := box_cell hxW rfl
      have e0 : W.cell? ⟨p3, 0, none⟩ = some (.int .u8 uk) := box_cell HAW.out.box rfl
      have e1 : W.cell? ⟨p3, 1, none⟩ = some (.int .i64 un) := box_cell HAW.out.box rfl
      have e2 : W.cell? ⟨p3, 2, none⟩ = some (.string ut) := box_cell HAW.out.box rfl
      have e3 : W.cell? ⟨p3, 3, none⟩ = some (.slice an nn cn) := box_cell HAW.out.box rfl
      have e4 : W.cell? ⟨p3, 4, none⟩ = some (.slice ai ni ci) := box_cell HAW.out.box rfl
      have HWZ := Lib.hid hWz
      have HBW := Lib.hid hbW
      clear hr3 hb3 hxW hrW hbW hWz
      rw [hW] at d0 d1 d2 d3 d4 e0 e1 e2 e3 e4
      have HW := Lib.hid hW
      clear hW
      go_wp2_with fail
      clear d0 d1 d2 d3 d4 e0 e1 e2 e3 e4
      rw [← HW.out]
      refine HSM.out.mono ?_
      clear HSM HW
      rintro e w4 ⟨rfl, hb4⟩
      have hz4 : w3.heap.size < w4.heap.size := by have := hb4.size; have := HWZ.out; omega
      have HA4 := Lib.hid (HAW.out.later hb4)
      have HX4 := Lib.hid (show w4.heap[w3.heap.size]? = some (.cells #[.int .u8 uk, .int .i64 un, .string ut, .slice an' nn cn', .slice ai' ni ci'] 29 (0, 0)) by rw [hb4.block _ (heap_lt HXW.out)]; exact HXW.out)
      have HRM := Lib.hid (show ni = 0 ∨ ∃ b off, ai' = some ⟨b, off, none⟩ ∧ wr.heap.size ≤ b ∧ b < w3.heap.size ∧ Room w4 b off (ni * 5) by
        obtain ⟨an2, cn2, ai2, ci2, hx, _, _, _, hv⟩ := (HRW.out.below hb4 (by have := HWZ.out; omega) (Nat.le_refl _) (Nat.le_refl _)).parts
        simp only [Value.agg.injEq, Array.mk.injEq, List.cons.injEq, Value.slice.injEq, and_true] at hx
        obtain ⟨_, _, _, _, rfl, _, _⟩ := hx
        have := hv.room hz0
        rwa [← HNI.out] at this)
      clear hb4 HAW HXW HRW HBW
      obtain ⟨wo, rfl⟩ : ∃ wo : World, wo = wr := ⟨_, rfl⟩
      generalize w3.heap.size = p6 at *
      go_wp2_with fail
      go_loopw [8] (fun i wr => SpoilRel wo.heap.size p6 ni ai' w4 i wr) (fun i _ => ni - (intOf i).toNat)
      case atStart => exact ⟨0, by omega, rfl, Touch.refl _ _, HRM.out⟩
      case round =>
        obtain ⟨q, hq, rfl, htq, hrq⟩ := hrel
        have HTQ := Lib.hid htq
        have c4 : wr.cell? ⟨p6, 4, none⟩ = some (.slice ai' ni ci') := (htq.cell hz4 (by simp)).trans (box_cell HX4.out rfl)
        clear htq
        by_cases hqn : q < ni
        · obtain ⟨b, off, ha, hb1, hb2, hrm⟩ : ∃ b off, ai' = some ⟨b, off, none⟩ ∧ wo.heap.size ≤ b ∧ b < p6 ∧ Room wr b off (ni * 5) := by
            rcases hrq with h | h
            · omega
            · exact h
          subst ha
          obtain ⟨f0, g0⟩ := hrm.cell (off + q * 5) (by omega)
          obtain ⟨f1, g1⟩ := hrm.cell (off + q * 5 + 1) (by omega)
          obtain ⟨f2, g2⟩ := hrm.cell (off + q * 5 + 2) (by omega)
          obtain ⟨f3, g3⟩ := hrm.cell (off + q * 5 + 3) (by omega)
          obtain ⟨f4, g4⟩ := hrm.cell (off + q * 5 + 4) (by omega)
          have s0 := hrm.frozen (off + q * 5)
          have s1 := hrm.frozen (off + q * 5 + 1)
          have s2 := hrm.frozen (off + q * 5 + 2)
          have s3 := hrm.frozen (off + q * 5 + 3)
          have s4 := hrm.frozen (off + q * 5 + 4)
          have HRQ := Lib.hid hrm
          clear hrm hrq HRM
          go_wp2
          go_roundw
          case rel => exact SpoilRel.set hqn HTQ.out hb1 hb2 HRQ.out
          case measure => simp [intOf]; omega
        · clear hrq
          go_wp2
          go_roundw
          case rel => exact ⟨k + 1, by omega, by go_num, HA4.out.touched HTQ.out hp3 (by omega)⟩
          case measure => simp [intOf]; omega
    · have hlt2 : ¬ (k : Int) < 2 := by omega
      have HIA := Lib.hid (keyID s t wr (by omega) (by omega) (HT.out.below HA.out.below))
      have HIB := Lib.hid (fun w => ref14ID s t w (by omega) (by omega))
      unfold KeyIdPost at HIA HIB
      obtain ⟨ID, hID⟩ : ∃ ID : ByteArray, ID = ⟨(keyId s.data.toList t.data.toList).toArray⟩ := ⟨_, rfl⟩
      obtain ⟨E, hE⟩ : ∃ E : Int, E = if keyOk s.data.toList t.data.toList = true then 0 else 3 := ⟨_, rfl⟩
      obtain ⟨ok, hok⟩ : ∃ ok : Bool, ok = keyOk s.data.toList t.data.toList := ⟨_, rfl⟩
      rw [← hID, ← hE] at HIA HIB
      have HOK := Lib.hid hok
      clear hID hE hok
      go_wp2_with fail
      refine HIA.out.mono ?_
      clear HIA c0 c1
      rintro e w3 ⟨rfl, hb3⟩
      have HA3 := Lib.hid (HA.out.later hb3)
      clear hb3 HA
      have c0 : w3.cell? ⟨w.heap.size, 0, none⟩ = some (.string s) := box_cell HA3.out.key rfl
      have c1 : w3.cell? ⟨w.heap.size, 1, none⟩ = some (.string t) := box_cell HA3.out.key rfl
      go_wp2_with fail
      refine (HIB.out w3).mono ?_
      clear HIB c0 c1
      rintro e w4 ⟨rfl, hb4⟩
      have HA4 := Lib.hid (HA3.out.later hb4)
      clear hb4 HA3
      have HS := Lib.hid (show ∀ w' : World, Below w4.heap.size w4 w' → w'.cell? ⟨w.heap.size, 0, none⟩ = some (.string s) ∧ w'.cell? ⟨w.heap.size, 1, none⟩ = some (.string t) from fun w' h => ⟨box_cell (HA4.out.later h).key rfl, box_cell (HA4.out.later h).key rfl⟩)
      have HMA := Lib.hid (show ∀ w' : World, Below w4.heap.size w4 w' → Calls Tryz.prog 20 #[.agg #[.string s, .string t]] w' (fun e w'' => e = .returned (.bool ok) ∧ Below w4.heap.size w4 w'') from fun w' h => by
        refine (keyMay s t w' (by omega) (by omega)).mono ?_
        rintro e w'' ⟨rfl, hb⟩
        exact ⟨by rw [HOK.out], h.trans (hb.mono h.size)⟩)
      have HMB := Lib.hid (show ∀ w' : World, Below w4.heap.size w4 w' → Calls Tryz.prog 21 #[.agg #[.string s, .string t]] w' (fun e w'' => e = .returned (.bool ok) ∧ Below w4.heap.size w4 w'') from fun w' h => by
        refine (ref14May s t w' (by omega) (by omega)).mono ?_
        rintro e w'' ⟨rfl, hb⟩
        exact ⟨by rw [HOK.out], h.trans (hb.mono h.size)⟩)
      have HMC := Lib.hid (show ∀ w' : World, Below w4.heap.size w4 w' → Calls Tryz.prog 14 #[] w' (fun e w'' => e = .returned (.bool true) ∧ Below w4.heap.size w4 w'') from fun w' h => by
        refine (lawAwake w' ((HT.out.below HA4.out.below).below h)).mono ?_
        rintro e w'' ⟨rfl, hb⟩
        exact ⟨rfl, h.trans (hb.mono h.size)⟩)
      have hbz : Below w4.heap.size w4 w4.drew := (Below.refl _ _).drew
      have hq := HS.out w4.drew hbz
      have HBF := Lib.hid HA4.out.below
      clear HA4
      go_wp2_with fail
      go_region_held3 (fun w' => w'.cell? ⟨w.heap.size, 0, none⟩ = some (.string s) ∧ w'.cell? ⟨w.heap.size, 1, none⟩ = some (.string t)) (first | (with_reducible exact hq) | (go_keep; done)) (first | ((go_at_call 20; (with_reducible refine (HMA.out _ hbz).mono ?_); rintro e w10 ⟨rfl, hbz⟩; have hq := HS.out w10 hbz)) | ((go_at_call 21; (with_reducible refine (HMB.out _ hbz).mono ?_); rintro e w10 ⟨rfl, hbz⟩; have hq := HS.out w10 hbz)) | ((go_at_call 14; (with_reducible refine (HMC.out _ hbz).mono ?_); rintro e w10 ⟨rfl, hbz⟩; have hq := HS.out w10 hbz)))
      all_goals (go_wp2; go_ret; exact ⟨rfl, HBF.out.trans (hbz.mono HBF.out.size)⟩)

end Go.Proofs.YtcahpjejpimdhaaGreatDoor
