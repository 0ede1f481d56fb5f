/- The contract of legateref02.Digest. The contract of legateref14.ID. The contracts of legatelaw14.few, key.Find, legateref14.Find. The contract of the law KeyFinds: it returns true, whatever the keys and the text. -/
import Derived.Test.YtcahpjejpimdhaaGreatDoorZt228
import Derived.Test.YtcahpjejpimdhaaGreatDoorZt218
import Derived.Test.YtcahpjejpimdhaaGreatDoorZt223
import Derived.Test.YtcahpjejpimdhaaGreatDoorZt201
import Derived.Test.YtcahpjejpimdhaaGreatDoorZt222
import Derived.Test.YtcahpjejpimdhaaGreatDoorZt215

namespace Go.Proofs.YtcahpjejpimdhaaGreatDoor
open Go.RowKit

theorem digit_at (i : Nat) (h : i < 16) : ((({ data := #[48, 49, 50, 51, 52, 53, 54, 55, 56, 57, 97, 98, 99, 100, 101, 102] } : ByteArray)[i]'h).toNat : Int) = (hexChar i).toNat := by
  have : ∀ m : Fin 16, ((({ data := #[48, 49, 50, 51, 52, 53, 54, 55, 56, 57, 97, 98, 99, 100, 101, 102] } : ByteArray)[m.val]'m.isLt).toNat : Int) = (hexChar m.val).toNat := by decide
  exact this ⟨i, h⟩

theorem digit_run (j : Int) (i : Nat) (h : i < 16) (hj : j = (i : Int)) (w : World) : (Instr.index 9 (.string { data := #[48, 49, 50, 51, 52, 53, 54, 55, 56, 57, 97, 98, 99, 100, 101, 102] }) (.int .u8 j)).run Tryz.prog w = .ok (.int .u8 (hexChar i).toNat) w := by
  subst hj
  have hs : i < ({ data := #[48, 49, 50, 51, 52, 53, 54, 55, 56, 57, 97, 98, 99, 100, 101, 102] } : ByteArray).size := h
  rw [run_index_string w _ _ _ _ Tryz.underlying9, dif_pos ⟨by omega, by omega⟩]
  congr 2
  have := digit_at i h
  simpa using this

set_option maxRecDepth 100000 in
set_option maxHeartbeats 400000 in
theorem refDigest (s : ByteArray) (w : World) (hs : s.size ≤ 1099511627000) :
    Calls Tryz.prog 47 #[.string s] w fun e w' => e = .returned (.string ⟨(shaHex s.data.toList).toArray⟩) ∧ Below w.heap.size w w' := by
  obtain ⟨i0, hi, hz0, hz1, hz2⟩ := info_parts infoU8
  have HSM := Lib.hid (refSum s w hs)
  obtain ⟨t, ht⟩ : ∃ t : ByteArray, t = ⟨(shaSum s.data.toList).toArray⟩ := ⟨_, rfl⟩
  have HT := Lib.hid (show hexEnc t.data.toList = shaHex s.data.toList by rw [ht]; rfl)
  have hts : t.size ≤ 32 := by rw [ht]; show (shaSum s.data.toList).toArray.size ≤ 32; rw [List.size_toArray, shaSum_length]; omega
  rw [← ht] at HSM
  clear ht
  go_enter Tryz.func47, Tryz.ntmps47
  go_wp2_with fail
  refine HSM.out.mono ?_
  rintro e w1 ⟨rfl, hb1⟩
  have HB1 := Lib.hid hb1
  clear hb1 HSM
  go_wp2
  go_loopw [4, 5] (fun v i wr => ∃ k : Nat, k ≤ t.size ∧ i = .int .i64 k ∧ wr.ownsRow w1.heap.size 5 1 v (2 * k) (Lib.byteCells (hexEnc (t.data.toList.take k))) ∧ Below w1.heap.size w1 wr) (fun _ i _ => t.size - (intOf i).toNat)
  case atStart => exact ⟨0, by omega, rfl, ⟨rfl, .inl ⟨rfl, rfl⟩⟩, Below.refl _ _⟩
  case round =>
    obtain ⟨k, hk, rfl, hown, hbel⟩ := hrel
    by_cases hlt : k < t.size
    · have hlt0 := hlt
      have hc : t[k].toNat < 256 := t[k].toNat_lt
      have m0 : (k : Int) < (t.size : Int) := by omega
      have hz5 : w1.heap.size ≤ wr.heap.size := hbel.size
      have HO := Lib.hid hown; clear hown
      have HB := Lib.hid hbel; clear hbel
      obtain ⟨c, hcc⟩ : ∃ c, c = t[k].toNat := ⟨_, rfl⟩
      have HCC := Lib.hid hcc
      have hcc' : (t[k].toNat : Int) = (c : Int) := by rw [hcc]
      rw [← hcc] at hc
      clear hcc
      have t1 : (c : Int).tdiv 16 = (c : Int) / 16 := Int.tdiv_eq_ediv_of_nonneg (by omega)
      have t2 : (c : Int).tmod 16 = (c : Int) % 16 := Int.tmod_eq_emod_of_nonneg (by omega)
      have t3 : IntKind.u8.wrap ((c : Int) / 16) = (c : Int) / 16 := IntWalk.u8_in _ (by omega)
      have d1 : ∀ w, (Instr.index 9 (.string { data := #[48, 49, 50, 51, 52, 53, 54, 55, 56, 57, 97, 98, 99, 100, 101, 102] }) (.int .u8 ((c : Int) / 16))).run Tryz.prog w = .ok (.int .u8 (hexChar (c / 16)).toNat) w := digit_run _ (c / 16) (by omega) (by omega)
      have d2 : ∀ w, (Instr.index 9 (.string { data := #[48, 49, 50, 51, 52, 53, 54, 55, 56, 57, 97, 98, 99, 100, 101, 102] }) (.int .u8 ((c : Int) % 16))).run Tryz.prog w = .ok (.int .u8 (hexChar (c % 16)).toNat) w := digit_run _ (c % 16) (by omega) (by omega)
      have HW1 := Lib.hid (show ∀ o, w1.heap.size ≤ ((wr.alloc o).drew).heap.size from fun o => by simp <;> omega)
      have HW2 := Lib.hid (show ∀ o, ((wr.alloc o).drew).heap.size = wr.heap.size + 1 from fun o => by simp)
      have HW3 := Lib.hid (show 2 * k + 2 ≤ maxLen by unfold maxLen; omega)
      have HW4 := Lib.hid (show (2 * k + 2) * 1 ≤ 140737488355328 by omega)
      go_wp2_with fail
      go_region_held3 (fun w' => True) (first | trivial | go_keep) ((refine step_append_lies _ (by rfl) _ _ _ (by rfl) w1.heap.size 5 i0 _ 1 1 Tryz.underlying62 hi hz0 hz1 hz2 rfl (by omega) _ (2 * k) _ (by rfl) ((HO.out.alloc _).drew) ⟨wr.heap.size, 0, none⟩ 2 2 [.int .u8 (hexChar (c / 16)).toNat, .int .u8 (hexChar (c % 16)).toNat] (by rfl) (by rfl) (World.news_of_block (cs := #[.int .u8 (hexChar (c / 16)).toNat, .int .u8 (hexChar (c % 16)).toNat]) (t := 5) (fr := (0, 0)) (heap_alloc_new wr _)) (by simp [Value.oneCell']) (by omega) HW3.out HW4.out (HW1.out _) (wr.heap.size + 1) (HW2.out _) ?_; intro gg cap w2 hown1 hgrow hat hlt6))
      all_goals
        have HO1 := Lib.hid hown1
        have HG := Lib.hid hgrow
        clear hown1 hgrow hat d1 d2
        go_wp2
        go_roundw
        case rel =>
          refine ⟨k + 1, by omega, by go_num, ?_, ?_⟩
          · rw [show 2 * (k + 1) = 2 * k + 2 by omega, hexEnc_snoc t k hlt0 c HCC.out]; exact HO1.out
          · exact ((HB.out.alloc (by omega) _).drew).grown HG.out (by simp; omega) (fun g hg => (HO.out.lt g hg).1)
        case measure => simp [intOf]; omega
    · have hcv := run_convert_owned (P := Tryz.prog) 62 9 5 Tryz.underlying62 Tryz.underlying5 Tryz.underlying9 hown
      rw [List.take_of_length_le (by rw [toList_length]; omega), HT.out] at hcv
      have HB := Lib.hid hbel
      clear hown hbel
      go_wp2
      go_ret
      exact ⟨rfl, HB1.out.trans (HB.out.mono HB1.out.size)⟩

end Go.Proofs.YtcahpjejpimdhaaGreatDoor

namespace Go.Proofs.YtcahpjejpimdhaaGreatDoor
open Go.RowKit

set_option maxHeartbeats 400000 in
set_option maxRecDepth 100000 in
theorem ref14ID (s t : ByteArray) (w : World) (hs : s.size ≤ 4294967) (ht : t.size ≤ 4294967) :
    Calls Tryz.prog 19 #[.agg #[.string s, .string t]] w (KeyIdPost s t w) := by
  have HM := Lib.hid (ref14May s t (w.alloc (.cells #[.string s, .string t] 23)) (by omega) (by omega))
  have HB0 := Lib.hid (show Below w.heap.size w (w.alloc (.cells #[.string s, .string t] 23)) from (Below.refl _ _).alloc (Nat.le_refl _) _)
  have HX0 := Lib.hid (heap_alloc_new w (.cells #[.string s, .string t] 23))
  unfold KeyIdPost keyId
  cases hk : keyOk s.data.toList t.data.toList
  · rw [hk] at HM
    clear hk
    go_enter Tryz.func19, Tryz.ntmps19
    go_wp2_with fail
    refine HM.out.mono ?_
    rintro e w1 ⟨rfl, hb1⟩
    have HB1 := Lib.hid (HB0.out.trans (hb1.mono (by simp)))
    clear hb1
    go_wp2
    go_ret2
    exact ⟨rfl, HB1.out⟩
  · rw [hk] at HM
    clear hk
    obtain ⟨f, hf⟩ : ∃ f : ByteArray, f = (({ data := #[123, 34, 112, 117, 98, 108, 105, 99, 34, 58, 34] } ++ t ++ { data := #[34, 44, 34, 115, 99, 104, 101, 109, 101, 34, 58, 34] }) ++ s) ++ { data := #[34, 125] } := ⟨_, rfl⟩
    have HF := Lib.hid (show f.data.toList = keyForm s.data.toList t.data.toList by
      rw [hf]; simp only [app_list]; unfold keyForm; simp [keyF1, keyF2])
    have hfs : f.size ≤ 1099511627000 := by
      rw [hf]; simp only [ByteArray.size_append]
      show 11 + t.size + 12 + s.size + 2 ≤ _; omega
    have HFF := Lib.hid hf
    clear hf
    go_enter Tryz.func19, Tryz.ntmps19
    go_wp2_with fail
    refine HM.out.mono ?_
    rintro e w1 ⟨rfl, hb1⟩
    have HB1 := Lib.hid (HB0.out.trans (hb1.mono (by simp)))
    have hx1 := hb1.block w.heap.size (by simp)
    rw [HX0.out] at hx1
    have q0 : w1.cell? ⟨w.heap.size, 0, none⟩ = some (.string s) := box_cell (w := w1) hx1 rfl
    have q1 : w1.cell? ⟨w.heap.size, 1, none⟩ = some (.string t) := box_cell (w := w1) hx1 rfl
    clear hb1 hx1
    go_wp2_with fail
    rw [← HFF.out]
    refine (refDigest f w1 hfs).mono ?_
    rintro e w2 ⟨rfl, hb2⟩
    have HB2 := Lib.hid (HB1.out.trans (hb2.mono HB1.out.size))
    clear hb2
    go_wp2
    go_ret2
    exact ⟨by rw [HF.out]; rfl, HB2.out⟩

end Go.Proofs.YtcahpjejpimdhaaGreatDoor

namespace Go.Proofs.YtcahpjejpimdhaaGreatDoor
open Go.RowKit

/-- few: what it says of is few, and short. -/
def FewPost (l : List Key2) (w : World) (e : Ending) (w' : World) : Prop := ∃ b : Bool, e = .returned (.bool b) ∧ (b = true → l.length ≤ 40 ∧ ∀ k ∈ l, k.1.size ≤ 300 ∧ k.2.size ≤ 300) ∧ Below w.heap.size w w'

set_option maxHeartbeats 400000 in
theorem lawFew (l : List Key2) (a : Option Addr) (c : Nat) (w : World) (hK : KeysAt w 0 w.heap.size a l) (hl : l.length ≤ 9223372036854775807) :
    Calls Tryz.prog 28 #[.slice a l.length c] w (FewPost l w) := by
  have HK := Lib.hid hK
  clear hK
  by_cases h40 : l.length ≤ 40
  · have h40' : decide (40 < l.length) = false := by simp; omega
    go_enter Tryz.func28, Tryz.ntmps28
    go_wp2
    go_loopw [3] (fun i wr => ∃ k : Nat, k ≤ l.length ∧ i = .int .i64 k ∧ (∀ j (h : j < l.length), j < k → l[j].1.size ≤ 300 ∧ l[j].2.size ≤ 300) ∧ Below w.heap.size w wr) (fun i _ => l.length - (intOf i).toNat)
    case atStart => exact ⟨0, by omega, rfl, fun j _ h => by omega, Below.refl _ _⟩
    case round =>
      obtain ⟨k, hk, rfl, hal, hbel⟩ := hrel
      have HAL := Lib.hid hal
      have HB := Lib.hid hbel
      clear hal
      by_cases hlt : k < l.length
      · obtain ⟨b, off, ha, _, hb, e0, e1⟩ := (HK.out.below hbel (Nat.le_refl _) (Nat.le_refl _) hbel.size).at k hlt
        subst ha
        clear hbel
        have HSH := Lib.hid (lawShort l[k].1 l[k].2 wr)
        obtain ⟨b0, hb0⟩ : ∃ b0, b0 = shortK l[k].1 l[k].2 := ⟨_, rfl⟩
        rw [← hb0] at HSH
        have HB0 := Lib.hid hb0
        clear hb0
        go_wp2_with fail
        refine HSH.out.mono ?_
        rintro e w1 ⟨rfl, hb1⟩
        have HB1 := Lib.hid (HB.out.trans (hb1.mono HB.out.size))
        clear hb1 e0 e1
        cases b0
        · go_wp2
          go_ret
          exact ⟨false, rfl, (fun h => by cases h), HB1.out⟩
        · go_wp2
          go_roundw
          case rel =>
            refine ⟨k + 1, by omega, by go_num, fun j hj hjk => ?_, HB1.out⟩
            by_cases e : j = k
            · subst e; exact short_iff.1 HB0.out.symm
            · exact HAL.out j hj (by omega)
          case measure => simp [intOf]; omega
      · clear hbel
        go_wp2
        go_ret
        refine ⟨true, rfl, fun _ => ⟨h40, fun x hx => ?_⟩, HB.out⟩
        obtain ⟨j, hj, rfl⟩ := List.getElem_of_mem hx
        exact HAL.out j hj (by omega)
  · have h40' : decide (40 < l.length) = true := by simp; omega
    go_enter Tryz.func28, Tryz.ntmps28
    go_wp2
    go_ret
    exact ⟨false, rfl, (fun h => by cases h), Below.refl _ _⟩

/-- Has a key this ID? -/
def keyHit (id : ByteArray) (k : Key2) : Bool := keyOk k.1.data.toList k.2.data.toList && ((⟨(keyId k.1.data.toList k.2.data.toList).toArray⟩ : ByteArray).toList == id.toList)
def findK (id : ByteArray) : List Key2 → Key2 × Bool
  | [] => (({ data := #[] }, { data := #[] }), false)
  | k :: r => if keyHit id k then (k, true) else findK id r
def KFindPost (l : List Key2) (id : ByteArray) (w : World) (e : Ending) (w' : World) : Prop :=
  e = .returned (.tuple #[.agg #[.string (findK id l).1.1, .string (findK id l).1.2], .bool (findK id l).2]) ∧ Below w.heap.size w w'
theorem findK_drop (id : ByteArray) (l : List Key2) (k : Nat) (h : k < l.length) : findK id (l.drop k) = if keyHit id l[k] then (l[k], true) else findK id (l.drop (k + 1)) := by
  rw [List.drop_eq_getElem_cons h, findK]

set_option maxHeartbeats 1000000 in
set_option maxRecDepth 100000 in
theorem keyFind (l : List Key2) (id : ByteArray) (a : Option Addr) (c : Nat) (w : World) (hK : KeysAt w 0 w.heap.size a l) (hl : l.length ≤ 40) (hs : ∀ k ∈ l, k.1.size ≤ 300 ∧ k.2.size ≤ 300) (hT : Tabs w) :
    Calls Tryz.prog 29 #[.slice a l.length c, .string id] w (KFindPost l id w) := by
  have HK := Lib.hid hK
  have HS := Lib.hid hs
  have HT := Lib.hid hT
  clear hK hs hT
  go_enter Tryz.func29, Tryz.ntmps29
  go_wp2
  go_loopw [7, 8, 9, 12] (fun _ _ _ i wr => ∃ k : Nat, k ≤ l.length ∧ i = .int .i64 k ∧ findK id l = findK id (l.drop k) ∧ Below w.heap.size w wr ∧ wr.rowIs w.heap.size 23 2 (pick2 (.string { data := #[] }) (.string { data := #[] }))) (fun _ _ _ i _ => l.length - (intOf i).toNat)
  case atStart => exact ⟨0, by omega, rfl, rfl, (Below.refl _ _).alloc (Nat.le_refl _) _, rowIs_box2 _ _ _ _⟩
  case round =>
    obtain ⟨k, hk, rfl, hf, hbel, hrow⟩ := hrel
    have HF := Lib.hid hf
    have HB := Lib.hid hbel
    have HR := Lib.hid hrow
    have hwz : w.heap.size < wr.heap.size := hrow.lt
    clear hf
    by_cases hlt : k < l.length
    · obtain ⟨b, off, ha, _, hb, e0, e1⟩ := (HK.out.below hbel (Nat.le_refl _) (Nat.le_refl _) hbel.size).at k hlt
      subst ha
      obtain ⟨hs1, hs2⟩ := HS.out l[k] (List.getElem_mem hlt)
      have HFD := Lib.hid (findK_drop id l k hlt)
      obtain ⟨x, hx⟩ : ∃ x, x = l[k] := ⟨_, rfl⟩
      rw [← hx] at e0 e1 hs1 hs2 HFD
      clear hx hbel hrow
      obtain ⟨xs, xp⟩ := x
      have hs1 : xs.size ≤ 300 := hs1
      have hs2 : xp.size ≤ 300 := hs2
      have e0 : wr.cell? ⟨b, off + k * 2, none⟩ = some (.string xs) := e0
      have e1 : wr.cell? ⟨b, off + k * 2 + 1, none⟩ = some (.string xp) := e1
      have HID := Lib.hid (keyID xs xp (wr.alloc (.cells #[.string xs, .string xp] 23)) (by omega) (by omega) ((HT.out.below HB.out).below ((Below.refl _ _).alloc (Nat.le_refl _) _)))
      unfold KeyIdPost at HID
      obtain ⟨ok, hok⟩ : ∃ ok, ok = keyOk xs.data.toList xp.data.toList := ⟨_, rfl⟩
      obtain ⟨ID, hID⟩ : ∃ ID : ByteArray, ID = ⟨(keyId xs.data.toList xp.data.toList).toArray⟩ := ⟨_, rfl⟩
      rw [← hok, ← hID] at HID
      have HHI := Lib.hid (show keyHit id (xs, xp) = (ok && (ID.toList == id.toList)) by unfold keyHit; rw [hok, hID])
      clear hok hID
      have HRA := Lib.hid (below_row ((Below.refl _ _).alloc (Nat.le_refl _) (.cells #[.string xs, .string xp] 23)) HR.out hwz)
      go_wp2_with fail
      refine HID.out.mono ?_
      rintro e w1 ⟨rfl, hb1⟩
      have HB1 := Lib.hid ((HB.out.alloc HB.out.size _).trans (hb1.mono (by have := HB.out.size; simp; omega)))
      have HR1 := Lib.hid (below_row hb1 HRA.out (by simp; omega))
      have hX : w1.heap[wr.heap.size]? = some (.cells #[.string xs, .string xp] 23 (0, 0)) := by rw [hb1.block _ (by simp)]; exact heap_alloc_new wr _
      have hz1 : wr.heap.size < w1.heap.size := by have := hb1.size; simp at this; omega
      clear hb1 e0 e1 HID HRA
      cases hh : ok && (ID.toList == id.toList)
      · have HHF := Lib.hid (show findK id l = findK id (l.drop (k + 1)) by rw [HF.out, HFD.out, HHI.out, hh]; rfl)
        cases ok
        · clear hh hX
          rw [if_neg (by simp)]
          go_wp2
          go_roundw
          case rel => exact ⟨k + 1, by omega, by go_num, HHF.out, HB1.out, HR1.out⟩
          case measure => simp [intOf]; omega
        · have hh2 : (ID.toList == id.toList) = false := by simpa using hh
          clear hh hX
          rw [if_pos rfl]
          go_wp2
          go_roundw
          case rel => exact ⟨k + 1, by omega, by go_num, HHF.out, HB1.out, HR1.out⟩
          case measure => simp [intOf]; omega
      · obtain ⟨rfl, hh2⟩ : ok = true ∧ (ID.toList == id.toList) = true := by simpa using hh
        have HHF := Lib.hid (show findK id l = ((xs, xp), true) by rw [HF.out, HFD.out, HHI.out, hh]; rfl)
        have c0 : w1.cell? ⟨wr.heap.size, 0, none⟩ = some (.string xs) := box_cell hX rfl
        have c1 : w1.cell? ⟨wr.heap.size, 1, none⟩ = some (.string xp) := box_cell hX rfl
        have t0 := HR1.out.cell (i := 0) (by decide); have t1 := HR1.out.cell (i := 1) (by decide)
        have s0 := HR1.out.frozen 0; have s1 := HR1.out.frozen 1
        simp only [pick2] at t0 t1
        clear hh hX
        rw [if_pos rfl]
        go_wp2
        refine bodyPost_ret (results_row_tmp Tryz.results29 _ _ w.heap.size 23 #[.string xs, .string xp] (0, 0) _ rfl (row2_heap (set2 _ _ HR1.out)) Tryz.underlying23 rfl (by kernel_rfl) _ rfl) rfl ⟨by rw [HHF.out] <;> rfl, below2 _ _ HB1.out (Nat.le_refl _)⟩
    · have hke : k = l.length := by omega
      have HHF := Lib.hid (show findK id l = (({ data := #[] }, { data := #[] }), false) by rw [HF.out, hke, List.drop_length]; rfl)
      have t0 := hrow.cell (i := 0) (by decide); have t1 := hrow.cell (i := 1) (by decide)
      have s0 := hrow.frozen 0; have s1 := hrow.frozen 1
      simp only [pick2] at t0 t1
      clear hrow hbel hke
      go_wp2
      refine bodyPost_ret (results_row_tmp Tryz.results29 _ _ w.heap.size 23 #[.string { data := #[] }, .string { data := #[] }] (0, 0) _ rfl (row2_heap (set2 _ _ HR.out)) Tryz.underlying23 rfl (by kernel_rfl) _ rfl) rfl ⟨by rw [HHF.out] <;> rfl, below2 _ _ HB.out (Nat.le_refl _)⟩

set_option maxHeartbeats 1000000 in
set_option maxRecDepth 100000 in
theorem ref14Find (l : List Key2) (id : ByteArray) (a : Option Addr) (c : Nat) (w : World) (hK : KeysAt w 0 w.heap.size a l) (hl : l.length ≤ 40) (hs : ∀ k ∈ l, k.1.size ≤ 300 ∧ k.2.size ≤ 300) :
    Calls Tryz.prog 30 #[.slice a l.length c, .string id] w (KFindPost l id w) := by
  have HK := Lib.hid hK
  have HS := Lib.hid hs
  clear hK hs
  go_enter Tryz.func30, Tryz.ntmps30
  go_wp2
  go_loopw [6, 7, 8] (fun i _ _ wr => ∃ k : Nat, k ≤ l.length ∧ i = .int .i64 k ∧ findK id l = findK id (l.drop k) ∧ Below w.heap.size w wr ∧ wr.rowIs w.heap.size 23 2 (pick2 (.string { data := #[] }) (.string { data := #[] }))) (fun i _ _ _ => l.length - (intOf i).toNat)
  case atStart => exact ⟨0, by omega, rfl, rfl, (Below.refl _ _).alloc (Nat.le_refl _) _, rowIs_box2 _ _ _ _⟩
  case round =>
    obtain ⟨k, hk, rfl, hf, hbel, hrow⟩ := hrel
    have HF := Lib.hid hf
    have HB := Lib.hid hbel
    have HR := Lib.hid hrow
    have hwz : w.heap.size < wr.heap.size := hrow.lt
    clear hf
    by_cases hlt : k < l.length
    · obtain ⟨b, off, ha, _, hb, e0, e1⟩ := (HK.out.below hbel (Nat.le_refl _) (Nat.le_refl _) (Nat.le_refl _)).at k hlt
      subst ha
      have hb : b < wr.heap.size := by omega
      obtain ⟨hs1, hs2⟩ := HS.out l[k] (List.getElem_mem hlt)
      have HFD := Lib.hid (findK_drop id l k hlt)
      obtain ⟨x, hx⟩ : ∃ x, x = l[k] := ⟨_, rfl⟩
      rw [← hx] at e0 e1 hs1 hs2 HFD
      clear hx hbel hrow
      obtain ⟨xs, xp⟩ := x
      have hs1 : xs.size ≤ 300 := hs1
      have hs2 : xp.size ≤ 300 := hs2
      have e0 : wr.cell? ⟨b, off + k * 2, none⟩ = some (.string xs) := e0
      have e1 : wr.cell? ⟨b, off + k * 2 + 1, none⟩ = some (.string xp) := e1
      have HID := Lib.hid (ref14ID xs xp wr (by omega) (by omega))
      unfold KeyIdPost at HID
      obtain ⟨ok, hok⟩ : ∃ ok, ok = keyOk xs.data.toList xp.data.toList := ⟨_, rfl⟩
      obtain ⟨ID, hID⟩ : ∃ ID : ByteArray, ID = ⟨(keyId xs.data.toList xp.data.toList).toArray⟩ := ⟨_, rfl⟩
      rw [← hok, ← hID] at HID
      have HHI := Lib.hid (show keyHit id (xs, xp) = (ok && (ID.toList == id.toList)) by unfold keyHit; rw [hok, hID])
      clear hok hID
      go_wp2_with fail
      refine HID.out.mono ?_
      rintro e w1 ⟨rfl, hb1⟩
      have HB1 := Lib.hid (HB.out.trans (hb1.mono HB.out.size))
      have HR1 := Lib.hid (below_row hb1 HR.out hwz)
      have hX0 : w1.cell? ⟨b, off + k * 2, none⟩ = some (.string xs) := by rw [hb1.cell hb]; exact e0
      have hX : w1.cell? ⟨b, off + k * 2 + 1, none⟩ = some (.string xp) := by rw [hb1.cell hb]; exact e1
      have hnb : b ≠ w.heap.size := by omega
      clear hb1 e0 e1 HID
      cases hh : ok && (ID.toList == id.toList)
      · have HHF := Lib.hid (show findK id l = findK id (l.drop (k + 1)) by rw [HF.out, HFD.out, HHI.out, hh]; rfl)
        cases ok
        · clear hh hX hX0
          rw [if_neg (by simp)]
          go_wp2
          go_roundw
          case rel => exact ⟨k + 1, by omega, by go_num, HHF.out, HB1.out, HR1.out⟩
          case measure => simp [intOf]; omega
        · have hh2 : (ID.toList == id.toList) = false := by simpa using hh
          clear hh hX hX0
          rw [if_pos rfl]
          go_wp2
          go_roundw
          case rel => exact ⟨k + 1, by omega, by go_num, HHF.out, HB1.out, HR1.out⟩
          case measure => simp [intOf]; omega
      · obtain ⟨rfl, hh2⟩ : ok = true ∧ (ID.toList == id.toList) = true := by simpa using hh
        have HHF := Lib.hid (show findK id l = ((xs, xp), true) by rw [HF.out, HFD.out, HHI.out, hh]; rfl)
        have t0 := HR1.out.cell (i := 0) (by decide); have t1 := HR1.out.cell (i := 1) (by decide)
        have s0 := HR1.out.frozen 0; have s1 := HR1.out.frozen 1
        simp only [pick2] at t0 t1
        clear hh
        rw [if_pos rfl]
        go_wp2
        refine bodyPost_ret (results_row_tmp Tryz.results30 _ _ w.heap.size 23 #[.string xs, .string xp] (0, 0) _ rfl (row2_heap (set2 _ _ HR1.out)) Tryz.underlying23 rfl (by kernel_rfl) _ rfl) rfl ⟨by rw [HHF.out] <;> rfl, below2 _ _ HB1.out (Nat.le_refl _)⟩
    · have hke : k = l.length := by omega
      have HHF := Lib.hid (show findK id l = (({ data := #[] }, { data := #[] }), false) by rw [HF.out, hke, List.drop_length]; rfl)
      have t0 := hrow.cell (i := 0) (by decide); have t1 := hrow.cell (i := 1) (by decide)
      have s0 := hrow.frozen 0; have s1 := hrow.frozen 1
      simp only [pick2] at t0 t1
      clear hrow hbel hke
      go_wp2
      refine bodyPost_ret (results_row_tmp Tryz.results30 _ _ w.heap.size 23 #[.string { data := #[] }, .string { data := #[] }] (0, 0) _ rfl (row2_heap (set2 _ _ HR.out)) Tryz.underlying23 rfl (by kernel_rfl) _ rfl) rfl ⟨by rw [HHF.out] <;> rfl, below2 _ _ HB.out (Nat.le_refl _)⟩

end Go.Proofs.YtcahpjejpimdhaaGreatDoor

namespace Go.Proofs.YtcahpjejpimdhaaGreatDoor
open Go.RowKit

set_option maxHeartbeats 1000000 in
set_option maxRecDepth 100000 in
theorem lawKeyFinds (l : List Key2) (id : ByteArray) (a : Option Addr) (c : Nat) (w : World) (hK : KeysAt w 0 w.heap.size a l) (hl : l.length ≤ 9223372036854775807) (hT : Tabs w) :
    Calls Tryz.prog 6 #[.slice a l.length c, .string id] w fun e w' => e = .returned (.bool true) ∧ Below w.heap.size w w' := by
  have HT := Lib.hid hT
  have HK := Lib.hid hK
  have HF := Lib.hid (lawFew l a c w hK hl)
  clear hT hK
  have HAW := Lib.hid (show ∀ w', Below w.heap.size w w' → Calls Tryz.prog 14 #[] w' (fun e w'' => e = .returned (.bool true) ∧ Below w.heap.size w w'') from fun w' h => by
    refine (lawAwake w' (HT.out.below h)).mono ?_
    rintro e w'' ⟨rfl, hb⟩
    exact ⟨rfl, h.trans (hb.mono h.size)⟩)
  go_enter Tryz.func6, Tryz.ntmps6
  go_wp2_with fail
  refine HF.out.mono ?_
  clear HF
  rintro e w1 ⟨b, rfl, hfew, hb1⟩
  have HB1 := Lib.hid hb1
  clear hb1
  cases b
  · clear hfew
    go_wp2_with fail
    refine (HAW.out w1 HB1.out).mono ?_
    rintro e w2 ⟨rfl, hb2⟩
    go_wp2
    go_ret
    exact ⟨rfl, hb2⟩
  obtain ⟨h40, hsh⟩ := hfew rfl
  have HSH := Lib.hid hsh
  clear hfew hsh
  by_cases hid : id.size ≤ 300
  · have hid2 : decide (300 < (id.size : Int)) = false := by simp; omega
    have hid3 : ¬ (300 : Int) < (id.size : Int) := by omega
    have HFA := Lib.hid (keyFind l id a c w1 (HK.out.below HB1.out (Nat.le_refl _) (Nat.le_refl _) HB1.out.size) h40 HSH.out (HT.out.below HB1.out))
    obtain ⟨R, hR⟩ : ∃ R, R = findK id l := ⟨_, rfl⟩
    unfold KFindPost at HFA
    rw [← hR] at HFA
    obtain ⟨⟨rs, rp⟩, rb⟩ := R
    go_wp2_with fail
    refine HFA.out.mono ?_
    clear HFA
    rintro e w2 ⟨rfl, hb2⟩
    have HB2 := Lib.hid ((HB1.out.trans (hb2.mono HB1.out.size)).alloc (by have := HB1.out.size; have := hb2.size; omega) (.cells #[.string rs, .string rp] 23))
    have HX2 := Lib.hid (heap_alloc_new w2 (.cells #[.string rs, .string rp] 23))
    have HFB := Lib.hid (ref14Find l id a c (w2.alloc (.cells #[.string rs, .string rp] 23)) (HK.out.below HB2.out (Nat.le_refl _) (Nat.le_refl _) HB2.out.size) h40 HSH.out)
    unfold KFindPost at HFB
    rw [← hR] at HFB
    clear hb2 hR
    go_wp2_with fail
    refine HFB.out.mono ?_
    clear HFB
    rintro e w3 ⟨rfl, hb3⟩
    have HB3 := Lib.hid ((HB2.out.trans (hb3.mono HB2.out.size)).alloc (by have := HB2.out.size; have := hb3.size; omega) (.cells #[.string rs, .string rp] 23))
    have hx3 : w3.heap[w2.heap.size]? = some (.cells #[.string rs, .string rp] 23 (0, 0)) := by rw [hb3.block _ (by simp)]; exact HX2.out
    have hx4 : (w3.alloc (.cells #[.string rs, .string rp] 23)).heap[w2.heap.size]? = some (.cells #[.string rs, .string rp] 23 (0, 0)) := by rw [Below.heap_alloc _ _ _ (heap_lt hx3)]; exact hx3
    have c0 : (w3.alloc (.cells #[.string rs, .string rp] 23)).cell? ⟨w2.heap.size, 0, none⟩ = some (.string rs) := box_cell hx4 rfl
    have c1 : (w3.alloc (.cells #[.string rs, .string rp] 23)).cell? ⟨w2.heap.size, 1, none⟩ = some (.string rp) := box_cell hx4 rfl
    clear hb3 hx3 hx4 HX2
    go_wp2_with fail
    refine (HAW.out _ HB3.out).mono ?_
    rintro e w4 ⟨rfl, hb4⟩
    go_wp2
    go_ret
    exact ⟨rfl, hb4⟩
  · have hid2 : decide (300 < (id.size : Int)) = true := by simp; omega
    have hid3 : (300 : Int) < (id.size : Int) := by omega
    go_wp2_with fail
    refine (HAW.out w1 HB1.out).mono ?_
    rintro e w2 ⟨rfl, hb2⟩
    go_wp2
    go_ret
    exact ⟨rfl, hb2⟩

end Go.Proofs.YtcahpjejpimdhaaGreatDoor
