/- The contracts of mac.combine, with each of its two closures, and of mac.Of. The contracts of judge.HMAC, judge.Table, judge.sigMay and of the two deciders. The contract of legateref02.Digest. The contract of legateref14.ID. The contracts of key.Find and legateref14.Find. The contracts of legatelaw17.LongKeys and legatelaw17.LongVerdicts: what is not long is few, and short. -/
import Derived.Test.YtaekmmnpdbmoeaaGreatDoorJh16
import Derived.Test.YtaekmmnpdbmoeaaGreatDoorJh22
import Derived.Test.YtaekmmnpdbmoeaaGreatDoorJh01
import Derived.Test.YtaekmmnpdbmoeaaGreatDoorJh02
import Derived.Test.YtaekmmnpdbmoeaaGreatDoorJh13
import Derived.Outline
import Derived.Laws.StructEq
import Derived.Deep.RegionHeld3
import Derived.Test.YtaekmmnpdbmoeaaGreatDoorJh15
import Derived.Test.YtaekmmnpdbmoeaaGreatDoorJh05
import Derived.Test.YtaekmmnpdbmoeaaGreatDoorJh00
import Derived.OwnWalk

namespace Go.Proofs.YtaekmmnpdbmoeaaGreatDoor
open Go.RowKit

theorem macX_length (x : UInt8) (l : List UInt8) : (macX x l).length = l.length := by simp [macX]
theorem byteI_lt (l : List UInt8) (j : Nat) (h : j < l.length) : byteI l j = (l[j].toNat : Int) := by
  unfold byteI; rw [List.getD_eq_getElem?_getD, List.getElem?_eq_getElem h]; rfl
theorem byteI_macX (x : UInt8) (l : List UInt8) (j : Nat) (h : j < l.length) : byteI (macX x l) j = ((l[j] ^^^ x).toNat : Int) := by
  rw [byteI_lt _ _ (by rw [macX_length]; exact h)]; simp [macX]
theorem row_cells {w : World} (l : List UInt8) (hl : l.length = 64) : (w.alloc (.cells (bCells l) 112)).rowIs w.heap.size 112 64 (fun j => .int .u8 (byteI l j)) := by
  have := World.rowIs_alloc w (bCells l) 112 (fun j => .int .u8 (byteI l j)) (fun i hi => by
    have h2 := bCells_get l i (by rw [bCells_size] at hi; exact hi)
    exact h2)
  rwa [bCells_size, hl] at this

set_option maxRecDepth 100000 in
set_option maxHeartbeats 1000000 in
theorem combine1 (l : List UInt8) (w : World) (hl : l.length = 64) :
    Calls Tryz.prog 73 #[.agg (bCells l), .func (.func 74) #[] #[]] w fun e w' => e = .returned (.string ⟨(macX 0x36 l).toArray⟩) ∧ Below w.heap.size w w' := by
  have HR0 := Lib.hid (row_cells (w := w) l hl)
  have HB0 := Lib.hid (show Below w.heap.size w (w.alloc (.cells (bCells l) 112)) from (Below.refl _ _).alloc (Nat.le_refl _) _)
  obtain ⟨C, hC⟩ : ∃ C, C = bCells l := ⟨_, rfl⟩
  rw [← hC] at HR0 HB0 ⊢
  clear hC
  go_enter Tryz.func73, Tryz.ntmps73
  go_wp2
  go_loopw [5, 6] (fun _ i wr => ∃ k : Nat, k ≤ 64 ∧ i = .int .i64 k ∧ wr.rowIs w.heap.size 112 64 (fun j => .int .u8 (if j < k then byteI (macX 0x36 l) j else byteI l j)) ∧ Below w.heap.size w wr) (fun _ i _ => 64 - (intOf i).toNat)
  case atStart => exact ⟨0, by omega, rfl, HR0.out, HB0.out⟩
  case round =>
    obtain ⟨k, hk, rfl, hrow, hbel⟩ := hrel
    by_cases hlt : k < 64
    · have c0 := hrow.cell (i := k) hlt
      rw [if_neg (by omega), byteI_lt l k (by omega)] at c0
      have s0 := hrow.frozen k
      have HR := Lib.hid hrow
      have HB := Lib.hid hbel
      have HX := Lib.hid (byteI_macX 0x36 l k (by omega))
      obtain ⟨c, hc⟩ : ∃ c, c = l[k] := ⟨_, rfl⟩
      rw [← hc] at c0 HX
      clear hrow hbel hc HR0 HB0
      have m0 : (k : Int) < 64 := by omega
      go_wp2_with fail
      refine (macOf1 c _).mono ?_
      rintro e w1 ⟨rfl, rfl⟩
      go_wp2
      go_roundw
      case rel =>
        refine ⟨k + 1, by omega, by go_num, (HR.out.set k _).congr fun j hj => ?_, HB.out.setCell (Nat.le_refl _) _⟩
        by_cases e : j = k
        · subst e; rw [if_pos rfl, if_pos (by omega), HX.out]; simp
        · rw [if_neg e]; by_cases e' : j < k
          · rw [if_pos e', if_pos (by omega)]
          · rw [if_neg e', if_neg (by omega)]
      case measure => simp [intOf]; omega
    · have m0 : ¬ (k : Int) < 64 := by omega
      have m1 : decide ((k : Int) < 64) = false := by simp; omega
      have hcv := run_convert_bytes_back (P := Tryz.prog) wr 108 9 5 ⟨w.heap.size, 0, none⟩ 64 (macX 0x36 l) Tryz.underlying108 Tryz.underlying5 Tryz.underlying9 fun j hj => by
        have := hrow.cell (i := j) (by rw [macX_length] at hj; omega)
        rw [if_pos (by rw [macX_length] at hj; omega), byteI_lt _ _ hj] at this
        have ea : (⟨w.heap.size, 0, none⟩ : Addr).add j = ⟨w.heap.size, j, none⟩ := by unfold Addr.add; split <;> simp_all
        rw [ea]; exact this
      rw [macX_length, hl] at hcv
      have HB := Lib.hid hbel
      clear hrow hbel HR0 HB0
      go_wp2
      go_ret
      exact ⟨rfl, HB.out⟩

set_option maxRecDepth 100000 in
set_option maxHeartbeats 1000000 in
theorem combine2 (l : List UInt8) (w : World) (hl : l.length = 64) :
    Calls Tryz.prog 73 #[.agg (bCells l), .func (.func 75) #[] #[]] w fun e w' => e = .returned (.string ⟨(macX 0x5c l).toArray⟩) ∧ Below w.heap.size w w' := by
  have HR0 := Lib.hid (row_cells (w := w) l hl)
  have HB0 := Lib.hid (show Below w.heap.size w (w.alloc (.cells (bCells l) 112)) from (Below.refl _ _).alloc (Nat.le_refl _) _)
  obtain ⟨C, hC⟩ : ∃ C, C = bCells l := ⟨_, rfl⟩
  rw [← hC] at HR0 HB0 ⊢
  clear hC
  go_enter Tryz.func73, Tryz.ntmps73
  go_wp2
  go_loopw [5, 6] (fun _ i wr => ∃ k : Nat, k ≤ 64 ∧ i = .int .i64 k ∧ wr.rowIs w.heap.size 112 64 (fun j => .int .u8 (if j < k then byteI (macX 0x5c l) j else byteI l j)) ∧ Below w.heap.size w wr) (fun _ i _ => 64 - (intOf i).toNat)
  case atStart => exact ⟨0, by omega, rfl, HR0.out, HB0.out⟩
  case round =>
    obtain ⟨k, hk, rfl, hrow, hbel⟩ := hrel
    by_cases hlt : k < 64
    · have c0 := hrow.cell (i := k) hlt
      rw [if_neg (by omega), byteI_lt l k (by omega)] at c0
      have s0 := hrow.frozen k
      have HR := Lib.hid hrow
      have HB := Lib.hid hbel
      have HX := Lib.hid (byteI_macX 0x5c l k (by omega))
      obtain ⟨c, hc⟩ : ∃ c, c = l[k] := ⟨_, rfl⟩
      rw [← hc] at c0 HX
      clear hrow hbel hc HR0 HB0
      have m0 : (k : Int) < 64 := by omega
      go_wp2_with fail
      refine (macOf2 c _).mono ?_
      rintro e w1 ⟨rfl, rfl⟩
      go_wp2
      go_roundw
      case rel =>
        refine ⟨k + 1, by omega, by go_num, (HR.out.set k _).congr fun j hj => ?_, HB.out.setCell (Nat.le_refl _) _⟩
        by_cases e : j = k
        · subst e; rw [if_pos rfl, if_pos (by omega), HX.out]; simp
        · rw [if_neg e]; by_cases e' : j < k
          · rw [if_pos e', if_pos (by omega)]
          · rw [if_neg e', if_neg (by omega)]
      case measure => simp [intOf]; omega
    · have m0 : ¬ (k : Int) < 64 := by omega
      have m1 : decide ((k : Int) < 64) = false := by simp; omega
      have hcv := run_convert_bytes_back (P := Tryz.prog) wr 108 9 5 ⟨w.heap.size, 0, none⟩ 64 (macX 0x5c l) Tryz.underlying108 Tryz.underlying5 Tryz.underlying9 fun j hj => by
        have := hrow.cell (i := j) (by rw [macX_length] at hj; omega)
        rw [if_pos (by rw [macX_length] at hj; omega), byteI_lt _ _ hj] at this
        have ea : (⟨w.heap.size, 0, none⟩ : Addr).add j = ⟨w.heap.size, j, none⟩ := by unfold Addr.add; split <;> simp_all
        rw [ea]; exact this
      rw [macX_length, hl] at hcv
      have HB := Lib.hid hbel
      clear hrow hbel HR0 HB0
      go_wp2
      go_ret
      exact ⟨rfl, HB.out⟩

set_option maxRecDepth 100000 in
set_option maxHeartbeats 1000000 in
theorem macOf (key s : ByteArray) (w : World) (hk : key.size ≤ 1099511620000) (hs : s.size ≤ 1099511620000) (hT : Tabs w) :
    Calls Tryz.prog 47 #[.string key, .string s] w fun e w' => e = .returned (.string ⟨(macL key.data.toList s.data.toList).toArray⟩) ∧ Below w.heap.size w w' := by
  have HT := Lib.hid hT; clear hT
  have HBK := Lib.hid (macBlock key w (by omega) HT.out)
  obtain ⟨l, hl⟩ : ∃ l, l = macBlk key.data.toList := ⟨_, rfl⟩
  have hl64 : l.length = 64 := by rw [hl]; exact macBlk_length _
  have HML := Lib.hid (show macL key.data.toList s.data.toList = shaSum (macX 0x5c l ++ shaSum (macX 0x36 l ++ s.data.toList)) by rw [hl]; rfl)
  rw [← hl] at HBK
  clear hl
  have hsz : ∀ (L : List UInt8) (B : ByteArray), B = ⟨L.toArray⟩ → B.size = L.length := fun L B h => by rw [h]; show L.toArray.size = _; rw [List.size_toArray]
  obtain ⟨M1, hM1⟩ : ∃ M1 : ByteArray, M1 = ⟨(macX 0x36 l).toArray⟩ := ⟨_, rfl⟩
  obtain ⟨M2, hM2⟩ : ∃ M2 : ByteArray, M2 = ⟨(macX 0x5c l).toArray⟩ := ⟨_, rfl⟩
  obtain ⟨IN, hIN⟩ : ∃ IN : ByteArray, IN = ⟨(shaSum (macX 0x36 l ++ s.data.toList)).toArray⟩ := ⟨_, rfl⟩
  have z1 : M1.size = 64 := by rw [hsz _ _ hM1, macX_length, hl64]
  have z2 : M2.size = 64 := by rw [hsz _ _ hM2, macX_length, hl64]
  have z3 : IN.size = 32 := by rw [hsz _ _ hIN, shaSum_length]
  have HC1 := Lib.hid (fun w => combine1 l w hl64)
  have HC2 := Lib.hid (fun w => combine2 l w hl64)
  rw [← hM1] at HC1
  rw [← hM2] at HC2
  have HM1 := Lib.hid hM1
  have HM2 := Lib.hid hM2
  have HIN := Lib.hid hIN
  have y1 : M1.size ≤ 64 := by omega
  have y2 : M2.size ≤ 64 := by omega
  have y3 : IN.size ≤ 32 := by omega
  clear hM1 hM2 hIN z1 z2 z3 hsz
  go_enter Tryz.func47, Tryz.ntmps47
  go_wp2_with fail
  refine HBK.out.mono ?_
  clear HBK
  rintro e w1 ⟨rfl, hb1⟩
  have HB1 := Lib.hid hb1
  clear hb1
  go_wp2_with (refine wpList_store_row rfl 112 (.tmp 5) (.tmp 8) rfl w1.heap.size 112 64 _ (fun j => .int .u8 (byteI l j)) rfl (rowIs_any w1 _ _ 64 rfl) (bCells l) rfl ((bCells_size l).trans hl64) (fun j hj => bCells_get l j (by omega)) (fun _ _ => rfl) sizeA64 ?_)
  intro w2 h3 h4
  have HR2 := Lib.hid h3.out
  have hz2 : w1.heap.size < w2.heap.size := h3.out.lt
  have HB2 := Lib.hid (show Below w.heap.size w w2 from (HB1.out.alloc HB1.out.size _).trans (h4.out.below (B := w.heap.size) (by have := HB1.out.size; simp; omega) (fun k hk e => by have := HB1.out.size; omega)))
  clear h3 h4
  go_wp2_with (with_reducible refine wpList_load_rowIs rfl 112 (.tmp 5) rfl w1.heap.size 112 64 _ rfl HR2.out _ Tryz.underlying112 rfl (by kernel_rfl) ?_)
  intro cs h5 h6
  have HCS := Lib.hid (show cs = bCells l from bCells_of (by rw [h5.out, hl64]) (fun j hj => h6.out j (by omega)))
  clear h5 h6
  go_wp2_with fail
  rw [HCS.out]
  refine (HC1.out _).mono ?_
  rintro e w3 ⟨rfl, hb3⟩
  have HB3 := Lib.hid (HB2.out.trans (hb3.mono HB2.out.size))
  have HR3 := Lib.hid (below_row hb3 HR2.out hz2)
  have hz3 : w1.heap.size < w3.heap.size := HR3.out.lt
  clear hb3 HCS
  go_wp2_with fail
  obtain ⟨X1, hX1⟩ : ∃ X1 : ByteArray, X1 = M1 ++ s := ⟨_, rfl⟩
  have hx1 : X1.data.toList = macX 0x36 l ++ s.data.toList := by rw [hX1, app_list, HM1.out]
  have hx1z : X1.size ≤ 1099511627000 := by
    have : X1.data.toList.length = X1.size := toList_length X1
    rw [hx1, List.length_append, macX_length, hl64, toList_length] at this; omega
  rw [← hX1]
  have HXL := Lib.hid hx1
  clear hX1 hx1
  refine (shaSumF X1 w3 hx1z (HT.out.below HB3.out).init (HT.out.below HB3.out).rounds (HT.out.below HB3.out).l2).mono ?_
  rintro e w4 ⟨rfl, hb4⟩
  rw [HXL.out, ← HIN.out]
  have HB4 := Lib.hid (HB3.out.trans (hb4.mono HB3.out.size))
  have HR4 := Lib.hid (below_row hb4 HR3.out hz3)
  have hz4 : w1.heap.size < w4.heap.size := HR4.out.lt
  clear hb4
  go_wp2_with (with_reducible refine wpList_load_rowIs rfl 112 (.tmp 5) rfl w1.heap.size 112 64 _ rfl HR4.out _ Tryz.underlying112 rfl (by kernel_rfl) ?_)
  intro cs2 h5 h6
  have HCS := Lib.hid (show cs2 = bCells l from bCells_of (by rw [h5.out, hl64]) (fun j hj => h6.out j (by omega)))
  clear h5 h6
  go_wp2_with fail
  rw [HCS.out]
  refine (HC2.out _).mono ?_
  rintro e w5 ⟨rfl, hb5⟩
  have HB5 := Lib.hid (HB4.out.trans (hb5.mono HB4.out.size))
  clear hb5 HCS
  go_wp2_with fail
  obtain ⟨X2, hX2⟩ : ∃ X2 : ByteArray, X2 = M2 ++ IN := ⟨_, rfl⟩
  have hx2 : X2.data.toList = macX 0x5c l ++ shaSum (macX 0x36 l ++ s.data.toList) := by rw [hX2, app_list, HM2.out, HIN.out]
  have hx2z : X2.size ≤ 1099511627000 := by
    have : X2.data.toList.length = X2.size := toList_length X2
    rw [hx2, List.length_append, macX_length, hl64, shaSum_length] at this; omega
  rw [← hX2]
  have HXL2 := Lib.hid hx2
  clear hX2 hx2
  refine (shaSumF X2 w5 hx2z (HT.out.below HB5.out).init (HT.out.below HB5.out).rounds (HT.out.below HB5.out).l2).mono ?_
  rintro e w6 ⟨rfl, hb6⟩
  have HB6 := Lib.hid (HB5.out.trans (hb6.mono HB5.out.size))
  clear hb6
  go_wp2
  go_ret
  exact ⟨by rw [HML.out, HXL2.out] <;> rfl, HB6.out⟩

end Go.Proofs.YtaekmmnpdbmoeaaGreatDoor

namespace Go.Proofs.YtaekmmnpdbmoeaaGreatDoor
open Go.RowKit Go.Lib Go.Shelf

/-- A verifier as it lies in memory: by HMAC; by verdicts; or none (which calls nothing good). -/
def VerIs (w : World) (x : Value) : Ver → Prop
  | .mac => ∃ p, x = .pointer (some ⟨p, 0, none⟩) ∧ w.heap[p]? = some (.cells #[.iface 94 (.agg #[])] 64 (0, 0))
  | .tab l => (∃ p a c, x = .pointer (some ⟨p, 0, none⟩) ∧ w.heap[p]? = some (.cells #[.iface 97 (.agg #[.slice a l.length c])] 64 (0, 0)) ∧ l.length ≤ 60 ∧ TrisAt w 0 w.heap.size a l) ∨
      (l = [] ∧ (x = .pointer none ∨ ∃ p, x = .pointer (some ⟨p, 0, none⟩) ∧ w.heap[p]? = some (.cells #[.nilIface] 64 (0, 0))))
theorem VerIs.below {w w' : World} {x : Value} {v : Ver} (h : VerIs w x v) (hb : Below w.heap.size w w') : VerIs w' x v := by
  cases v with
  | mac => obtain ⟨p, h1, h2⟩ := h; exact ⟨p, h1, by rw [hb.block _ (heap_lt h2)]; exact h2⟩
  | tab l =>
    rcases h with ⟨p, a, c, h1, h2, h3, h4⟩ | ⟨h1, h2 | ⟨p, h2, h3⟩⟩
    · exact .inl ⟨p, a, c, h1, by rw [hb.block _ (heap_lt h2)]; exact h2, h3, h4.below hb (Nat.le_refl _) (Nat.le_refl _) hb.size⟩
    · exact .inr ⟨h1, .inl h2⟩
    · exact .inr ⟨h1, .inr ⟨p, h2, by rw [hb.block _ (heap_lt h3)]; exact h3⟩⟩

set_option maxHeartbeats 400000 in
theorem judgeHMAC (w : World) : Calls Tryz.prog 26 #[] w fun e w' => e = .returned (.pointer (some ⟨w.heap.size, 0, none⟩)) ∧ w' = w.alloc (.cells #[.iface 94 (.agg #[])] 64) := by
  go_enter Tryz.func26, Tryz.ntmps26
  go_wp2
  go_ret
  exact ⟨rfl, rfl⟩

set_option maxHeartbeats 400000 in
theorem judgeSigMay (s : ByteArray) (w : World) (hs : s.size ≤ 9223372036854775807) : Calls Tryz.prog 40 #[.string s] w fun e w' => e = .returned (.bool (pubOk s.data.toList)) ∧ w = w' := by
  by_cases h2 : 2 ≤ s.size
  · have d2 : decide ((2 : Int) ≤ (s.size : Int)) = true := by simp; omega
    by_cases h3 : s.size ≤ 128
    · have d3 : decide ((s.size : Int) ≤ 128) = true := by simp; omega
      have hm : (s.size : Int).tmod 2 = ((s.size % 2 : Nat) : Int) := by rw [Int.tmod_eq_emod_of_nonneg (by omega)]; omega
      by_cases h4 : s.size % 2 = 0
      · have HP := Lib.hid (pub_hex (s := s) h2 h3 h4)
        rw [h4] at hm
        have hm : (s.size : Int).tmod 2 = 0 := hm
        clear h4
        go_enter Tryz.func40, Tryz.ntmps40
        go_wp2_with fail
        refine (hexIs s _ hs).mono ?_
        rintro e w1 ⟨rfl, rfl⟩
        go_wp2
        go_ret
        exact ⟨ret_bool (by rw [HP.out]), rfl⟩
      · have HP := Lib.hid (pub_no (s := s) (by omega))
        have h5 : s.size % 2 = 1 := by omega
        rw [h5] at hm
        have hm : (s.size : Int).tmod 2 = 1 := hm
        clear h4 h5
        go_enter Tryz.func40, Tryz.ntmps40
        go_wp2
        go_ret
        exact ⟨ret_bool (by rw [HP.out]), rfl⟩
    · have d3 : decide ((s.size : Int) ≤ 128) = false := by simp; omega
      have HP := Lib.hid (pub_no (s := s) (by omega))
      go_enter Tryz.func40, Tryz.ntmps40
      go_wp2
      go_ret
      exact ⟨ret_bool (by rw [HP.out]), rfl⟩
  · have d2 : decide ((2 : Int) ≤ (s.size : Int)) = false := by simp; omega
    have HP := Lib.hid (pub_no (s := s) (by omega))
    go_enter Tryz.func40, Tryz.ntmps40
    go_wp2
    go_ret
    exact ⟨ret_bool (by rw [HP.out]), rfl⟩

theorem macSame (a b : ByteArray) (w : World) : Calls Tryz.prog 196 #[.string a, .string b] w fun e w' => e = .returned (.bool (a.toList == b.toList)) ∧ w = w' := by
  go_enter Tryz.func196, Tryz.ntmps196
  go_wp2
  go_ret
  exact ⟨rfl, rfl⟩

theorem beq_ba (a b : ByteArray) : (a.toList == b.toList) = decide (a = b) := by
  rw [Bool.eq_iff_iff, beq_iff_eq, decide_eq_true_eq]
  exact ⟨ba_ext, fun h => by rw [h]⟩

theorem pub_dec {s : ByteArray} (h : pubOk s.data.toList = true) : decE s.data.toList = 0 ∧ decS s.data.toList = hexDec s.data.toList := by
  unfold pubOk at h
  rw [Bool.and_eq_true, decide_eq_true_eq] at h
  exact decE_ok h.2 h.1.2.2
theorem pub_size {s : ByteArray} (h : pubOk s.data.toList = true) : s.size ≤ 128 := by
  unfold pubOk at h
  rw [Bool.and_eq_true, decide_eq_true_eq, toList_length] at h
  exact h.1.2.1
theorem scheme_list : schemeH.toList = [104, 109, 97, 99, 45, 115, 104, 97, 50, 53, 54] := by rw [ByteArray.toList_eq]; rfl
theorem scheme_no {s : ByteArray} (h : s ≠ schemeH) : (s.toList == [104, 109, 97, 99, 45, 115, 104, 97, 50, 53, 54]) = false := by
  rw [← scheme_list, beq_eq_false_iff_ne]; exact fun e => h (ba_ext e)
theorem scheme_yes {s : ByteArray} (h : s = schemeH) : (s.toList == [104, 109, 97, 99, 45, 115, 104, 97, 50, 53, 54]) = true := by
  rw [← scheme_list, h]; exact beq_self_eq_true _
/-- hex.Decode of digits that may be. -/
theorem hexDecodePub (s : ByteArray) (w : World) (h : pubOk s.data.toList = true) :
    Calls Tryz.prog 45 #[.string s] w fun e w' => e = .returned (.tuple #[.string ⟨(hexDec s.data.toList).toArray⟩, .int .i64 0]) ∧ Below w.heap.size w w' := by
  have hz := pub_size h
  have := hexDecode s w (by omega)
  rwa [(pub_dec h).1, (pub_dec h).2] at this

set_option maxHeartbeats 1000000 in
set_option maxRecDepth 100000 in
theorem byMACgood (k : Key2) (s : Sig2) (m : ByteArray) (w : World) (hk : pubOk k.2.data.toList = true) (hs : pubOk s.2.data.toList = true) (hm : m.size ≤ 1099511620000) (hT : Tabs w) :
    Calls Tryz.prog 195 #[.agg #[], .agg #[.string k.1, .string k.2], .agg #[.string s.1, .string s.2], .string m] w fun e w' => e = .returned (.bool (Ver.mac.by k s m.data.toList)) ∧ Below w.heap.size w w' := by
  obtain ⟨ks, kp⟩ := k
  obtain ⟨si, sg⟩ := s
  have hk : pubOk kp.data.toList = true := hk
  have hs : pubOk sg.data.toList = true := hs
  have HT := Lib.hid hT
  have HBV := Lib.hid (show Ver.mac.by (ks, kp) (si, sg) m.data.toList = (decide (ks = schemeH) && decide (hexDec sg.data.toList = macL (hexDec kp.data.toList) m.data.toList)) from rfl)
  have HB0 := Lib.hid (below_n3 w (.cells #[] 94) (.cells #[.string ks, .string kp] 24) (.cells #[.string si, .string sg] 26))
  by_cases hsch : ks = schemeH
  · have hsc := scheme_yes hsch
    have HZ := Lib.hid hsch
    have HP := Lib.hid (fun w => hexDecodePub kp w hk)
    have HG := Lib.hid (fun w => hexDecodePub sg w hs)
    have HPZ := Lib.hid (pub_size hk)
    obtain ⟨PB, hPB⟩ : ∃ PB : ByteArray, PB = ⟨(hexDec kp.data.toList).toArray⟩ := ⟨_, rfl⟩
    obtain ⟨SB, hSB⟩ : ∃ SB : ByteArray, SB = ⟨(hexDec sg.data.toList).toArray⟩ := ⟨_, rfl⟩
    rw [← hPB] at HP
    rw [← hSB] at HG
    have hPz : PB.size ≤ 1099511620000 := by
      rw [hPB]; show (hexDec kp.data.toList).toArray.size ≤ _; rw [List.size_toArray, hexDec_length, toList_length]; have := HPZ.out; omega
    have HR := Lib.hid (show Ver.mac.by (ks, kp) (si, sg) m.data.toList = (SB.toList == (⟨(macL PB.data.toList m.data.toList).toArray⟩ : ByteArray).toList) by
      rw [HBV.out, decide_eq_true hsch, Bool.true_and, beq_ba, hSB, hPB]
      rw [Bool.eq_iff_iff, decide_eq_true_eq, decide_eq_true_eq]
      constructor
      · intro e; show (⟨(hexDec sg.data.toList).toArray⟩ : ByteArray) = _; rw [e]
      · intro e; have := congrArg (fun b : ByteArray => b.data.toList) e; simpa using this)
    have HPZ2 := Lib.hid hPz
    clear hsch hk hs hPB hSB hPz
    go_enter Tryz.func195, Tryz.ntmps195
    go_wp2_with fail
    refine (HP.out _).mono ?_
    rintro e w1 ⟨rfl, hb1⟩
    have HB1 := Lib.hid (HB0.out.trans (hb1.mono (by simp; omega)))
    have hx1 : w1.heap[w.heap.size + 1 + 1]? = some (.cells #[.string si, .string sg] 26 (0, 0)) := by
      rw [hb1.block _ (by simp)]
      have := heap_alloc_new ((w.alloc (.cells #[] 94)).alloc (.cells #[.string ks, .string kp] 24)) (.cells #[.string si, .string sg] 26)
      simpa using this
    have g0 : w1.cell? ⟨w.heap.size + 1 + 1, 1, none⟩ = some (.string sg) := box_cell hx1 rfl
    clear hb1 hx1
    go_wp2_with fail
    refine (HG.out _).mono ?_
    rintro e w2 ⟨rfl, hb2⟩
    have HB2 := Lib.hid (HB1.out.trans (hb2.mono HB1.out.size))
    clear hb2 g0
    go_wp2_with fail
    refine (macOf PB m w2 HPZ2.out hm (HT.out.below HB2.out)).mono ?_
    rintro e w3 ⟨rfl, hb3⟩
    have HB3 := Lib.hid (HB2.out.trans (hb3.mono HB2.out.size))
    clear hb3
    go_wp2_with fail
    refine (macSame SB _ _).mono ?_
    rintro e w4 ⟨rfl, rfl⟩
    go_wp2
    go_ret
    exact ⟨ret_bool (by rw [HR.out]; simp only [ByteArray.toList_eq]), HB3.out⟩
  · have hsc := scheme_no hsch
    have HR := Lib.hid (show Ver.mac.by (ks, kp) (si, sg) m.data.toList = false by rw [HBV.out, decide_eq_false hsch]; rfl)
    clear hsch
    go_enter Tryz.func195, Tryz.ntmps195
    go_wp2
    go_ret
    exact ⟨ret_bool HR.out.symm, HB0.out⟩

def encV (v : Ver3) : List Value := [.string v.1, .string v.2.1, .string v.2.2]
theorem eqVer : EqlAt Tryz.prog 60 (fun x : Ver3 => .agg (encV x).toArray) (fun x y => x.1.toList == y.1.toList && (x.2.1.toList == y.2.1.toList && x.2.2.toList == y.2.2.toList)) := by
  refine ⟨fun x y w => ?_, GuardAt.agg _ (by kernel_rfl)⟩
  have u9 := Tryz.underlying9
  have hS : Tryz.prog.underlying 60 = some (.struct (Tryz.prog.fieldsOf 60)) := by kernel_rfl
  have hp : Tryz.prog.stoodInHeld 60 = false := by kernel_rfl
  simp only [encV]
  rw [run_eql_struct, show (10000 : Nat) = 9999 + 1 from rfl, run_equalIn_agg w 9999 60 _ _ hS hp]
  simp only [Program.fieldsOf, Tryz.underlying60]
  go_simp
  by_cases h1 : x.1.toList = y.1.toList <;> by_cases h2 : x.2.1.toList = y.2.1.toList <;> by_cases h3 : x.2.2.toList = y.2.2.toList <;> simp [h1, h2, h3]

/-- slices.Contains of verdicts. -/
theorem containsVerdict (l : List Ver3) (x : Ver3) (a : Option Addr) (c : Nat) (w : World) (hR : TrisAt w 0 w.heap.size a l) (hl : l.length ≤ 60) :
    Calls Tryz.prog 198 #[.slice a l.length c, .agg #[.string x.1, .string x.2.1, .string x.2.2]] w fun e w' => e = .returned (.bool (l.any fun v => decide (v.1 = x.1 ∧ v.2.1 = x.2.1 ∧ v.2.2 = x.2.2))) ∧ Below w.heap.size w w' := by
  rcases hR with rfl | ⟨b, off, rfl, _, hb, hc⟩
  · obtain ⟨x0, x1, x2⟩ := x
    go_enter Tryz.func198, Tryz.ntmps198
    go_wp2
    refine wp_loop_rounds 1 ?_
    rw [rounds_succ]
    go_wp2
    go_ret
    exact ⟨rfl, ((Below.refl _ _).alloc (Nat.le_refl _) _).alloc (by simp) _⟩
  · refine (AnyQ.slices_Contains containsVer 3 Tryz.isAgg60 Tryz.sizeOf60 encV (fun _ => rfl) _ eqVer b off l.length c l x w (Nat.le_refl _) (by omega) (fun j hj i v hv => ?_)).mono ?_
    · have e : l[j]! = l[j] := by simp [hj]
      rw [e] at hv
      obtain ⟨h0, h1, h2⟩ := hc j hj
      unfold encV at hv
      rcases i with _ | _ | _ | i
      · simp at hv; subst hv; exact h0
      · simp at hv; subst hv; exact h1
      · simp at hv; subst hv; exact h2
      · simp at hv
    · rintro e w' ⟨rfl, hb⟩
      refine ⟨ret_bool ?_, hb⟩
      rw [List.take_length]
      congr 1
      funext v
      rw [beq_ba, beq_ba, beq_ba, Bool.eq_iff_iff]
      simp only [Bool.and_eq_true, decide_eq_true_eq]
      constructor
      · rintro ⟨a, b, c⟩; exact ⟨a.symm, b.symm, c.symm⟩
      · rintro ⟨a, b, c⟩; exact ⟨a.symm, b.symm, c.symm⟩

theorem infoVer : (Tryz.prog.info? 60).map (fun i => (i.zero, i.size, i.bytes)) = some (some (.agg #[.string { data := #[] }, .string { data := #[] }, .string { data := #[] }]), 3, 48) := by kernel_rfl
theorem encV_get (l : List Ver3) (j : Nat) (u : Value) (h : (l.flatMap encV)[j]? = some u) : ∃ (hj : j / 3 < l.length), (encV l[j / 3])[j % 3]? = some u := by
  induction l generalizing j with
  | nil => simp at h
  | cons v r ih =>
    rw [List.flatMap_cons] at h
    by_cases h3 : j < 3
    · have e0 : j / 3 = 0 := by omega
      have e1 : j % 3 = j := by omega
      rw [List.getElem?_append_left (by show j < 3; exact h3)] at h
      refine ⟨by rw [e0]; simp, ?_⟩
      simp only [e0, e1]
      exact h
    · rw [List.getElem?_append_right (by show 3 ≤ j; omega)] at h
      obtain ⟨hj, hg⟩ := ih (j - 3) (by exact h)
      have e0 : j / 3 = (j - 3) / 3 + 1 := by omega
      have e1 : j % 3 = (j - 3) % 3 := by omega
      refine ⟨by rw [e0]; simp; omega, ?_⟩
      simp only [e0, e1, List.getElem_cons_succ]
      exact hg
theorem owns_tris {w : World} {base e n cap : Nat} {a : Option Addr} {l : List Ver3} (h : w.ownsRow base e 3 (.slice a n cap) n (l.flatMap encV)) (hn : n = l.length) : TrisAt w base w.heap.size a l := by
  subst hn
  rcases h.2 with ⟨_, h0⟩ | ⟨g, cap', cur, hv, hg, hh, hc, hm, hs, ht⟩
  · exact .inl (List.eq_nil_of_length_eq_zero h0)
  · simp only [Value.slice.injEq, true_and] at hv
    obtain ⟨rfl, rfl⟩ := hv
    refine .inr ⟨g, 0, rfl, hg, heap_lt hh, fun i hi => ?_⟩
    have hcell : ∀ j u, (l.flatMap encV)[j]? = some u → w.cell? ⟨g, j, none⟩ = some u := fun j u hj => by
      have := h.cells (g := g) rfl j u hj
      have e : (⟨g, 0, none⟩ : Addr).add j = ⟨g, j, none⟩ := by unfold Addr.add; split <;> simp_all
      rwa [e] at this
    have hget : ∀ c, c < 3 → (l.flatMap encV)[i * 3 + c]? = (encV l[i])[c]? := fun c hc => by
      have hlen : ∀ r : List Ver3, (r.flatMap encV).length = 3 * r.length := fun r => by
        induction r with
        | nil => rfl
        | cons v r ih => rw [List.flatMap_cons, List.length_append, ih]; show 3 + 3 * r.length = 3 * (r.length + 1); omega
      have e : l = l.take i ++ l[i] :: l.drop (i + 1) := by rw [List.getElem_cons_drop, List.take_append_drop]
      conv => lhs; rw [e]
      rw [List.flatMap_append, List.getElem?_append_right (by rw [hlen, List.length_take]; omega), hlen, List.length_take, List.flatMap_cons]
      rw [show i * 3 + c - 3 * min i l.length = c by omega, List.getElem?_append_left (by show c < 3; exact hc)]
    have z : ∀ j, 0 + i * 3 + j = i * 3 + j := fun j => by omega
    refine ⟨hcell _ _ ?_, hcell _ _ ?_, hcell _ _ ?_⟩
    · have := hget 0 (by omega); rw [show 0 + i * 3 = i * 3 + 0 by omega, this]; rfl
    · rw [z, hget 1 (by omega)]; rfl
    · rw [z, hget 2 (by omega)]; rfl

/-- slices.Clone of verdicts. -/
theorem cloneVerdicts (l : List Ver3) (a : Option Addr) (c : Nat) (w : World) (hR : TrisAt w 0 w.heap.size a l) (hl : l.length ≤ 60) :
    Calls Tryz.prog 53 #[.slice a l.length c] w fun e w' => ∃ a' c', e = .returned (.slice a' l.length c') ∧ TrisAt w' w.heap.size w'.heap.size a' l ∧ Below w.heap.size w w' := by
  have q22 : ∀ (w : World) (a : Option Addr) (n c n' c' : Nat), (binOp .eql 22 (.slice a n c) (.slice none n' c')).run Tryz.prog w = .ok (.bool a.isNone) w := fun w a n c n' c' => Lib.run_eql_slice_nil w _ _ a n c n' c' Tryz.underlying22
  obtain ⟨i1, hi1, hy0, hy1, hy2⟩ := info_parts infoVer
  cases a with
  | none =>
    have h0 : l = [] := by
      rcases hR with h | ⟨b, off, h, _⟩
      · exact h
      · cases h
    subst h0
    go_enter Tryz.func53, Tryz.ntmps53
    go_wp2
    go_ret
    exact ⟨none, 0, rfl, .inl rfl, Below.refl _ _⟩
  | some ad =>
    have hnews : 0 < l.length → ∃ ad', some ad = some ad' ∧ ∀ j u, (l.flatMap encV)[j]? = some u → (w.alloc (.cells #[] 60)).cell? (ad'.add j) = some u := fun h0 => by
      rcases hR with h | ⟨b, off, h, _, hb, hc⟩
      · subst h; simp at h0
      · refine ⟨ad, rfl, fun j u hj => ?_⟩
        obtain ⟨hj3, hu⟩ := encV_get l j u hj
        obtain ⟨h1, h2, h3⟩ := hc (j / 3) hj3
        cases h
        have e : (⟨b, off, none⟩ : Addr).add j = ⟨b, off + j, none⟩ := by unfold Addr.add; split <;> simp_all
        rw [e, cell_alloc_lt _ hb]
        have hm : j % 3 < 3 := Nat.mod_lt _ (by decide)
        unfold encV at hu
        rcases hq : j % 3 with _ | _ | _ | q
        · rw [hq] at hu; simp at hu; subst hu; rw [show off + j = off + j / 3 * 3 by omega]; exact h1
        · rw [hq] at hu; simp at hu; subst hu; rw [show off + j = off + j / 3 * 3 + 1 by omega]; exact h2
        · rw [hq] at hu; simp at hu; subst hu; rw [show off + j = off + j / 3 * 3 + 2 by omega]; exact h3
        · omega
    have hlen : (l.flatMap encV).length = l.length * 3 := by
      clear hR hl hnews
      induction l with
      | nil => rfl
      | cons v r ih => rw [List.flatMap_cons, List.length_append, ih]; show 3 + r.length * 3 = (r.length + 1) * 3; omega
    have hone : ∀ u ∈ l.flatMap encV, u.oneCell' = true := fun u hu => by
      obtain ⟨v, _, hv⟩ := List.mem_flatMap.1 hu
      unfold encV at hv
      simp at hv
      rcases hv with rfl | rfl | rfl <;> rfl
    have HN := Lib.hid hnews
    have HL := Lib.hid hlen
    have HO := Lib.hid hone
    clear hnews hlen hone hR
    go_enter Tryz.func53, Tryz.ntmps53
    go_wp2_with (at_builtin; refine wpList_append_any _ rfl (.tmp 5) (.tmp 6) 22 rfl w.heap.size 60 i1 _ 3 48 Tryz.underlying22 hi1 hy0 hy1 hy2 rfl (by decide) _ 0 [] rfl (World.ownsRow_made w #[] 0 (Nat.le_refl _) (Nat.zero_le _) (by simp)) _ l.length c (l.flatMap encV) rfl HL.out HN.out HO.out ?c1 ?c2 ?c3 _ rfl ?_)
    case c1 => unfold maxLen; omega
    case c2 => omega
    case c3 => simp
    intro a2 c2 w2 hown2 hgrow2 hat2
    try simp only [Nat.zero_add] at hown2
    have HT2 := Lib.hid (owns_tris hown2 rfl)
    have HB2 := Lib.hid (((Below.refl _ w).alloc (Nat.le_refl _) _).grown hgrow2 (by simp) (by intro k hk; simp [Value.ownBlock] at hk; omega))
    clear hown2 hgrow2 hat2
    go_wp2
    go_ret
    exact ⟨a2, c2, rfl, HT2.out, HB2.out⟩

set_option maxHeartbeats 400000 in
theorem judgeTable (l : List Ver3) (a : Option Addr) (c : Nat) (w : World) (hR : TrisAt w 0 w.heap.size a l) (hl : l.length ≤ 60) :
    Calls Tryz.prog 27 #[.slice a l.length c] w fun e w' => ∃ p a' c', e = .returned (.pointer (some ⟨p, 0, none⟩)) ∧ w.heap.size ≤ p ∧ w'.heap[p]? = some (.cells #[.iface 97 (.agg #[.slice a' l.length c'])] 64 (0, 0)) ∧ TrisAt w' w.heap.size p a' l ∧ Below w.heap.size w w' := by
  go_enter Tryz.func27, Tryz.ntmps27
  go_wp2_with fail
  refine (cloneVerdicts l a c w hR hl).mono ?_
  rintro e w1 ⟨a', c', rfl, hT, hb⟩
  have HT := Lib.hid hT
  have HB := Lib.hid hb
  clear hR hT hb
  go_wp2
  go_ret
  exact ⟨w1.heap.size, a', c', rfl, HB.out.size, heap_alloc_new _ _, HT.out.below ((Below.refl _ _).alloc (Nat.le_refl _) _) (Nat.le_refl _) (Nat.le_refl _) (Nat.le_refl _), HB.out.alloc HB.out.size _⟩

end Go.Proofs.YtaekmmnpdbmoeaaGreatDoor

namespace Go.Proofs.YtaekmmnpdbmoeaaGreatDoor
open Go.RowKit

theorem digit_at (i : Nat) (h : i < 16) : ((({ data := #[48, 49, 50, 51, 52, 53, 54, 55, 56, 57, 97, 98, 99, 100, 101, 102] } : ByteArray)[i]'h).toNat : Int) = (hexChar i).toNat := by
  have : ∀ m : Fin 16, ((({ data := #[48, 49, 50, 51, 52, 53, 54, 55, 56, 57, 97, 98, 99, 100, 101, 102] } : ByteArray)[m.val]'m.isLt).toNat : Int) = (hexChar m.val).toNat := by decide
  exact this ⟨i, h⟩

theorem digit_run (j : Int) (i : Nat) (h : i < 16) (hj : j = (i : Int)) (w : World) : (Instr.index 9 (.string { data := #[48, 49, 50, 51, 52, 53, 54, 55, 56, 57, 97, 98, 99, 100, 101, 102] }) (.int .u8 j)).run Tryz.prog w = .ok (.int .u8 (hexChar i).toNat) w := by
  subst hj
  have hs : i < ({ data := #[48, 49, 50, 51, 52, 53, 54, 55, 56, 57, 97, 98, 99, 100, 101, 102] } : ByteArray).size := h
  rw [run_index_string w _ _ _ _ Tryz.underlying9, dif_pos ⟨by omega, by omega⟩]
  congr 2
  have := digit_at i h
  simpa using this

set_option maxRecDepth 100000 in
set_option maxHeartbeats 400000 in
theorem refDigest (s : ByteArray) (w : World) (hs : s.size ≤ 1099511627000) :
    Calls Tryz.prog 44 #[.string s] w fun e w' => e = .returned (.string ⟨(shaHex s.data.toList).toArray⟩) ∧ Below w.heap.size w w' := by
  obtain ⟨i0, hi, hz0, hz1, hz2⟩ := info_parts infoU8
  have HSM := Lib.hid (refSum s w hs)
  obtain ⟨t, ht⟩ : ∃ t : ByteArray, t = ⟨(shaSum s.data.toList).toArray⟩ := ⟨_, rfl⟩
  have HT := Lib.hid (show hexEnc t.data.toList = shaHex s.data.toList by rw [ht]; rfl)
  have hts : t.size ≤ 32 := by rw [ht]; show (shaSum s.data.toList).toArray.size ≤ 32; rw [List.size_toArray, shaSum_length]; omega
  rw [← ht] at HSM
  clear ht
  go_enter Tryz.func44, Tryz.ntmps44
  go_wp2_with fail
  refine HSM.out.mono ?_
  rintro e w1 ⟨rfl, hb1⟩
  have HB1 := Lib.hid hb1
  clear hb1 HSM
  go_wp2
  go_loopw [4, 5] (fun v i wr => ∃ k : Nat, k ≤ t.size ∧ i = .int .i64 k ∧ wr.ownsRow w1.heap.size 5 1 v (2 * k) (Lib.byteCells (hexEnc (t.data.toList.take k))) ∧ Below w1.heap.size w1 wr) (fun _ i _ => t.size - (intOf i).toNat)
  case atStart => exact ⟨0, by omega, rfl, ⟨rfl, .inl ⟨rfl, rfl⟩⟩, Below.refl _ _⟩
  case round =>
    obtain ⟨k, hk, rfl, hown, hbel⟩ := hrel
    by_cases hlt : k < t.size
    · have hlt0 := hlt
      have hc : t[k].toNat < 256 := t[k].toNat_lt
      have m0 : (k : Int) < (t.size : Int) := by omega
      have hz5 : w1.heap.size ≤ wr.heap.size := hbel.size
      have HO := Lib.hid hown; clear hown
      have HB := Lib.hid hbel; clear hbel
      obtain ⟨c, hcc⟩ : ∃ c, c = t[k].toNat := ⟨_, rfl⟩
      have HCC := Lib.hid hcc
      have hcc' : (t[k].toNat : Int) = (c : Int) := by rw [hcc]
      rw [← hcc] at hc
      clear hcc
      have t1 : (c : Int).tdiv 16 = (c : Int) / 16 := Int.tdiv_eq_ediv_of_nonneg (by omega)
      have t2 : (c : Int).tmod 16 = (c : Int) % 16 := Int.tmod_eq_emod_of_nonneg (by omega)
      have t3 : IntKind.u8.wrap ((c : Int) / 16) = (c : Int) / 16 := IntWalk.u8_in _ (by omega)
      have d1 : ∀ w, (Instr.index 9 (.string { data := #[48, 49, 50, 51, 52, 53, 54, 55, 56, 57, 97, 98, 99, 100, 101, 102] }) (.int .u8 ((c : Int) / 16))).run Tryz.prog w = .ok (.int .u8 (hexChar (c / 16)).toNat) w := digit_run _ (c / 16) (by omega) (by omega)
      have d2 : ∀ w, (Instr.index 9 (.string { data := #[48, 49, 50, 51, 52, 53, 54, 55, 56, 57, 97, 98, 99, 100, 101, 102] }) (.int .u8 ((c : Int) % 16))).run Tryz.prog w = .ok (.int .u8 (hexChar (c % 16)).toNat) w := digit_run _ (c % 16) (by omega) (by omega)
      have HW1 := Lib.hid (show ∀ o, w1.heap.size ≤ ((wr.alloc o).drew).heap.size from fun o => by simp <;> omega)
      have HW2 := Lib.hid (show ∀ o, ((wr.alloc o).drew).heap.size = wr.heap.size + 1 from fun o => by simp)
      have HW3 := Lib.hid (show 2 * k + 2 ≤ maxLen by unfold maxLen; omega)
      have HW4 := Lib.hid (show (2 * k + 2) * 1 ≤ 140737488355328 by omega)
      go_wp2_with fail
      go_region_held3 (fun w' => True) (first | trivial | go_keep) ((refine step_append_lies _ (by rfl) _ _ _ (by rfl) w1.heap.size 5 i0 _ 1 1 Tryz.underlying108 hi hz0 hz1 hz2 rfl (by omega) _ (2 * k) _ (by rfl) ((HO.out.alloc _).drew) ⟨wr.heap.size, 0, none⟩ 2 2 [.int .u8 (hexChar (c / 16)).toNat, .int .u8 (hexChar (c % 16)).toNat] (by rfl) (by rfl) (World.news_of_block (cs := #[.int .u8 (hexChar (c / 16)).toNat, .int .u8 (hexChar (c % 16)).toNat]) (t := 5) (fr := (0, 0)) (heap_alloc_new wr _)) (by simp [Value.oneCell']) (by omega) HW3.out HW4.out (HW1.out _) (wr.heap.size + 1) (HW2.out _) ?_; intro gg cap w2 hown1 hgrow hat hlt6))
      all_goals
        have HO1 := Lib.hid hown1
        have HG := Lib.hid hgrow
        clear hown1 hgrow hat d1 d2
        go_wp2
        go_roundw
        case rel =>
          refine ⟨k + 1, by omega, by go_num, ?_, ?_⟩
          · rw [show 2 * (k + 1) = 2 * k + 2 by omega, hexEnc_snoc t k hlt0 c HCC.out]; exact HO1.out
          · exact ((HB.out.alloc (by omega) _).drew).grown HG.out (by simp; omega) (fun g hg => (HO.out.lt g hg).1)
        case measure => simp [intOf]; omega
    · have hcv := run_convert_owned (P := Tryz.prog) 108 9 5 Tryz.underlying108 Tryz.underlying5 Tryz.underlying9 hown
      rw [List.take_of_length_le (by rw [toList_length]; omega), HT.out] at hcv
      have HB := Lib.hid hbel
      clear hown hbel
      go_wp2
      go_ret
      exact ⟨rfl, HB1.out.trans (HB.out.mono HB1.out.size)⟩

end Go.Proofs.YtaekmmnpdbmoeaaGreatDoor

namespace Go.Proofs.YtaekmmnpdbmoeaaGreatDoor
open Go.RowKit

set_option maxHeartbeats 400000 in
set_option maxRecDepth 100000 in
theorem ref14ID (s t : ByteArray) (w : World) (hs : s.size ≤ 4294967) (ht : t.size ≤ 4294967) :
    Calls Tryz.prog 41 #[.agg #[.string s, .string t]] w (KeyIdPost s t w) := by
  have HM := Lib.hid (ref14May s t (w.alloc (.cells #[.string s, .string t] 24)) (by omega) (by omega))
  have HB0 := Lib.hid (show Below w.heap.size w (w.alloc (.cells #[.string s, .string t] 24)) from (Below.refl _ _).alloc (Nat.le_refl _) _)
  have HX0 := Lib.hid (heap_alloc_new w (.cells #[.string s, .string t] 24))
  unfold KeyIdPost keyId
  cases hk : keyOk s.data.toList t.data.toList
  · rw [hk] at HM
    clear hk
    go_enter Tryz.func41, Tryz.ntmps41
    go_wp2_with fail
    refine HM.out.mono ?_
    rintro e w1 ⟨rfl, hb1⟩
    have HB1 := Lib.hid (HB0.out.trans (hb1.mono (by simp)))
    clear hb1
    go_wp2
    go_ret2
    exact ⟨rfl, HB1.out⟩
  · rw [hk] at HM
    clear hk
    obtain ⟨f, hf⟩ : ∃ f : ByteArray, f = (({ data := #[123, 34, 112, 117, 98, 108, 105, 99, 34, 58, 34] } ++ t ++ { data := #[34, 44, 34, 115, 99, 104, 101, 109, 101, 34, 58, 34] }) ++ s) ++ { data := #[34, 125] } := ⟨_, rfl⟩
    have HF := Lib.hid (show f.data.toList = keyForm s.data.toList t.data.toList by
      rw [hf]; simp only [app_list]; unfold keyForm; simp [keyF1, keyF2])
    have hfs : f.size ≤ 1099511627000 := by
      rw [hf]; simp only [ByteArray.size_append]
      show 11 + t.size + 12 + s.size + 2 ≤ _; omega
    have HFF := Lib.hid hf
    clear hf
    go_enter Tryz.func41, Tryz.ntmps41
    go_wp2_with fail
    refine HM.out.mono ?_
    rintro e w1 ⟨rfl, hb1⟩
    have HB1 := Lib.hid (HB0.out.trans (hb1.mono (by simp)))
    have hx1 := hb1.block w.heap.size (by simp)
    rw [HX0.out] at hx1
    have q0 : w1.cell? ⟨w.heap.size, 0, none⟩ = some (.string s) := box_cell (w := w1) hx1 rfl
    have q1 : w1.cell? ⟨w.heap.size, 1, none⟩ = some (.string t) := box_cell (w := w1) hx1 rfl
    clear hb1 hx1
    go_wp2_with fail
    rw [← HFF.out]
    refine (refDigest f w1 hfs).mono ?_
    rintro e w2 ⟨rfl, hb2⟩
    have HB2 := Lib.hid (HB1.out.trans (hb2.mono HB1.out.size))
    clear hb2
    go_wp2
    go_ret2
    exact ⟨by rw [HF.out]; rfl, HB2.out⟩

end Go.Proofs.YtaekmmnpdbmoeaaGreatDoor

namespace Go.Proofs.YtaekmmnpdbmoeaaGreatDoor
open Go.RowKit

def KFindPost (l : List Key2) (id : ByteArray) (w : World) (e : Ending) (w' : World) : Prop :=
  e = .returned (.tuple #[.agg #[.string (findK id l).1.1, .string (findK id l).1.2], .bool (findK id l).2]) ∧ Below w.heap.size w w'
set_option maxHeartbeats 1000000 in
set_option maxRecDepth 100000 in
theorem keyFind (l : List Key2) (id : ByteArray) (a : Option Addr) (c : Nat) (w : World) (hK : KeysAt w 0 w.heap.size a l) (hl : l.length ≤ 4000) (hs : ∀ k ∈ l, k.1.size ≤ 300 ∧ k.2.size ≤ 300) (hT : Tabs w) :
    Calls Tryz.prog 36 #[.slice a l.length c, .string id] w (KFindPost l id w) := by
  have HK := Lib.hid hK
  have HS := Lib.hid hs
  have HT := Lib.hid hT
  clear hK hs hT
  go_enter Tryz.func36, Tryz.ntmps36
  go_wp2
  go_loopw [7, 8, 9, 12] (fun _ _ _ i wr => ∃ k : Nat, k ≤ l.length ∧ i = .int .i64 k ∧ findK id l = findK id (l.drop k) ∧ Below w.heap.size w wr ∧ wr.rowIs w.heap.size 24 2 (pick2 (.string { data := #[] }) (.string { data := #[] }))) (fun _ _ _ i _ => l.length - (intOf i).toNat)
  case atStart => exact ⟨0, by omega, rfl, rfl, (Below.refl _ _).alloc (Nat.le_refl _) _, rowIs_box2 _ _ _ _⟩
  case round =>
    obtain ⟨k, hk, rfl, hf, hbel, hrow⟩ := hrel
    have HF := Lib.hid hf
    have HB := Lib.hid hbel
    have HR := Lib.hid hrow
    have hwz : w.heap.size < wr.heap.size := hrow.lt
    clear hf
    by_cases hlt : k < l.length
    · obtain ⟨b, off, ha, _, hb, e0, e1⟩ := (HK.out.below hbel (Nat.le_refl _) (Nat.le_refl _) hbel.size).at k hlt
      subst ha
      obtain ⟨hs1, hs2⟩ := HS.out l[k] (List.getElem_mem hlt)
      have HFD := Lib.hid (findK_drop id l k hlt)
      obtain ⟨x, hx⟩ : ∃ x, x = l[k] := ⟨_, rfl⟩
      rw [← hx] at e0 e1 hs1 hs2 HFD
      clear hx hbel hrow
      obtain ⟨xs, xp⟩ := x
      have hs1 : xs.size ≤ 300 := hs1
      have hs2 : xp.size ≤ 300 := hs2
      have e0 : wr.cell? ⟨b, off + k * 2, none⟩ = some (.string xs) := e0
      have e1 : wr.cell? ⟨b, off + k * 2 + 1, none⟩ = some (.string xp) := e1
      have HID := Lib.hid (keyID xs xp (wr.alloc (.cells #[.string xs, .string xp] 24)) (by omega) (by omega) ((HT.out.below HB.out).below ((Below.refl _ _).alloc (Nat.le_refl _) _)))
      unfold KeyIdPost at HID
      obtain ⟨ok, hok⟩ : ∃ ok, ok = keyOk xs.data.toList xp.data.toList := ⟨_, rfl⟩
      obtain ⟨ID, hID⟩ : ∃ ID : ByteArray, ID = ⟨(keyId xs.data.toList xp.data.toList).toArray⟩ := ⟨_, rfl⟩
      rw [← hok, ← hID] at HID
      have HHI := Lib.hid (show keyHit id (xs, xp) = (ok && (ID.toList == id.toList)) by unfold keyHit; rw [hok, hID])
      clear hok hID
      have HRA := Lib.hid (below_row ((Below.refl _ _).alloc (Nat.le_refl _) (.cells #[.string xs, .string xp] 24)) HR.out hwz)
      go_wp2_with fail
      refine HID.out.mono ?_
      rintro e w1 ⟨rfl, hb1⟩
      have HB1 := Lib.hid ((HB.out.alloc HB.out.size _).trans (hb1.mono (by have := HB.out.size; simp; omega)))
      have HR1 := Lib.hid (below_row hb1 HRA.out (by simp; omega))
      have hX : w1.heap[wr.heap.size]? = some (.cells #[.string xs, .string xp] 24 (0, 0)) := by rw [hb1.block _ (by simp)]; exact heap_alloc_new wr _
      have hz1 : wr.heap.size < w1.heap.size := by have := hb1.size; simp at this; omega
      clear hb1 e0 e1 HID HRA
      cases hh : ok && (ID.toList == id.toList)
      · have HHF := Lib.hid (show findK id l = findK id (l.drop (k + 1)) by rw [HF.out, HFD.out, HHI.out, hh]; rfl)
        cases ok
        · clear hh hX
          rw [if_neg (by simp)]
          go_wp2
          go_roundw
          case rel => exact ⟨k + 1, by omega, by go_num, HHF.out, HB1.out, HR1.out⟩
          case measure => simp [intOf]; omega
        · have hh2 : (ID.toList == id.toList) = false := by simpa using hh
          clear hh hX
          rw [if_pos rfl]
          go_wp2
          go_roundw
          case rel => exact ⟨k + 1, by omega, by go_num, HHF.out, HB1.out, HR1.out⟩
          case measure => simp [intOf]; omega
      · obtain ⟨rfl, hh2⟩ : ok = true ∧ (ID.toList == id.toList) = true := by simpa using hh
        have HHF := Lib.hid (show findK id l = ((xs, xp), true) by rw [HF.out, HFD.out, HHI.out, hh]; rfl)
        have c0 : w1.cell? ⟨wr.heap.size, 0, none⟩ = some (.string xs) := box_cell hX rfl
        have c1 : w1.cell? ⟨wr.heap.size, 1, none⟩ = some (.string xp) := box_cell hX rfl
        have t0 := HR1.out.cell (i := 0) (by decide); have t1 := HR1.out.cell (i := 1) (by decide)
        have s0 := HR1.out.frozen 0; have s1 := HR1.out.frozen 1
        simp only [pick2] at t0 t1
        clear hh hX
        rw [if_pos rfl]
        go_wp2
        refine bodyPost_ret (results_row_tmp Tryz.results36 _ _ w.heap.size 24 #[.string xs, .string xp] (0, 0) _ rfl (row2_heap (set2 _ _ HR1.out)) Tryz.underlying24 rfl (by kernel_rfl) _ rfl) rfl ⟨by rw [HHF.out] <;> rfl, below2 _ _ HB1.out (Nat.le_refl _)⟩
    · have hke : k = l.length := by omega
      have HHF := Lib.hid (show findK id l = (({ data := #[] }, { data := #[] }), false) by rw [HF.out, hke, List.drop_length]; rfl)
      have t0 := hrow.cell (i := 0) (by decide); have t1 := hrow.cell (i := 1) (by decide)
      have s0 := hrow.frozen 0; have s1 := hrow.frozen 1
      simp only [pick2] at t0 t1
      clear hrow hbel hke
      go_wp2
      refine bodyPost_ret (results_row_tmp Tryz.results36 _ _ w.heap.size 24 #[.string { data := #[] }, .string { data := #[] }] (0, 0) _ rfl (row2_heap (set2 _ _ HR.out)) Tryz.underlying24 rfl (by kernel_rfl) _ rfl) rfl ⟨by rw [HHF.out] <;> rfl, below2 _ _ HB.out (Nat.le_refl _)⟩

set_option maxHeartbeats 1000000 in
set_option maxRecDepth 100000 in
theorem ref14Find (l : List Key2) (id : ByteArray) (a : Option Addr) (c : Nat) (w : World) (hK : KeysAt w 0 w.heap.size a l) (hl : l.length ≤ 4000) (hs : ∀ k ∈ l, k.1.size ≤ 300 ∧ k.2.size ≤ 300) :
    Calls Tryz.prog 52 #[.slice a l.length c, .string id] w (KFindPost l id w) := by
  have HK := Lib.hid hK
  have HS := Lib.hid hs
  clear hK hs
  go_enter Tryz.func52, Tryz.ntmps52
  go_wp2
  go_loopw [6, 7, 8] (fun i _ _ wr => ∃ k : Nat, k ≤ l.length ∧ i = .int .i64 k ∧ findK id l = findK id (l.drop k) ∧ Below w.heap.size w wr ∧ wr.rowIs w.heap.size 24 2 (pick2 (.string { data := #[] }) (.string { data := #[] }))) (fun i _ _ _ => l.length - (intOf i).toNat)
  case atStart => exact ⟨0, by omega, rfl, rfl, (Below.refl _ _).alloc (Nat.le_refl _) _, rowIs_box2 _ _ _ _⟩
  case round =>
    obtain ⟨k, hk, rfl, hf, hbel, hrow⟩ := hrel
    have HF := Lib.hid hf
    have HB := Lib.hid hbel
    have HR := Lib.hid hrow
    have hwz : w.heap.size < wr.heap.size := hrow.lt
    clear hf
    by_cases hlt : k < l.length
    · obtain ⟨b, off, ha, _, hb, e0, e1⟩ := (HK.out.below hbel (Nat.le_refl _) (Nat.le_refl _) (Nat.le_refl _)).at k hlt
      subst ha
      have hb : b < wr.heap.size := by omega
      obtain ⟨hs1, hs2⟩ := HS.out l[k] (List.getElem_mem hlt)
      have HFD := Lib.hid (findK_drop id l k hlt)
      obtain ⟨x, hx⟩ : ∃ x, x = l[k] := ⟨_, rfl⟩
      rw [← hx] at e0 e1 hs1 hs2 HFD
      clear hx hbel hrow
      obtain ⟨xs, xp⟩ := x
      have hs1 : xs.size ≤ 300 := hs1
      have hs2 : xp.size ≤ 300 := hs2
      have e0 : wr.cell? ⟨b, off + k * 2, none⟩ = some (.string xs) := e0
      have e1 : wr.cell? ⟨b, off + k * 2 + 1, none⟩ = some (.string xp) := e1
      have HID := Lib.hid (ref14ID xs xp wr (by omega) (by omega))
      unfold KeyIdPost at HID
      obtain ⟨ok, hok⟩ : ∃ ok, ok = keyOk xs.data.toList xp.data.toList := ⟨_, rfl⟩
      obtain ⟨ID, hID⟩ : ∃ ID : ByteArray, ID = ⟨(keyId xs.data.toList xp.data.toList).toArray⟩ := ⟨_, rfl⟩
      rw [← hok, ← hID] at HID
      have HHI := Lib.hid (show keyHit id (xs, xp) = (ok && (ID.toList == id.toList)) by unfold keyHit; rw [hok, hID])
      clear hok hID
      go_wp2_with fail
      refine HID.out.mono ?_
      rintro e w1 ⟨rfl, hb1⟩
      have HB1 := Lib.hid (HB.out.trans (hb1.mono HB.out.size))
      have HR1 := Lib.hid (below_row hb1 HR.out hwz)
      have hX0 : w1.cell? ⟨b, off + k * 2, none⟩ = some (.string xs) := by rw [hb1.cell hb]; exact e0
      have hX : w1.cell? ⟨b, off + k * 2 + 1, none⟩ = some (.string xp) := by rw [hb1.cell hb]; exact e1
      have hnb : b ≠ w.heap.size := by omega
      clear hb1 e0 e1 HID
      cases hh : ok && (ID.toList == id.toList)
      · have HHF := Lib.hid (show findK id l = findK id (l.drop (k + 1)) by rw [HF.out, HFD.out, HHI.out, hh]; rfl)
        cases ok
        · clear hh hX hX0
          rw [if_neg (by simp)]
          go_wp2
          go_roundw
          case rel => exact ⟨k + 1, by omega, by go_num, HHF.out, HB1.out, HR1.out⟩
          case measure => simp [intOf]; omega
        · have hh2 : (ID.toList == id.toList) = false := by simpa using hh
          clear hh hX hX0
          rw [if_pos rfl]
          go_wp2
          go_roundw
          case rel => exact ⟨k + 1, by omega, by go_num, HHF.out, HB1.out, HR1.out⟩
          case measure => simp [intOf]; omega
      · obtain ⟨rfl, hh2⟩ : ok = true ∧ (ID.toList == id.toList) = true := by simpa using hh
        have HHF := Lib.hid (show findK id l = ((xs, xp), true) by rw [HF.out, HFD.out, HHI.out, hh]; rfl)
        have t0 := HR1.out.cell (i := 0) (by decide); have t1 := HR1.out.cell (i := 1) (by decide)
        have s0 := HR1.out.frozen 0; have s1 := HR1.out.frozen 1
        simp only [pick2] at t0 t1
        clear hh
        rw [if_pos rfl]
        go_wp2
        refine bodyPost_ret (results_row_tmp Tryz.results52 _ _ w.heap.size 24 #[.string xs, .string xp] (0, 0) _ rfl (row2_heap (set2 _ _ HR1.out)) Tryz.underlying24 rfl (by kernel_rfl) _ rfl) rfl ⟨by rw [HHF.out] <;> rfl, below2 _ _ HB1.out (Nat.le_refl _)⟩
    · have hke : k = l.length := by omega
      have HHF := Lib.hid (show findK id l = (({ data := #[] }, { data := #[] }), false) by rw [HF.out, hke, List.drop_length]; rfl)
      have t0 := hrow.cell (i := 0) (by decide); have t1 := hrow.cell (i := 1) (by decide)
      have s0 := hrow.frozen 0; have s1 := hrow.frozen 1
      simp only [pick2] at t0 t1
      clear hrow hbel hke
      go_wp2
      refine bodyPost_ret (results_row_tmp Tryz.results52 _ _ w.heap.size 24 #[.string { data := #[] }, .string { data := #[] }] (0, 0) _ rfl (row2_heap (set2 _ _ HR.out)) Tryz.underlying24 rfl (by kernel_rfl) _ rfl) rfl ⟨by rw [HHF.out] <;> rfl, below2 _ _ HB.out (Nat.le_refl _)⟩

end Go.Proofs.YtaekmmnpdbmoeaaGreatDoor

namespace Go.Proofs.YtaekmmnpdbmoeaaGreatDoor
open Go.RowKit

def LongKPost (l : List Key2) (w : World) (e : Ending) (w' : World) : Prop := ∃ b : Bool, e = .returned (.bool b) ∧ (b = false → l.length ≤ 40 ∧ ∀ k ∈ l, k.1.size ≤ 300 ∧ k.2.size ≤ 300) ∧ Below w.heap.size w w'
def LongVPost (l : List Ver3) (w : World) (e : Ending) (w' : World) : Prop := ∃ b : Bool, e = .returned (.bool b) ∧ (b = false → l.length ≤ 60 ∧ ∀ k ∈ l, k.1.size ≤ 300 ∧ k.2.1.size ≤ 300 ∧ k.2.2.size ≤ 300) ∧ Below w.heap.size w w'

set_option maxHeartbeats 400000 in
theorem lawLongKeys (l : List Key2) (a : Option Addr) (c : Nat) (w : World) (hK : KeysAt w 0 w.heap.size a l) (hl : l.length ≤ 9223372036854775807) :
    Calls Tryz.prog 13 #[.slice a l.length c] w (LongKPost l w) := by
  have HK := Lib.hid hK
  clear hK
  by_cases h40 : l.length ≤ 40
  · have h40' : decide (40 < l.length) = false := by simp; omega
    go_enter Tryz.func13, Tryz.ntmps13
    go_wp2
    go_loopw [3] (fun i wr => ∃ k : Nat, k ≤ l.length ∧ i = .int .i64 k ∧ (∀ j (h : j < l.length), j < k → l[j].1.size ≤ 300 ∧ l[j].2.size ≤ 300) ∧ Below w.heap.size w wr) (fun i _ => l.length - (intOf i).toNat)
    case atStart => exact ⟨0, by omega, rfl, fun j _ h => by omega, Below.refl _ _⟩
    case round =>
      obtain ⟨k, hk, rfl, hal, hbel⟩ := hrel
      have HAL := Lib.hid hal
      have HB := Lib.hid hbel
      clear hal
      by_cases hlt : k < l.length
      · obtain ⟨b, off, ha, _, hb, e0, e1⟩ := (HK.out.below hbel (Nat.le_refl _) (Nat.le_refl _) hbel.size).at k hlt
        subst ha
        clear hbel
        obtain ⟨s0, hs0⟩ : ∃ s0, s0 = l[k].1 := ⟨_, rfl⟩
        obtain ⟨s1, hs1⟩ : ∃ s1, s1 = l[k].2 := ⟨_, rfl⟩
        rw [← hs0] at e0
        rw [← hs1] at e1
        have HS := Lib.hid (And.intro hs0 hs1)
        clear hs0 hs1
        by_cases g0 : s0.size ≤ 300
        · have g0' : decide (300 < s0.size) = false := by simp; omega
          by_cases g1 : s1.size ≤ 300
          · have g1' : decide (300 < s1.size) = false := by simp; omega
            go_wp2
            go_roundw
            case rel =>
              refine ⟨k + 1, by omega, by go_num, fun j hj hjk => ?_, HB.out⟩
              by_cases e : j = k
              · subst e; exact ⟨HS.out.1 ▸ g0, HS.out.2 ▸ g1⟩
              · exact HAL.out j hj (by omega)
            case measure => simp [intOf]; omega
          · have g1' : decide (300 < s1.size) = true := by simp; omega
            go_wp2
            go_ret
            exact ⟨true, rfl, (fun h => by cases h), HB.out⟩
        · have g0' : decide (300 < s0.size) = true := by simp; omega
          go_wp2
          go_ret
          exact ⟨true, rfl, (fun h => by cases h), HB.out⟩
      · clear hbel
        go_wp2
        go_ret
        refine ⟨false, rfl, fun _ => ⟨h40, fun x hx => ?_⟩, HB.out⟩
        obtain ⟨j, hj, rfl⟩ := List.getElem_of_mem hx
        exact HAL.out j hj (by omega)
  · have h40' : decide (40 < l.length) = true := by simp; omega
    go_enter Tryz.func13, Tryz.ntmps13
    go_wp2
    go_ret
    exact ⟨true, rfl, (fun h => by cases h), Below.refl _ _⟩

set_option maxHeartbeats 400000 in
theorem lawLongVerdicts (l : List Ver3) (a : Option Addr) (c : Nat) (w : World) (hK : TrisAt w 0 w.heap.size a l) (hl : l.length ≤ 9223372036854775807) :
    Calls Tryz.prog 12 #[.slice a l.length c] w (LongVPost l w) := by
  have HK := Lib.hid hK
  clear hK
  by_cases h60 : l.length ≤ 60
  · have h60' : decide (60 < l.length) = false := by simp; omega
    go_enter Tryz.func12, Tryz.ntmps12
    go_wp2
    go_loopw [3] (fun i wr => ∃ k : Nat, k ≤ l.length ∧ i = .int .i64 k ∧ (∀ j (h : j < l.length), j < k → l[j].1.size ≤ 300 ∧ l[j].2.1.size ≤ 300 ∧ l[j].2.2.size ≤ 300) ∧ Below w.heap.size w wr) (fun i _ => l.length - (intOf i).toNat)
    case atStart => exact ⟨0, by omega, rfl, fun j _ h => by omega, Below.refl _ _⟩
    case round =>
      obtain ⟨k, hk, rfl, hal, hbel⟩ := hrel
      have HAL := Lib.hid hal
      have HB := Lib.hid hbel
      clear hal
      by_cases hlt : k < l.length
      · obtain ⟨b, off, ha, _, hb, e0, e1, e2⟩ := (HK.out.below hbel (Nat.le_refl _) (Nat.le_refl _) hbel.size).at k hlt
        subst ha
        clear hbel
        obtain ⟨s0, hs0⟩ : ∃ s0, s0 = l[k].1 := ⟨_, rfl⟩
        obtain ⟨s1, hs1⟩ : ∃ s1, s1 = l[k].2.1 := ⟨_, rfl⟩
        obtain ⟨s2, hs2⟩ : ∃ s2, s2 = l[k].2.2 := ⟨_, rfl⟩
        rw [← hs0] at e0
        rw [← hs1] at e1
        rw [← hs2] at e2
        have HS := Lib.hid (And.intro hs0 (And.intro hs1 hs2))
        clear hs0 hs1 hs2
        by_cases g0 : s0.size ≤ 300
        · have g0' : decide (300 < s0.size) = false := by simp; omega
          by_cases g1 : s1.size ≤ 300
          · have g1' : decide (300 < s1.size) = false := by simp; omega
            by_cases g2 : s2.size ≤ 300
            · have g2' : decide (300 < s2.size) = false := by simp; omega
              go_wp2
              go_roundw
              case rel =>
                refine ⟨k + 1, by omega, by go_num, fun j hj hjk => ?_, HB.out⟩
                by_cases e : j = k
                · subst e; exact ⟨HS.out.1 ▸ g0, HS.out.2.1 ▸ g1, HS.out.2.2 ▸ g2⟩
                · exact HAL.out j hj (by omega)
              case measure => simp [intOf]; omega
            · have g2' : decide (300 < s2.size) = true := by simp; omega
              go_wp2
              go_ret
              exact ⟨true, rfl, (fun h => by cases h), HB.out⟩
          · have g1' : decide (300 < s1.size) = true := by simp; omega
            go_wp2
            go_ret
            exact ⟨true, rfl, (fun h => by cases h), HB.out⟩
        · have g0' : decide (300 < s0.size) = true := by simp; omega
          go_wp2
          go_ret
          exact ⟨true, rfl, (fun h => by cases h), HB.out⟩
      · clear hbel
        go_wp2
        go_ret
        refine ⟨false, rfl, fun _ => ⟨h60, fun x hx => ?_⟩, HB.out⟩
        obtain ⟨j, hj, rfl⟩ := List.getElem_of_mem hx
        exact HAL.out j hj (by omega)
  · have h60' : decide (60 < l.length) = true := by simp; omega
    go_enter Tryz.func12, Tryz.ntmps12
    go_wp2
    go_ret
    exact ⟨true, rfl, (fun h => by cases h), Below.refl _ _⟩

end Go.Proofs.YtaekmmnpdbmoeaaGreatDoor
