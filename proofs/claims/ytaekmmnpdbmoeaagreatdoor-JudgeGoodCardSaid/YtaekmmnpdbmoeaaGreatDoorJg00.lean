/- Plain: the reference's words for layer 17 say the same. No program in sight. The contracts of legateref01.digit, Encode and Decode. Printed by genref01.py. The contracts of legateref03.Block, combined and Of. The contracts of legateref15.Digest, ids, May and of legateref16.sig. -/
import Derived.Test.YtaekmmnpdbmoeaaGreatDoorJr16
import Derived.Test.YtaekmmnpdbmoeaaGreatDoorJr15
import Derived.Test.YtaekmmnpdbmoeaaGreatDoorJr13
import Derived.Test.YtaekmmnpdbmoeaaGreatDoorJr03
import Derived.Test.YtaekmmnpdbmoeaaGreatDoorJr22
import Derived.Test.YtaekmmnpdbmoeaaGreatDoorJr07
import Derived.Outline
import Derived.Test.YtaekmmnpdbmoeaaGreatDoorJr23
import Derived.Laws.IdiomStrings
import Derived.Test.YtaekmmnpdbmoeaaGreatDoorJr05
import Derived.BigQuiet
import Derived.Test.YtaekmmnpdbmoeaaGreatDoorJr00

namespace Go.Proofs.YtaekmmnpdbmoeaaGreatDoor
open Go.RowKit

theorem ba_list {a : ByteArray} {l : List UInt8} : a = ⟨l.toArray⟩ ↔ a.data.toList = l := by
  constructor
  · intro h; rw [h]
  · intro h; rw [← h]
theorem good_mac_ref (k : Key2) (s : Sig2) (m : List UInt8) : Ver.mac.good k s m = (ok2 k && (decide (id2 k = s.1) && (pubOk s.2.data.toList && (decide (k.1 = schemeH) && decide (s.2 = (⟨(macHex k.2.data.toList m).toArray⟩ : ByteArray)))))) := by
  unfold Ver.good Ver.by
  cases hp : pubOk s.2.data.toList
  · simp
  · have e : decide (hexDec s.2.data.toList = macL (hexDec k.2.data.toList) m) = decide (s.2 = (⟨(macHex k.2.data.toList m).toArray⟩ : ByteArray)) := by
      rw [Bool.eq_iff_iff, decide_eq_true_eq, decide_eq_true_eq, dec_iff hp, ba_list]
      rfl
    simp only [e, eq_comm (a := s.1), Bool.true_and]
theorem good_tab_ref (L : List Ver3) (k : Key2) (s : Sig2) (m : List UInt8) : (Ver.tab L).good k s m = (ok2 k && (decide (id2 k = s.1) && (pubOk s.2.data.toList && L.any fun v => decide (v.1 = s.1 ∧ v.2.1 = s.2 ∧ v.2.2 = (⟨(shaHex m).toArray⟩ : ByteArray))))) := by
  unfold Ver.good Ver.by
  cases pubOk s.2.data.toList
  · simp
  · simp only [eq_comm (a := s.1), Bool.true_and]
/-- The counting by the reference: a key that is found has the ID that is asked for. -/
theorem hasV_find {v : Ver} {keys : List Key2} {id : ByteArray} {l : List Sig2} {m : List UInt8} (hid : id2 (findK id keys).1 = id) : hasV v (findK id keys).1 id l m = l.any fun s => v.good (findK id keys).1 s m := by
  unfold hasV
  congr 1
  funext s
  cases hg : v.good (findK id keys).1 s m
  · simp
  · unfold Ver.good at hg
    simp only [Bool.and_eq_true, decide_eq_true_eq] at hg
    rw [decide_eq_true (hg.2.2.1.trans hid)]
    rfl

end Go.Proofs.YtaekmmnpdbmoeaaGreatDoor

namespace Go.Proofs.YtaekmmnpdbmoeaaGreatDoor
open Go.RowKit

theorem u8_hex (n : Nat) (h : n < 16) : ((hexChar n).toNat : Int) = if n < 10 then 48 + (n : Int) else 87 + (n : Int) := by
  have : ∀ m : Fin 16, ((hexChar m.val).toNat : Int) = if m.val < 10 then 48 + (m.val : Int) else 87 + (m.val : Int) := by decide
  exact this ⟨n, h⟩
theorem lit_byte (w : World) (c : UInt8) : (w.alloc (.cells #[.int .u8 c.toNat] 5)).ownsRow w.heap.size 5 1 (.slice (some ⟨w.heap.size, 0, none⟩) 1 1) 1 (Lib.byteCells [c]) :=
  World.ownsRow_lit (base := w.heap.size) (e := 5) (size := 1) w #[.int .u8 c.toNat] 1 (Nat.le_refl _) (by unfold maxLen; omega) rfl
theorem hexEnc_next (s : ByteArray) (k : Nat) (h : k < s.size) (c : Nat) (hc : c = s[k].toNat) :
    (⟨(hexEnc (s.data.toList.take k)).toArray⟩ : ByteArray) ++ ⟨#[hexChar (c / 16)]⟩ ++ ⟨#[hexChar (c % 16)]⟩ = ⟨(hexEnc (s.data.toList.take (k + 1))).toArray⟩ := by
  subst hc
  rw [take_snoc s k h, hexEnc_append]
  apply ba_ext
  simp [ByteArray.toList_eq, ByteArray.data_append, hexEnc]

theorem ref01Digit (n : Nat) (w : World) (h : n < 16) :
    Calls Tryz.prog 96 #[.int .i64 n] w fun e w' => e = .returned (.string ⟨#[hexChar n]⟩) ∧ Below w.heap.size w w' := by
  have hx := u8_hex n h
  have hcv := run_convert_owned (P := Tryz.prog) 108 9 5 Tryz.underlying108 Tryz.underlying5 Tryz.underlying9 (lit_byte w (hexChar n))
  rw [hx] at hcv
  clear hx
  by_cases hn : n < 10
  · rw [if_pos hn] at hcv
    have d1 : (n : Int) < 10 := by omega
    have m1 : IntKind.u8.wrap (48 + (n : Int)) = 48 + (n : Int) := by unfold IntKind.wrap; simp [IntKind.signed, IntKind.bits]; omega
    go_enter Tryz.func96, Tryz.ntmps96
    go_wp2
    go_ret
    exact ⟨rfl, (Below.refl _ _).alloc (Nat.le_refl _) _⟩
  · rw [if_neg hn] at hcv
    have d1 : ¬ ((n : Int) < 10) := by omega
    have m1 : IntKind.u8.wrap (97 + (n : Int) - 10) = 87 + (n : Int) := by unfold IntKind.wrap; simp [IntKind.signed, IntKind.bits]; omega
    go_enter Tryz.func96, Tryz.ntmps96
    go_wp2
    go_ret
    exact ⟨rfl, (Below.refl _ _).alloc (Nat.le_refl _) _⟩

set_option maxRecDepth 100000 in
set_option maxHeartbeats 1000000 in
theorem ref01Encode (s : ByteArray) (w : World) (hs : s.size ≤ 1099511627776) :
    Calls Tryz.prog 68 #[.string s] w fun e w' => e = .returned (.string ⟨(hexEnc s.data.toList).toArray⟩) ∧ Below w.heap.size w w' := by
  go_enter Tryz.func68, Tryz.ntmps68
  go_wp2
  go_loopw [3, 4] (fun v i wr => ∃ k : Nat, k ≤ s.size ∧ i = .int .i64 k ∧ v = .string ⟨(hexEnc (s.data.toList.take k)).toArray⟩ ∧ Below w.heap.size w wr) (fun _ i _ => s.size - (intOf i).toNat)
  case atStart => exact ⟨0, by omega, rfl, rfl, Below.refl _ _⟩
  case round =>
    obtain ⟨k, hk, rfl, rfl, hbel⟩ := hrel
    have HB := Lib.hid hbel; clear hbel
    obtain ⟨T, hT⟩ : ∃ T : ByteArray, T = ⟨(hexEnc (s.data.toList.take k)).toArray⟩ := ⟨_, rfl⟩
    have hTz : T.size ≤ 2199023255552 := by
      rw [hT]; show (hexEnc (s.data.toList.take k)).toArray.size ≤ _
      rw [List.size_toArray, hexEnc_length, List.length_take, toList_length]; omega
    by_cases hlt : k < s.size
    · obtain ⟨c, hc⟩ : ∃ c : UInt8, c = s[k] := ⟨_, rfl⟩
      have HN := Lib.hid (hexEnc_next s k hlt c.toNat (by rw [hc]))
      rw [← hT] at HN ⊢
      have hc2 : c.toNat < 256 := c.toNat_lt
      obtain ⟨q, hq⟩ : ∃ q, q = c.toNat / 16 := ⟨_, rfl⟩
      obtain ⟨r, hr⟩ : ∃ r, r = c.toNat % 16 := ⟨_, rfl⟩
      have HD1 := Lib.hid (fun w' => ref01Digit q w' (by omega))
      have HD2 := Lib.hid (fun w' => ref01Digit r w' (by omega))
      rw [← hq, ← hr] at HN
      obtain ⟨D1, hD1⟩ : ∃ D1 : ByteArray, D1 = ⟨#[hexChar q]⟩ := ⟨_, rfl⟩
      obtain ⟨D2, hD2⟩ : ∃ D2 : ByteArray, D2 = ⟨#[hexChar r]⟩ := ⟨_, rfl⟩
      have hz1 : D1.size = 1 := by rw [hD1]; rfl
      have hz2 : D2.size = 1 := by rw [hD2]; rfl
      rw [← hD1] at HD1 HN
      rw [← hD2] at HD2 HN
      have m5 : IntKind.i64.wrap (c.toNat : Int) = (c.toNat : Int) := IntWalk.i64_in _ (by omega)
      have m6 : IntKind.i64.wrap ((c.toNat : Int) / 16) = (q : Int) := by rw [IntWalk.i64_in _ (by omega)]; omega
      have m7 : IntKind.i64.wrap ((c.toNat : Int).tdiv 16) = (q : Int) := by rw [Int.tdiv_eq_ediv_of_nonneg (by omega), m6]
      have m8 : (c.toNat : Int).tmod 16 = (r : Int) := by rw [Int.tmod_eq_emod_of_nonneg (by omega)]; omega
      have m9 : (c.toNat : Int) % 16 = (r : Int) := by omega
      have n1 : ¬ (9223372036854775807 < T.size + 1) := by omega
      have n2 : ¬ (9223372036854775807 < T.size + 1 + 1) := by omega
      clear hD1 hD2 hq hr
      have m1 : (k : Int) < (s.size : Int) := by omega
      have hcs : s[k] = c := hc.symm
      clear hT hc
      go_upto_region 5 with fail
      obtain ⟨V, hV⟩ : ∃ V : List MP, V = [.con (.string T), .con (.string s), .con (.int .i64 (k : Int)), .con (.int .u8 (c.toNat : Int)), .con (.int .i64 (c.toNat : Int)), .con (.int .i64 (q : Int)), .con (.string D1), .con (.string (T ++ D1)), .con (.string s), .con (.int .i64 (k : Int)), .con (.int .u8 (c.toNat : Int)), .con (.int .i64 (c.toNat : Int)), .con (.int .i64 (r : Int)), .con (.string D2), .con (.string (T ++ D1 ++ D2))] := ⟨_, rfl⟩
      have HV := Lib.hid hV
      clear hV
      refine wp_region_inv 15 (fun d a' w' => ∃ x11 x12 x13 x14 x15 x16 x17 x18 x19 x20 x21 x22 x23 x24 x25, a' = ⟨#[Value.string s, undef, Value.string { data := #[] }, Value.string T, Value.int IntKind.i64 (k : Int), Value.int IntKind.i64 (k : Int), Value.string s, Value.int IntKind.i64 (s.size : Int), Value.bool true, u9, u10, x11, x12, x13, x14, x15, x16, x17, x18, x19, x20, x21, x22, x23, x24, x25, undef], []⟩ ∧ RegI wr V d w' [x11, x12, x13, x14, x15, x16, x17, x18, x19, x20, x21, x22, x23, x24, x25]) (by kernel_rfl) (by kernel_rfl) ?first ?step ?last
      case first => exact ⟨_, _, _, _, _, _, _, _, _, _, _, _, _, _, _, rfl, RegI.first _ _ _ (by rw [HV.out]; rfl)⟩
      case step =>
        rintro d a' w' ⟨x11, x12, x13, x14, x15, x16, x17, x18, x19, x20, x21, x22, x23, x24, x25, rfl, h⟩ q hq hn hw
        rcases q with _ | _ | _ | _ | _ | _ | _ | _ | _ | _ | _ | _ | _ | _ | _ | q
        · refine wpOp_step rfl fun K hK => ?_
          go_simp
          exact hK _ _ ⟨_, x12, x13, x14, x15, x16, x17, x18, x19, x20, x21, x22, x23, x24, x25, rfl, h.same 0 _ (.con (.string T)) (by rw [HV.out]; rfl) rfl⟩
        · refine wpOp_step rfl fun K hK => ?_
          go_simp
          exact hK _ _ ⟨x11, _, x13, x14, x15, x16, x17, x18, x19, x20, x21, x22, x23, x24, x25, rfl, h.same 1 _ (.con (.string s)) (by rw [HV.out]; rfl) rfl⟩
        · refine wpOp_step rfl fun K hK => ?_
          go_simp
          exact hK _ _ ⟨x11, x12, _, x14, x15, x16, x17, x18, x19, x20, x21, x22, x23, x24, x25, rfl, h.same 2 _ (.con (.int .i64 (k : Int))) (by rw [HV.out]; rfl) rfl⟩
        · obtain rfl : x12 = .string s := h.get 1 (hw _ rfl ⟨1, .data⟩ (by simp) rfl) (.con (.string s)) (by rw [HV.out]; rfl) _ rfl
          obtain rfl : x13 = .int .i64 (k : Int) := h.get 2 (hw _ rfl ⟨2, .data⟩ (by simp) rfl) (.con (.int .i64 (k : Int))) (by rw [HV.out]; rfl) _ rfl
          refine wpOp_step rfl fun K hK => ?_
          go_simp
          exact hK _ _ ⟨x11, _, _, _, x15, x16, x17, x18, x19, x20, x21, x22, x23, x24, x25, rfl, h.same 3 _ (.con (.int .u8 (c.toNat : Int))) (by rw [HV.out]; rfl) rfl⟩
        · obtain rfl : x14 = .int .u8 (c.toNat : Int) := h.get 3 (hw _ rfl ⟨3, .data⟩ (by simp) rfl) (.con (.int .u8 (c.toNat : Int))) (by rw [HV.out]; rfl) _ rfl
          refine wpOp_step rfl fun K hK => ?_
          go_simp
          exact hK _ _ ⟨x11, x12, x13, _, _, x16, x17, x18, x19, x20, x21, x22, x23, x24, x25, rfl, h.same 4 _ (.con (.int .i64 (c.toNat : Int))) (by rw [HV.out]; rfl) rfl⟩
        · obtain rfl : x15 = .int .i64 (c.toNat : Int) := h.get 4 (hw _ rfl ⟨4, .data⟩ (by simp) rfl) (.con (.int .i64 (c.toNat : Int))) (by rw [HV.out]; rfl) _ rfl
          refine wpOp_step rfl fun K hK => ?_
          go_simp
          exact hK _ _ ⟨x11, x12, x13, x14, _, _, x17, x18, x19, x20, x21, x22, x23, x24, x25, rfl, h.same 5 _ (.con (.int .i64 (q : Int))) (by rw [HV.out]; rfl) rfl⟩
        · obtain rfl : x16 = .int .i64 (q : Int) := h.get 5 (hw _ rfl ⟨5, .data⟩ (by simp) rfl) (.con (.int .i64 (q : Int))) (by rw [HV.out]; rfl) _ rfl
          refine wpOp_step rfl fun K hK => ?_
          go_simp
          refine (HD1.out w').mono ?_
          rintro e w2 ⟨rfl, hb2⟩
          exact hK _ _ ⟨x11, x12, x13, x14, x15, _, _, x18, x19, x20, x21, x22, x23, x24, x25, rfl, h.did hb2 6 _ (.con (.string D1)) (by rw [HV.out]; rfl) rfl⟩
        · obtain rfl : x11 = .string T := h.get 0 (hw _ rfl ⟨0, .data⟩ (by simp) rfl) (.con (.string T)) (by rw [HV.out]; rfl) _ rfl
          obtain rfl : x17 = .string D1 := h.get 6 (hw _ rfl ⟨6, .data⟩ (by simp) rfl) (.con (.string D1)) (by rw [HV.out]; rfl) _ rfl
          refine wpOp_step rfl fun K hK => ?_
          go_simp
          exact hK _ _ ⟨_, x12, x13, x14, x15, x16, _, _, x19, x20, x21, x22, x23, x24, x25, rfl, h.same 7 _ (.con (.string (T ++ D1))) (by rw [HV.out]; rfl) rfl⟩
        · refine wpOp_step rfl fun K hK => ?_
          go_simp
          exact hK _ _ ⟨x11, x12, x13, x14, x15, x16, x17, x18, _, x20, x21, x22, x23, x24, x25, rfl, h.same 8 _ (.con (.string s)) (by rw [HV.out]; rfl) rfl⟩
        · refine wpOp_step rfl fun K hK => ?_
          go_simp
          exact hK _ _ ⟨x11, x12, x13, x14, x15, x16, x17, x18, x19, _, x21, x22, x23, x24, x25, rfl, h.same 9 _ (.con (.int .i64 (k : Int))) (by rw [HV.out]; rfl) rfl⟩
        · obtain rfl : x19 = .string s := h.get 8 (hw _ rfl ⟨8, .data⟩ (by simp) rfl) (.con (.string s)) (by rw [HV.out]; rfl) _ rfl
          obtain rfl : x20 = .int .i64 (k : Int) := h.get 9 (hw _ rfl ⟨9, .data⟩ (by simp) rfl) (.con (.int .i64 (k : Int))) (by rw [HV.out]; rfl) _ rfl
          refine wpOp_step rfl fun K hK => ?_
          go_simp
          exact hK _ _ ⟨x11, x12, x13, x14, x15, x16, x17, x18, _, _, _, x22, x23, x24, x25, rfl, h.same 10 _ (.con (.int .u8 (c.toNat : Int))) (by rw [HV.out]; rfl) rfl⟩
        · obtain rfl : x21 = .int .u8 (c.toNat : Int) := h.get 10 (hw _ rfl ⟨10, .data⟩ (by simp) rfl) (.con (.int .u8 (c.toNat : Int))) (by rw [HV.out]; rfl) _ rfl
          refine wpOp_step rfl fun K hK => ?_
          go_simp
          exact hK _ _ ⟨x11, x12, x13, x14, x15, x16, x17, x18, x19, x20, _, _, x23, x24, x25, rfl, h.same 11 _ (.con (.int .i64 (c.toNat : Int))) (by rw [HV.out]; rfl) rfl⟩
        · obtain rfl : x22 = .int .i64 (c.toNat : Int) := h.get 11 (hw _ rfl ⟨11, .data⟩ (by simp) rfl) (.con (.int .i64 (c.toNat : Int))) (by rw [HV.out]; rfl) _ rfl
          refine wpOp_step rfl fun K hK => ?_
          go_simp
          exact hK _ _ ⟨x11, x12, x13, x14, x15, x16, x17, x18, x19, x20, x21, _, _, x24, x25, rfl, h.same 12 _ (.con (.int .i64 (r : Int))) (by rw [HV.out]; rfl) rfl⟩
        · obtain rfl : x23 = .int .i64 (r : Int) := h.get 12 (hw _ rfl ⟨12, .data⟩ (by simp) rfl) (.con (.int .i64 (r : Int))) (by rw [HV.out]; rfl) _ rfl
          refine wpOp_step rfl fun K hK => ?_
          go_simp
          refine (HD2.out w').mono ?_
          rintro e w2 ⟨rfl, hb2⟩
          exact hK _ _ ⟨x11, x12, x13, x14, x15, x16, x17, x18, x19, x20, x21, x22, _, _, x25, rfl, h.did hb2 13 _ (.con (.string D2)) (by rw [HV.out]; rfl) rfl⟩
        · obtain rfl : x18 = .string (T ++ D1) := h.get 7 (hw _ rfl ⟨7, .data⟩ (by simp) rfl) (.con (.string (T ++ D1))) (by rw [HV.out]; rfl) _ rfl
          obtain rfl : x24 = .string D2 := h.get 13 (hw _ rfl ⟨13, .data⟩ (by simp) rfl) (.con (.string D2)) (by rw [HV.out]; rfl) _ rfl
          refine wpOp_step rfl fun K hK => ?_
          go_simp
          exact hK _ _ ⟨x11, x12, x13, x14, x15, x16, x17, _, x19, x20, x21, x22, x23, _, _, rfl, h.same 14 _ (.con (.string (T ++ D1 ++ D2))) (by rw [HV.out]; rfl) rfl⟩
        · omega
      case last =>
        rintro d a' w' hall ⟨x11, x12, x13, x14, x15, x16, x17, x18, x19, x20, x21, x22, x23, x24, x25, rfl, h⟩
        have hle := h.1
        obtain rfl : x25 = .string (T ++ D1 ++ D2) := h.get 14 (hall _ (by omega)) (.con (.string (T ++ D1 ++ D2))) (by rw [HV.out]; rfl) _ rfl
        have HLE := Lib.hid hle
        clear h hall hle HV
        go_wp2
        go_roundw
        case rel => exact ⟨k + 1, by omega, by go_num, congrArg Value.string HN.out, HB.out.trans (HLE.out.mono HB.out.size)⟩
        case measure => simp [intOf]; omega
    · obtain rfl : k = s.size := by omega
      rw [← hT]
      go_wp2
      go_ret
      exact ⟨congrArg (fun z => Ending.returned (.string z)) (by rw [hT, List.take_of_length_le (by rw [toList_length]; exact Nat.le_refl _)]), HB.out⟩

set_option maxRecDepth 100000 in
set_option maxHeartbeats 1000000 in
theorem ref01Decode (s : ByteArray) (w : World) (hs : s.size ≤ 1099511627776) :
    Calls Tryz.prog 67 #[.string s] w fun e w' => e = .returned (.tuple #[.string ⟨(decS s.data.toList).toArray⟩, .int .i64 (decE s.data.toList)]) ∧ Below w.heap.size w w' := by
  have HI := Lib.hid (ref01Is s w (by omega))
  cases hx : allHex s.data.toList
  · rw [hx] at HI
    have HE := Lib.hid (decE_no hx)
    clear hx
    go_enter Tryz.func67, Tryz.ntmps67
    go_wp2_with fail
    refine HI.out.mono ?_
    rintro e w1 ⟨rfl, rfl⟩
    go_wp2
    go_ret2
    exact ⟨by rw [HE.out.1, HE.out.2] <;> rfl, Below.refl _ _⟩
  rw [hx] at HI
  by_cases h2 : s.size % 2 = 1
  · have HE := Lib.hid (decE_odd hx (by rw [toList_length]; exact h2))
    clear hx
    have hm : (s.size : Int).tmod 2 = 1 := by rw [Int.tmod_eq_emod_of_nonneg (by omega)]; omega
    go_enter Tryz.func67, Tryz.ntmps67
    go_wp2_with fail
    refine HI.out.mono ?_
    rintro e w1 ⟨rfl, rfl⟩
    go_wp2
    go_ret2
    exact ⟨by rw [HE.out.1, HE.out.2] <;> rfl, Below.refl _ _⟩
  have HE := Lib.hid (decE_ok hx (by rw [toList_length]; omega))
  have HX := Lib.hid (List.all_eq_true.1 (show s.data.toList.all isHex = true from hx))
  clear hx
  have hm : (s.size : Int).tmod 2 = 0 := by rw [Int.tmod_eq_emod_of_nonneg (by omega)]; omega
  have h20 : s.size % 2 = 0 := by omega
  have H20 := Lib.hid h20
  clear h2 h20
  obtain ⟨i0, hi, hz0, hz1, hz2⟩ := info_parts infoU8
  go_enter Tryz.func67, Tryz.ntmps67
  go_wp2_with fail
  refine HI.out.mono ?_
  rintro e w1 ⟨rfl, rfl⟩
  clear HI
  go_wp2
  go_loopw [4, 5] (fun v i wr => ∃ k : Nat, 2 * k ≤ s.size ∧ i = .int .i64 (2 * (k : Int)) ∧ wr.ownsRow w.heap.size 5 1 v k (Lib.byteCells (hexDec (s.data.toList.take (2 * k)))) ∧ Below w.heap.size w wr) (fun _ i _ => s.size - (intOf i).toNat)
  case atStart => exact ⟨0, by omega, rfl, World.ownsRow_nil _ _ _ _, Below.refl _ _⟩
  case round =>
    obtain ⟨k, hk, rfl, hown, hbel⟩ := hrel
    have HB := Lib.hid hbel; clear hbel
    have HO := Lib.hid hown; clear hown
    by_cases hlt : 2 * k < s.size
    · have hlt0 : 2 * k + 1 < s.size := by have := H20.out; omega
      have m0 : 2 * (k : Int) < (s.size : Int) := by omega
      have m1 : 2 * (k : Int) + 1 < (s.size : Int) := by omega
      obtain ⟨ka, hka⟩ : ∃ ka, ka = 2 * k := ⟨_, rfl⟩
      obtain ⟨kb, hkb⟩ : ∃ kb, kb = 2 * k + 1 := ⟨_, rfl⟩
      have ia : 2 * (k : Int) = (ka : Int) := by omega
      have ib : (ka : Int) + 1 = (kb : Int) := by omega
      have ha : isHex s[2 * k] = true := HX.out _ (by rw [← toList_get s (2 * k) hlt]; exact List.getElem_mem _)
      have hb : isHex s[2 * k + 1] = true := HX.out _ (by rw [← toList_get s (2 * k + 1) hlt0]; exact List.getElem_mem _)
      have la := hexN_lt s[2 * k]
      have lb := hexN_lt s[2 * k + 1]
      have HS := Lib.hid (dec_snoc s k hlt0)
      have hv1 : Hid (∀ w', Calls Tryz.prog 95 #[.int .u8 s[2 * k].toNat] w' fun e w'' => e = .returned (.int .i64 (hexN s[2 * k])) ∧ Below w'.heap.size w' w'') := Lib.hid fun w' => by
        refine (ref01Value s[2 * k] w').mono ?_
        rintro e w'' ⟨rfl, rfl⟩
        exact ⟨ret_int (hexV_yes ha), Below.refl _ _⟩
      have hv2 : Hid (∀ w', Calls Tryz.prog 95 #[.int .u8 s[2 * k + 1].toNat] w' fun e w'' => e = .returned (.int .i64 (hexN s[2 * k + 1])) ∧ Below w'.heap.size w' w'') := Lib.hid fun w' => by
        refine (ref01Value s[2 * k + 1] w').mono ?_
        rintro e w'' ⟨rfl, rfl⟩
        exact ⟨ret_int (hexV_yes hb), Below.refl _ _⟩
      obtain ⟨a, hha⟩ : ∃ a, a = hexN s[2 * k] := ⟨_, rfl⟩
      obtain ⟨b, hhb⟩ : ∃ b, b = hexN s[2 * k + 1] := ⟨_, rfl⟩
      have HSS := Lib.hid (HS.out a b hha hhb)
      rw [← hha] at hv1 la
      rw [← hhb] at hv2 lb
      obtain ⟨c1, hc1⟩ : ∃ c : UInt8, c = s[2 * k] := ⟨_, rfl⟩
      obtain ⟨c2, hc2⟩ : ∃ c : UInt8, c = s[2 * k + 1] := ⟨_, rfl⟩
      rw [← hc1] at hv1
      rw [← hc2] at hv2
      have hlta : ka < s.size := by omega
      have hltb : kb < s.size := by omega
      have hsa : s[ka]'hlta = c1 := by rw [hc1]; congr 1
      have hsb : s[kb]'hltb = c2 := by rw [hc2]; congr 1
      have m2 : (ka : Int) < (s.size : Int) := by omega
      have m3 : (kb : Int) < (s.size : Int) := by omega
      have m5 : IntKind.i64.wrap ((ka : Int) + 1) = (kb : Int) := by rw [IntWalk.i64_in _ (by omega), ib]
      have m6 : IntKind.i64.wrap (16 * a) = 16 * a := IntWalk.i64_in _ (by omega)
      have m7 : IntKind.i64.wrap (16 * a + b) = 16 * a + b := IntWalk.i64_in _ (by omega)
      have m8 : IntKind.u8.wrap (16 * a + b) = a * 16 + b := by unfold IntKind.wrap; simp [IntKind.signed, IntKind.bits]; omega
      have HIA := Lib.hid ia
      have HKA := Lib.hid hka
      rw [ia]
      clear hc1 hc2 hha hhb HS ha hb m0 m1 ia ib hka hkb
      go_upto_region 9 with fail
      obtain ⟨V, hV⟩ : ∃ V : List MP, V = [.con (u4), .con (.string s), .con (.int .i64 (ka : Int)), .con (.int .u8 (c1.toNat : Int)), .con (.int .i64 a), .con (.int .i64 (16 * a)), .con (.string s), .con (.int .i64 (ka : Int)), .con (.int .i64 (kb : Int)), .con (.int .u8 (c2.toNat : Int)), .con (.int .i64 b), .con (.int .i64 (16 * a + b)), .con (.int .u8 (a * 16 + b)), .row wr.heap.size 1 5 #[.int .u8 (a * 16 + b)]] := ⟨_, rfl⟩
      have HV := Lib.hid hV
      clear hV
      refine wp_region_inv 14 (fun d a' w' => ∃ x19 x20 x21 x22 x23 x24 x25 x26 x27 x28 x29 x30 x31 x32, a' = ⟨#[Value.string s, undef, Value.string { data := #[] }, Value.int IntKind.i64 0, u4, Value.int IntKind.i64 (ka : Int), Value.string s, Value.bool true, Value.bool false, Value.string s, Value.int IntKind.i64 (s.size : Int), Value.int IntKind.i64 0, Value.bool false, Value.int IntKind.i64 (ka : Int), Value.string s, Value.int IntKind.i64 (s.size : Int), Value.bool true, u17, u18, x19, x20, x21, x22, x23, x24, x25, x26, x27, x28, x29, x30, x31, x32, u33, undef, undef], []⟩ ∧ RegI wr V d w' [x19, x20, x21, x22, x23, x24, x25, x26, x27, x28, x29, x30, x31, x32]) (by kernel_rfl) (by kernel_rfl) ?first ?step ?last
      case first => exact ⟨_, _, _, _, _, _, _, _, _, _, _, _, _, _, rfl, RegI.first _ _ _ (by rw [HV.out]; rfl)⟩
      case step =>
        rintro d a' w' ⟨x19, x20, x21, x22, x23, x24, x25, x26, x27, x28, x29, x30, x31, x32, rfl, h⟩ q hq hn hw
        rcases q with _ | _ | _ | _ | _ | _ | _ | _ | _ | _ | _ | _ | _ | _ | q
        · refine wpOp_step rfl fun K hK => ?_
          go_simp
          exact hK _ _ ⟨_, x20, x21, x22, x23, x24, x25, x26, x27, x28, x29, x30, x31, x32, rfl, h.same 0 _ (.con (u4)) (by rw [HV.out]; rfl) rfl⟩
        · refine wpOp_step rfl fun K hK => ?_
          go_simp
          exact hK _ _ ⟨x19, _, x21, x22, x23, x24, x25, x26, x27, x28, x29, x30, x31, x32, rfl, h.same 1 _ (.con (.string s)) (by rw [HV.out]; rfl) rfl⟩
        · refine wpOp_step rfl fun K hK => ?_
          go_simp
          exact hK _ _ ⟨x19, x20, _, x22, x23, x24, x25, x26, x27, x28, x29, x30, x31, x32, rfl, h.same 2 _ (.con (.int .i64 (ka : Int))) (by rw [HV.out]; rfl) rfl⟩
        · obtain rfl : x20 = .string s := h.get 1 (hw _ rfl ⟨1, .data⟩ (by simp) rfl) (.con (.string s)) (by rw [HV.out]; rfl) _ rfl
          obtain rfl : x21 = .int .i64 (ka : Int) := h.get 2 (hw _ rfl ⟨2, .data⟩ (by simp) rfl) (.con (.int .i64 (ka : Int))) (by rw [HV.out]; rfl) _ rfl
          refine wpOp_step rfl fun K hK => ?_
          go_simp
          exact hK _ _ ⟨x19, _, _, _, x23, x24, x25, x26, x27, x28, x29, x30, x31, x32, rfl, h.same 3 _ (.con (.int .u8 (c1.toNat : Int))) (by rw [HV.out]; rfl) rfl⟩
        · obtain rfl : x22 = .int .u8 (c1.toNat : Int) := h.get 3 (hw _ rfl ⟨3, .data⟩ (by simp) rfl) (.con (.int .u8 (c1.toNat : Int))) (by rw [HV.out]; rfl) _ rfl
          refine wpOp_step rfl fun K hK => ?_
          go_simp
          refine (hv1.out w').mono ?_
          rintro e w2 ⟨rfl, hb2⟩
          exact hK _ _ ⟨x19, x20, x21, _, _, x24, x25, x26, x27, x28, x29, x30, x31, x32, rfl, h.did hb2 4 _ (.con (.int .i64 a)) (by rw [HV.out]; rfl) rfl⟩
        · obtain rfl : x23 = .int .i64 a := h.get 4 (hw _ rfl ⟨4, .data⟩ (by simp) rfl) (.con (.int .i64 a)) (by rw [HV.out]; rfl) _ rfl
          refine wpOp_step rfl fun K hK => ?_
          go_simp
          exact hK _ _ ⟨x19, x20, x21, x22, _, _, x25, x26, x27, x28, x29, x30, x31, x32, rfl, h.same 5 _ (.con (.int .i64 (16 * a))) (by rw [HV.out]; rfl) rfl⟩
        · refine wpOp_step rfl fun K hK => ?_
          go_simp
          exact hK _ _ ⟨x19, x20, x21, x22, x23, x24, _, x26, x27, x28, x29, x30, x31, x32, rfl, h.same 6 _ (.con (.string s)) (by rw [HV.out]; rfl) rfl⟩
        · refine wpOp_step rfl fun K hK => ?_
          go_simp
          exact hK _ _ ⟨x19, x20, x21, x22, x23, x24, x25, _, x27, x28, x29, x30, x31, x32, rfl, h.same 7 _ (.con (.int .i64 (ka : Int))) (by rw [HV.out]; rfl) rfl⟩
        · obtain rfl : x26 = .int .i64 (ka : Int) := h.get 7 (hw _ rfl ⟨7, .data⟩ (by simp) rfl) (.con (.int .i64 (ka : Int))) (by rw [HV.out]; rfl) _ rfl
          refine wpOp_step rfl fun K hK => ?_
          go_simp
          exact hK _ _ ⟨x19, x20, x21, x22, x23, x24, x25, _, _, x28, x29, x30, x31, x32, rfl, h.same 8 _ (.con (.int .i64 (kb : Int))) (by rw [HV.out]; rfl) rfl⟩
        · obtain rfl : x25 = .string s := h.get 6 (hw _ rfl ⟨6, .data⟩ (by simp) rfl) (.con (.string s)) (by rw [HV.out]; rfl) _ rfl
          obtain rfl : x27 = .int .i64 (kb : Int) := h.get 8 (hw _ rfl ⟨8, .data⟩ (by simp) rfl) (.con (.int .i64 (kb : Int))) (by rw [HV.out]; rfl) _ rfl
          refine wpOp_step rfl fun K hK => ?_
          go_simp
          exact hK _ _ ⟨x19, x20, x21, x22, x23, x24, _, x26, _, _, x29, x30, x31, x32, rfl, h.same 9 _ (.con (.int .u8 (c2.toNat : Int))) (by rw [HV.out]; rfl) rfl⟩
        · obtain rfl : x28 = .int .u8 (c2.toNat : Int) := h.get 9 (hw _ rfl ⟨9, .data⟩ (by simp) rfl) (.con (.int .u8 (c2.toNat : Int))) (by rw [HV.out]; rfl) _ rfl
          refine wpOp_step rfl fun K hK => ?_
          go_simp
          refine (hv2.out w').mono ?_
          rintro e w2 ⟨rfl, hb2⟩
          exact hK _ _ ⟨x19, x20, x21, x22, x23, x24, x25, x26, x27, _, _, x30, x31, x32, rfl, h.did hb2 10 _ (.con (.int .i64 b)) (by rw [HV.out]; rfl) rfl⟩
        · obtain rfl : x24 = .int .i64 (16 * a) := h.get 5 (hw _ rfl ⟨5, .data⟩ (by simp) rfl) (.con (.int .i64 (16 * a))) (by rw [HV.out]; rfl) _ rfl
          obtain rfl : x29 = .int .i64 b := h.get 10 (hw _ rfl ⟨10, .data⟩ (by simp) rfl) (.con (.int .i64 b)) (by rw [HV.out]; rfl) _ rfl
          refine wpOp_step rfl fun K hK => ?_
          go_simp
          exact hK _ _ ⟨x19, x20, x21, x22, x23, _, x25, x26, x27, x28, _, _, x31, x32, rfl, h.same 11 _ (.con (.int .i64 (16 * a + b))) (by rw [HV.out]; rfl) rfl⟩
        · obtain rfl : x30 = .int .i64 (16 * a + b) := h.get 11 (hw _ rfl ⟨11, .data⟩ (by simp) rfl) (.con (.int .i64 (16 * a + b))) (by rw [HV.out]; rfl) _ rfl
          refine wpOp_step rfl fun K hK => ?_
          go_simp
          exact hK _ _ ⟨x19, x20, x21, x22, x23, x24, x25, x26, x27, x28, x29, _, _, x32, rfl, h.same 12 _ (.con (.int .u8 (a * 16 + b))) (by rw [HV.out]; rfl) rfl⟩
        · obtain rfl : x31 = .int .u8 (a * 16 + b) := h.get 12 (hw _ rfl ⟨12, .data⟩ (by simp) rfl) (.con (.int .u8 (a * 16 + b))) (by rw [HV.out]; rfl) _ rfl
          refine wpOp_step rfl fun K hK => ?_
          go_simp
          exact hK _ _ ⟨x19, x20, x21, x22, x23, x24, x25, x26, x27, x28, x29, x30, _, _, rfl, h.new _ 13 _ (.row wr.heap.size 1 5 #[.int .u8 (a * 16 + b)]) (by rw [HV.out]; rfl) (IsRow.made _ h.1.size)⟩
        · omega
      case last =>
        rintro d a' w' hall ⟨x19, x20, x21, x22, x23, x24, x25, x26, x27, x28, x29, x30, x31, x32, rfl, h⟩
        have hle := h.1
        obtain rfl : x19 = u4 := h.get 0 (hall _ (by omega)) (.con (u4)) (by rw [HV.out]; rfl) _ rfl
        obtain ⟨b32, k32, rfl, m32⟩ := h.get 13 (hall _ (by omega)) (.row wr.heap.size 1 5 #[.int .u8 (a * 16 + b)]) (by rw [HV.out]; rfl) _ rfl
        have HLE := Lib.hid hle
        clear h hall hle HV
        have HO2 := Lib.hid (owns_below HO.out HLE.out)
        have HW1 := Lib.hid (World.news_of_block m32)
        have hk1 : k + 1 ≤ maxLen := by unfold maxLen; omega
        have hk3 : w.heap.size ≤ w'.heap.size := by have := HB.out.size; have := HLE.out.size; omega
        clear k32 m32
        refine wpList_append_lies _ rfl (.tmp 19) (.tmp 32) 108 rfl w.heap.size 5 i0 _ 1 1 Tryz.underlying108 hi hz0 hz1 hz2 rfl (by decide) _ k (Lib.byteCells (hexDec (s.data.toList.take (2 * k)))) rfl HO2.out ⟨b32, 0, none⟩ 1 1 (Array.toList #[.int .u8 (a * 16 + b)]) rfl rfl HW1.out (by simp [Value.oneCell']) (by decide) hk1 (by omega) hk3 _ rfl ?_
        intro g gc w7 ho7 hg7 hat7 hlt7
        have HO7 := Lib.hid ho7
        have HG7 := Lib.hid hg7
        clear ho7 hg7 hat7 hlt7
        go_wp2
        go_roundw
        case rel =>
          refine ⟨k + 1, by have := HKA.out; omega, by have := HIA.out; go_num, by rw [HSS.out]; exact HO7.out, ?_⟩
          exact below_grown (HB.out.trans (HLE.out.mono HB.out.size)) hk3 HG7.out (fun b hb => (HO2.out.lt b hb).1)
        case measure => have := HKA.out; simp [intOf]; omega
    · have hks : 2 * k = s.size := by omega
      have hcv := run_convert_owned (P := Tryz.prog) 108 9 5 Tryz.underlying108 Tryz.underlying5 Tryz.underlying9 HO.out
      rw [List.take_of_length_le (by rw [toList_length]; omega)] at hcv
      go_wp2
      go_ret2
      exact ⟨by rw [HE.out.1, HE.out.2] <;> rfl, HB.out⟩

end Go.Proofs.YtaekmmnpdbmoeaaGreatDoor

namespace Go.Proofs.YtaekmmnpdbmoeaaGreatDoor
open Go.RowKit

/-- A row that bears the mark of a conversion behind its end. -/
def MarkRow (w : World) (g T n : Nat) (f : Nat → Value) : Prop := ∃ (C : Array Value) (m : Nat), w.heap[g]? = some (.cells C T (m, m + 1)) ∧ n ≤ m ∧ n ≤ C.size ∧ ∀ j, j < n → C[j]? = some (f j)
section
variable {w w' : World} {g T n : Nat} {f : Nat → Value}
theorem MarkRow.cell (h : MarkRow w g T n f) {j : Nat} (hj : j < n) : w.cell? ⟨g, j, none⟩ = some (f j) := by
  obtain ⟨C, m, h1, _, h2, h3⟩ := h
  simp only [World.cell?, h1]
  exact h3 j hj
theorem MarkRow.frozen (h : MarkRow w g T n f) {j : Nat} (hj : j < n) : w.frozen? ⟨g, j, none⟩ = false := by
  obtain ⟨C, m, h1, h2, _, h3⟩ := h
  simp only [World.frozen?, h1]
  simp; omega
theorem MarkRow.set (h : MarkRow w g T n f) {k : Nat} (hk : k < n) (v : Value) : MarkRow (w.setCell ⟨g, k, none⟩ v) g T n (fun j => if j = k then v else f j) := by
  obtain ⟨C, m, h1, h2, h2', h3⟩ := h
  refine ⟨C.setIfInBounds k v, m, by simp [World.setCell, Array.getElem?_modify, h1], h2, by rw [Array.size_setIfInBounds]; exact h2', fun j hj => ?_⟩
  rw [Array.getElem?_setIfInBounds]
  by_cases e : k = j
  · subst e; rw [if_pos rfl, if_pos (by omega)]; show some v = some (if k = k then v else f k); rw [if_pos rfl]
  · rw [if_neg e, h3 j hj]; show some (f j) = some (if j = k then v else f j); rw [if_neg (Ne.symm e)]
theorem MarkRow.congr {f' : Nat → Value} (h : MarkRow w g T n f) (e : ∀ j, j < n → f j = f' j) : MarkRow w g T n f' := by
  obtain ⟨C, m, h1, h2, h2', h3⟩ := h
  exact ⟨C, m, h1, h2, h2', fun j hj => by rw [h3 j hj, e j hj]⟩
theorem MarkRow.made (w : World) (s : ByteArray) (cap T : Nat) : MarkRow (w.drew.alloc (.cells (bytesRow s cap) T ((bytesRow s cap).size, (bytesRow s cap).size + 1))) w.heap.size T s.size (fun j => .int .u8 (byteI s.data.toList j)) := by
  have hz : s.size ≤ (bytesRow s cap).size := by
    unfold bytesRow
    rw [Array.size_append, Array.size_map]
    show s.data.size ≤ _; omega
  refine ⟨bytesRow s cap, _, ?_, hz, hz, fun j hj => ?_⟩
  · show (w.heap.push _)[w.heap.size]? = _
    rw [Array.getElem?_push_size]
  · unfold bytesRow
    have hj' : j < s.data.size := hj
    rw [Array.getElem?_append_left (by rw [Array.size_map]; exact hj')]
    show _ = some (Value.int .u8 (byteI s.data.toList j))
    rw [byteI_lt _ _ (by rw [Array.length_toList]; exact hj'), Array.getElem?_map, Array.getElem?_eq_getElem hj']
    simp
end

set_option maxHeartbeats 1000000 in
theorem ref03Block (key : ByteArray) (w : World) (hs : key.size ≤ 1099511627000) :
    Calls Tryz.prog 97 #[.string key] w fun e w' => e = .returned (.string ⟨(macBlk key.data.toList).toArray⟩) ∧ Below w.heap.size w w' := by
  have HS := Lib.hid (refSum key w hs)
  obtain ⟨z, hz⟩ : ∃ z, z = key.size := ⟨_, rfl⟩
  obtain ⟨BK, hBK⟩ : ∃ BK : ByteArray, BK = ⟨(macBlk key.data.toList).toArray⟩ := ⟨_, rfl⟩
  rw [← hBK]
  have HBK := Lib.hid (show BK.data.toList = macBlk key.data.toList by rw [hBK])
  clear hBK
  by_cases h64 : 64 < key.size
  · have HM := Lib.hid (show macBlk key.data.toList = shaSum key.data.toList ++ List.replicate (64 - (shaSum key.data.toList).length) 0 by unfold macBlk; rw [if_pos (by rw [toList_length]; exact h64)])
    have HL := Lib.hid (shaSum_length key.data.toList)
    obtain ⟨r, hr⟩ : ∃ r, r = shaSum key.data.toList := ⟨_, rfl⟩
    rw [← hr] at HS HM HL
    clear hr
    have d1 : (64 : Int) < (key.size : Int) := by omega
    go_enter Tryz.func97, Tryz.ntmps97
    go_wp2_with fail
    refine HS.out.mono ?_
    clear HS
    rintro e w1 ⟨rfl, hb1⟩
    have HB1 := Lib.hid hb1
    clear hb1
    go_wp2
    go_loop [0] (fun v => ∃ (t : ByteArray) (j : Nat), v = .string t ∧ t.data.toList = r ++ List.replicate j 0 ∧ t.size = 32 + j ∧ j ≤ 32) (fun v => 64 - strLen v)
    case atStart => exact ⟨_, 0, rfl, by simp, by show r.toArray.size = 32; rw [List.size_toArray, HL.out], by omega⟩
    case round =>
      obtain ⟨t, j, rfl, ht, htz, hj⟩ := hrel
      have HTT := Lib.hid ht
      clear ht
      by_cases hlt : j < 32
      · have d2 : (t.size : Int) < 64 := by omega
        go_wp2
        go_round
        case rel => exact ⟨_, j + 1, rfl, by rw [app_list, HTT.out, List.append_assoc]; exact congrArg (r ++ ·) (List.replicate_succ' ).symm, by rw [ByteArray.size_append]; show t.size + 1 = _; omega, by omega⟩
        case measure =>
          show 64 - (t ++ ⟨#[0]⟩ : ByteArray).size < 64 - t.size
          rw [ByteArray.size_append]
          show 64 - (t.size + 1) < _
          omega
      · have d2 : ¬ ((t.size : Int) < 64) := by omega
        have HE := Lib.hid (show t = BK from ba_ext (by rw [ByteArray.toList_eq, ByteArray.toList_eq, HTT.out, HBK.out, HM.out, HL.out]; rw [show j = 32 by omega]))
        clear htz hj hlt
        go_wp2
        go_ret
        exact ⟨congrArg (fun z => Ending.returned (.string z)) HE.out, HB1.out⟩
  · have HM := Lib.hid (show macBlk key.data.toList = key.data.toList ++ List.replicate (64 - key.data.toList.length) 0 by unfold macBlk; rw [if_neg (by rw [toList_length]; exact h64)])
    have HL := Lib.hid (toList_length key)
    have HZ := Lib.hid hz
    clear hz
    have d1 : ¬ ((64 : Int) < (key.size : Int)) := by omega
    go_enter Tryz.func97, Tryz.ntmps97
    go_wp2
    go_loop [0] (fun v => ∃ (t : ByteArray) (j : Nat), v = .string t ∧ t.data.toList = key.data.toList ++ List.replicate j 0 ∧ t.size = key.size + j ∧ t.size ≤ 64) (fun v => 64 - strLen v)
    case atStart => exact ⟨_, 0, rfl, by simp, rfl, by omega⟩
    case round =>
      obtain ⟨t, j, rfl, ht, htz, hj⟩ := hrel
      have HTT := Lib.hid ht
      clear ht
      by_cases hlt : t.size < 64
      · have d2 : (t.size : Int) < 64 := by omega
        go_wp2
        go_round
        case rel => exact ⟨_, j + 1, rfl, by rw [app_list, HTT.out, List.append_assoc]; exact congrArg (key.data.toList ++ ·) (List.replicate_succ' ).symm, by rw [ByteArray.size_append]; show t.size + 1 = _; omega, by rw [ByteArray.size_append]; show t.size + 1 ≤ _; omega⟩
        case measure =>
          show 64 - (t ++ ⟨#[0]⟩ : ByteArray).size < 64 - t.size
          rw [ByteArray.size_append]
          show 64 - (t.size + 1) < _
          omega
      · have d2 : ¬ ((t.size : Int) < 64) := by omega
        have HE := Lib.hid (show t = BK from ba_ext (by rw [ByteArray.toList_eq, ByteArray.toList_eq, HTT.out, HBK.out, HM.out, HL.out]; rw [show j = 64 - key.size by omega]))
        clear htz hj hlt
        go_wp2
        go_ret
        exact ⟨congrArg (fun z => Ending.returned (.string z)) HE.out, Below.refl _ _⟩

set_option maxRecDepth 100000 in
set_option maxHeartbeats 1000000 in
theorem ref03Combined (s : ByteArray) (x : UInt8) (n : Int) (w : World) (hx : ∀ c : UInt8, bits BinOp.xor IntKind.u8 (c.toNat : Int) n = ((c ^^^ x).toNat : Int)) (hs : s.size = 64) :
    Calls Tryz.prog 98 #[.string s, .int .u8 n] w fun e w' => e = .returned (.string ⟨(macX x s.data.toList).toArray⟩) ∧ Below w.heap.size w w' := by
  have hcv := run_bytes_of_string (P := Tryz.prog) w 9 108 5 s Tryz.underlying9 Tryz.underlying108 Tryz.underlying5
  obtain ⟨cap, hcap⟩ : ∃ cap, cap = grownCap w s.size 0 5 := ⟨_, rfl⟩
  rw [← hcap] at hcv
  have HM := Lib.hid (MarkRow.made w s cap 5)
  have HSL := Lib.hid (toList_length s)
  have HXX := Lib.hid hx
  clear hx
  obtain ⟨W1, hW1⟩ : ∃ W1, W1 = w.drew.alloc (.cells (bytesRow s cap) 5 ((bytesRow s cap).size, (bytesRow s cap).size + 1)) := ⟨_, rfl⟩
  have HB1 := Lib.hid (show Below w.heap.size w W1 by rw [hW1]; exact (show Below w.heap.size w w.drew from ⟨rfl, rfl, rfl, Nat.le_refl _, fun _ _ => rfl⟩).alloc (Nat.le_refl _) _)
  rw [← hW1] at HM hcv
  rw [hs] at hcv HM
  clear hW1 hcap
  go_enter Tryz.func98, Tryz.ntmps98
  go_wp2
  go_loopw [6] (fun i wr => ∃ k : Nat, k ≤ 64 ∧ i = .int .i64 k ∧ MarkRow wr w.heap.size 5 64 (fun j => .int .u8 (if j < k then byteI (macX x s.data.toList) j else byteI s.data.toList j)) ∧ Below w.heap.size w wr) (fun i _ => 64 - (intOf i).toNat)
  case atStart => exact ⟨0, by omega, rfl, HM.out.congr fun j hj => by rw [if_neg (by omega)], HB1.out⟩
  case round =>
    obtain ⟨k, hk, rfl, hrow, hbel⟩ := hrel
    by_cases hlt : k < 64
    · have hkl : k < s.data.toList.length := by rw [HSL.out, hs]; exact hlt
      have c0 := hrow.cell (j := k) hlt
      simp only [Nat.lt_irrefl, if_false] at c0
      rw [byteI_lt _ k hkl] at c0
      have s0 := hrow.frozen (j := k) hlt
      have HR := Lib.hid hrow
      have HB := Lib.hid hbel
      have HX := Lib.hid (byteI_macX x s.data.toList k hkl)
      obtain ⟨c, hc⟩ : ∃ c, c = s.data.toList[k] := ⟨_, rfl⟩
      rw [← hc] at c0 HX
      have hxr := HXX.out c
      clear hrow hbel hc HM HB1
      have m0 : (k : Int) < 64 := by omega
      go_wp2
      go_roundw
      case rel =>
        refine ⟨k + 1, by omega, by go_num, (HR.out.set hlt _).congr fun j hj => ?_, HB.out.setCell (Nat.le_refl _) _⟩
        by_cases e : j = k
        · subst e; rw [if_pos rfl, if_pos (by omega), HX.out]; simp
        · rw [if_neg e]; by_cases e' : j < k
          · rw [if_pos e', if_pos (by omega)]
          · rw [if_neg e', if_neg (by omega)]
      case measure => simp [intOf]; omega
    · have m0 : ¬ (k : Int) < 64 := by omega
      have hk64 : k = 64 := by omega
      have hcv2 := run_convert_bytes_back (P := Tryz.prog) wr 108 9 5 ⟨w.heap.size, 0, none⟩ cap (macX x s.data.toList) Tryz.underlying108 Tryz.underlying5 Tryz.underlying9 fun j hj => by
        rw [macX_length, HSL.out, hs] at hj
        have := hrow.cell (j := j) hj
        replace this : wr.cell? ⟨w.heap.size, j, none⟩ = some (.int .u8 (if j < k then byteI (macX x s.data.toList) j else byteI s.data.toList j)) := this
        rw [if_pos (by omega), byteI_lt _ _ (by rw [macX_length, HSL.out, hs]; exact hj)] at this
        have ea : (⟨w.heap.size, 0, none⟩ : Addr).add j = ⟨w.heap.size, j, none⟩ := by unfold Addr.add; split <;> simp_all
        rw [ea]; exact this
      rw [macX_length, HSL.out, hs] at hcv2
      have HB := Lib.hid hbel
      clear hrow hbel HM HB1 hcv
      go_wp2
      go_ret
      exact ⟨rfl, HB.out⟩

set_option maxRecDepth 100000 in
theorem ref03Of (key s : ByteArray) (w : World) (hk : key.size ≤ 1099511627000) (hs : s.size ≤ 1099511620000) :
    Calls Tryz.prog 69 #[.string key, .string s] w fun e w' => e = .returned (.string ⟨(macL key.data.toList s.data.toList).toArray⟩) ∧ Below w.heap.size w w' := by
  have HBK := Lib.hid (ref03Block key w hk)
  obtain ⟨B, hB⟩ : ∃ B : ByteArray, B = ⟨(macBlk key.data.toList).toArray⟩ := ⟨_, rfl⟩
  have hBl : B.data.toList = macBlk key.data.toList := by rw [hB]
  have hBz : B.size = 64 := by rw [← toList_length, hBl, macBlk_length]
  rw [← hB] at HBK
  have HC1 := Lib.hid (fun w' => ref03Combined B 0x5c 92 w' xor5c hBz)
  have HC2 := Lib.hid (fun w' => ref03Combined B 0x36 54 w' xor36 hBz)
  have HML := Lib.hid (show macL key.data.toList s.data.toList = shaSum (macX 0x5c B.data.toList ++ shaSum (macX 0x36 B.data.toList ++ s.data.toList)) by rw [hBl]; rfl)
  have HZ1 := Lib.hid (show (macX 0x5c B.data.toList).length = 64 by rw [macX_length, toList_length, hBz])
  have HZ2 := Lib.hid (show (macX 0x36 B.data.toList).length = 64 by rw [macX_length, toList_length, hBz])
  obtain ⟨C1, hC1⟩ : ∃ C1 : ByteArray, C1 = ⟨(macX 0x5c B.data.toList).toArray⟩ := ⟨_, rfl⟩
  obtain ⟨C2, hC2⟩ : ∃ C2 : ByteArray, C2 = ⟨(macX 0x36 B.data.toList).toArray⟩ := ⟨_, rfl⟩
  have hC1l : C1.data.toList = macX 0x5c B.data.toList := by rw [hC1]
  have hC2l : C2.data.toList = macX 0x36 B.data.toList := by rw [hC2]
  have hC1z : C1.size = 64 := by rw [← toList_length, hC1l, HZ1.out]
  have hC2z : C2.size = 64 := by rw [← toList_length, hC2l, HZ2.out]
  rw [← hC1] at HC1
  rw [← hC2] at HC2
  rw [← hC1l, ← hC2l] at HML
  clear hB hBl hBz HZ1 HZ2 hC1 hC2 hC1l hC2l
  have HS1 := Lib.hid (fun w' => refSum (C2 ++ s) w' (by rw [ByteArray.size_append]; omega))
  obtain ⟨I, hI⟩ : ∃ I : ByteArray, I = ⟨(shaSum (C2 ++ s).data.toList).toArray⟩ := ⟨_, rfl⟩
  have hIl : I.data.toList = shaSum (C2.data.toList ++ s.data.toList) := by rw [hI, ← app_list]
  have hIz : I.size = 32 := by rw [← toList_length, hIl, shaSum_length]
  rw [← hI] at HS1
  have HS2 := Lib.hid (fun w' => refSum (C1 ++ I) w' (by rw [ByteArray.size_append]; omega))
  rw [app_list C1 I, hIl, ← HML.out] at HS2
  clear hI hIl HML
  go_enter Tryz.func69, Tryz.ntmps69
  go_wp2_with fail
  refine HBK.out.mono ?_
  clear HBK
  rintro e w1 ⟨rfl, hb1⟩
  have HB1 := Lib.hid hb1
  clear hb1
  go_wp2_with fail
  refine (HC1.out w1).mono ?_
  rintro e w2 ⟨rfl, hb2⟩
  have HB2 := Lib.hid (HB1.out.trans (hb2.mono HB1.out.size))
  clear hb2
  go_wp2_with fail
  refine (HC2.out w2).mono ?_
  rintro e w3 ⟨rfl, hb3⟩
  have HB3 := Lib.hid (HB2.out.trans (hb3.mono HB2.out.size))
  clear hb3
  go_wp2_with fail
  refine (HS1.out w3).mono ?_
  rintro e w4 ⟨rfl, hb4⟩
  have HB4 := Lib.hid (HB3.out.trans (hb4.mono HB3.out.size))
  clear hb4
  go_wp2_with fail
  refine (HS2.out w4).mono ?_
  rintro e w5 ⟨rfl, hb5⟩
  have HB5 := Lib.hid (HB4.out.trans (hb5.mono HB4.out.size))
  clear hb5
  go_wp2
  go_ret
  exact ⟨rfl, HB5.out⟩

end Go.Proofs.YtaekmmnpdbmoeaaGreatDoor

namespace Go.Proofs.YtaekmmnpdbmoeaaGreatDoor
open Go.RowKit

theorem eq_yes {a b : ByteArray} (h : a = b) : (a.toList == b.toList) = true := by rw [h]; exact beq_self_eq_true _
theorem eq_no {a b : ByteArray} (h : a ≠ b) : (a.toList == b.toList) = false := by rw [beq_eq_false_iff_ne]; exact fun e => h (ba_ext e)

theorem ref15Digest (s : ByteArray) (w : World) (hs : s.size ≤ 9223372036854775807) :
    Calls Tryz.prog 104 #[.string s] w fun e w' => e = .returned (.bool (hex64 s)) ∧ w = w' := by
  by_cases h : s.size = 64
  · have d : ((s.size : Int) == 64) = true := by rw [h]; rfl
    have HF := Lib.hid (show hex64 s = allHex s.data.toList by unfold hex64; rw [decide_eq_true h, Bool.true_and])
    have HI := Lib.hid (ref01Is s w hs)
    clear h
    go_enter Tryz.func104, Tryz.ntmps104
    go_wp2_with fail
    refine HI.out.mono ?_
    rintro e w1 ⟨rfl, rfl⟩
    go_wp2
    go_ret
    exact ⟨ret_bool HF.out.symm, rfl⟩
  · have d : ((s.size : Int) == 64) = false := by simp only [beq_eq_false_iff_ne]; omega
    have HF := Lib.hid (show hex64 s = false by unfold hex64; rw [decide_eq_false h, Bool.false_and])
    clear h
    go_enter Tryz.func104, Tryz.ntmps104
    go_wp2
    go_ret
    exact ⟨ret_bool HF.out.symm, rfl⟩

theorem ids_bad {l : List ByteArray} {k : Nat} (h : k < l.length) (he : idsErr [] l = idsErr (l.take k) (l.drop k)) (hb : hex64 l[k] = false) : idsErr [] l = 3 := by
  rw [he, List.drop_eq_getElem_cons h, idsErr, hb]; rfl
theorem ids_twice {l : List ByteArray} {k j : Nat} (h : k < l.length) (hj : j < k) (he : idsErr [] l = idsErr (l.take k) (l.drop k)) (hb : hex64 l[k] = true) (e : l[j] = l[k]) : idsErr [] l = 7 := by
  have hm : hasId (l.take k) l[k] = true := by
    rw [hasId_iff, List.mem_take_iff_getElem]
    exact ⟨j, by omega, e⟩
  rw [he, List.drop_eq_getElem_cons h, idsErr, hb, hm]; rfl
theorem ids_next {l : List ByteArray} {k : Nat} (h : k < l.length) (he : idsErr [] l = idsErr (l.take k) (l.drop k)) (hb : hex64 l[k] = true) (hn : ∀ j (hj : j < k), l[j] ≠ l[k]) : idsErr [] l = idsErr (l.take (k + 1)) (l.drop (k + 1)) := by
  have hm : hasId (l.take k) l[k] = false := by
    rw [Bool.eq_false_iff]
    intro h2
    rw [hasId_iff, List.mem_take_iff_getElem] at h2
    obtain ⟨j, hj, e⟩ := h2
    exact hn j (by omega) e
  rw [he, List.drop_eq_getElem_cons h, idsErr, hb, hm, if_pos rfl, if_neg (by simp), List.take_succ_eq_append_getElem h]

set_option maxRecDepth 100000 in
set_option maxHeartbeats 1000000 in
theorem ref15Ids (l : List ByteArray) (a : Option Addr) (c : Nat) (w : World) (hS : StrsAt w 0 w.heap.size a l) (hs : ∀ s ∈ l, s.size ≤ 9223372036854775807) (hl : l.length ≤ 9223372036854775807) :
    Calls Tryz.prog 78 #[.slice a l.length c] w fun e w' => e = .returned (.int .i64 (if l.length = 0 then 4 else idsErr [] l)) ∧ Below w.heap.size w w' := by
  by_cases h0 : l.length = 0
  · have d : ((l.length : Int) == 0) = true := by rw [h0]; rfl
    obtain ⟨E, hE⟩ : ∃ E, E = (if l.length = 0 then 4 else idsErr [] l) := ⟨_, rfl⟩
    rw [← hE]
    have HE := Lib.hid (show E = 4 by rw [hE, if_pos h0])
    clear hE
    go_enter Tryz.func78, Tryz.ntmps78
    go_wp2
    go_ret
    exact ⟨ret_int HE.out.symm, Below.refl _ _⟩
  have d : ((l.length : Int) == 0) = false := by simp only [beq_eq_false_iff_ne]; omega
  rw [if_neg h0]
  have HS := Lib.hid hS
  have HZ := Lib.hid hs
  clear hS hs h0
  go_enter Tryz.func78, Tryz.ntmps78
  go_wp2
  go_loopw [3, 4] (fun i _ wr => ∃ k : Nat, k ≤ l.length ∧ i = .int .i64 k ∧ idsErr [] l = idsErr (l.take k) (l.drop k) ∧ Below w.heap.size w wr) (fun i _ _ => l.length - (intOf i).toNat)
  case atStart => exact ⟨0, Nat.zero_le _, rfl, by simp, Below.refl _ _⟩
  case round =>
    obtain ⟨k, hk, rfl, he, hbel⟩ := hrel
    have HE := Lib.hid he
    have HB := Lib.hid hbel
    clear he hbel
    by_cases hlt : k < l.length
    · have m1 : (k : Int) < (l.length : Int) := by omega
      have m0 : (0 : Int) ≤ (k : Int) := by omega
      obtain ⟨b, off, ha, _, hb, e0⟩ := HS.out.at k hlt
      subst ha
      have HD := Lib.hid (ref15Digest l[k] wr (HZ.out _ (List.getElem_mem hlt)))
      have HAT := Lib.hid (fun (j : Nat) (hj : j < l.length) => HS.out.at j hj)
      obtain ⟨x, hx⟩ : ∃ x, x = l[k] := ⟨_, rfl⟩
      obtain ⟨g, hg⟩ : ∃ g, g = hex64 l[k] := ⟨_, rfl⟩
      rw [← hg, ← hx] at HD
      rw [← hx] at e0
      have HX := Lib.hid hx
      have HG := Lib.hid hg
      have HCE := Lib.hid (show ∀ w' : World, Below w.heap.size w w' → w'.cell? ⟨b, off + k, none⟩ = some (.string x) from fun w' h => (World.cell?_of_block (w := w) (h.block b hb)).trans e0)
      clear hx hg e0
      have e0 := HCE.out wr HB.out
      cases g
      · have HF := Lib.hid (ids_bad hlt HE.out HG.out.symm)
        go_wp2_with fail
        refine HD.out.mono ?_
        rintro e w1 ⟨rfl, rfl⟩
        go_wp2
        go_ret
        exact ⟨ret_int HF.out.symm, HB.out⟩
      go_wp2_with fail
      refine HD.out.mono ?_
      clear HD
      rintro e w1 ⟨rfl, rfl⟩
      clear e0
      go_wp2
      go_loopw [4] (fun i wi => ∃ j : Nat, j ≤ k ∧ i = .int .i64 j ∧ (∀ q (hq : q < j) (hq2 : q < l.length), l[q] ≠ x) ∧ Below w.heap.size w wi) (fun i _ => k - (intOf i).toNat)
      case atStart => exact ⟨0, Nat.zero_le _, rfl, (fun q hq => by omega), HB.out⟩
      case round =>
        obtain ⟨j, hj, rfl, hn, hbel⟩ := hrel
        have HNE := Lib.hid hn
        have HB2 := Lib.hid hbel
        clear hn hbel HB
        by_cases hjk : j < k
        · have m2 : (j : Int) < (k : Int) := by omega
          have m3 : (0 : Int) ≤ (j : Int) := by omega
          have m4 : (j : Int) < (l.length : Int) := by omega
          obtain ⟨b2, off2, ha2, _, hb2, f0⟩ := HAT.out j (by omega)
          simp only [Option.some.injEq, Addr.mk.injEq, and_true] at ha2
          obtain ⟨rfl, rfl⟩ := ha2
          have e0 := HCE.out _ HB2.out
          replace f0 := (World.cell?_of_block (w := w) (HB2.out.block b hb2)).trans f0
          obtain ⟨y, hy⟩ : ∃ y, y = l[j] := ⟨_, rfl⟩
          rw [← hy] at f0
          have HY := Lib.hid hy
          clear hy
          by_cases hxy : y = x
          · have q1 := eq_yes hxy
            have HXY := Lib.hid hxy
            have HF := Lib.hid (ids_twice hlt hjk HE.out HG.out.symm (by rw [← HY.out, ← HX.out]; exact hxy))
            clear hxy
            go_upto_region 11 with fail
            go_quiet (fail)
            go_wp2
            go_ret
            exact ⟨ret_int HF.out.symm, Below.drewN HB2.out _⟩
          · have q1 := eq_no hxy
            have HXY := Lib.hid hxy
            clear hxy
            go_upto_region 11 with fail
            go_quiet (fail)
            go_wp2
            go_roundw
            case rel =>
              refine ⟨j + 1, by omega, by go_num, fun q hq hq2 => ?_, Below.drewN HB2.out _⟩
              by_cases e : q = j
              · subst e; rw [← HY.out]; exact HXY.out
              · exact HNE.out q (by omega) hq2
            case measure => simp [intOf]; omega
        · obtain rfl : j = k := by omega
          have m2 : ¬ ((j : Int) < (j : Int)) := by omega
          go_wp2
          go_roundw
          case rel => exact ⟨j + 1, by omega, by go_num, ids_next hlt HE.out HG.out.symm fun q hq => by rw [← HX.out]; exact HNE.out q hq (by omega), HB2.out⟩
          case measure => simp [intOf]; omega
    · obtain rfl : k = l.length := by omega
      have HF := Lib.hid (show idsErr [] l = 0 by rw [HE.out, List.drop_length]; rfl)
      go_wp2
      go_ret
      exact ⟨ret_int HF.out.symm, HB.out⟩

set_option maxRecDepth 100000 in
set_option maxHeartbeats 1000000 in
theorem ref15May (t : Int) (l : List ByteArray) (a : Option Addr) (c : Nat) (w : World) (hS : StrsAt w 0 w.heap.size a l) (hs : ∀ s ∈ l, s.size ≤ 9223372036854775807) (hl : l.length ≤ 9223372036854775807) :
    Calls Tryz.prog 51 #[.agg #[.int .i64 t, .slice a l.length c]] w fun e w' => e = .returned (.bool (authOk t l)) ∧ Below w.heap.size w w' := by
  have HB0 := Lib.hid (show Below w.heap.size w (w.alloc (.cells #[.int .i64 t, .slice a l.length c] 49)) from (Below.refl _ _).alloc (Nat.le_refl _) _)
  by_cases h2 : 16 < l.length
  · have HF := Lib.hid (authOk_no (t := t) (l := l) (by omega))
    have d2 : ¬ ((l.length : Int) ≤ 16) := by omega
    go_enter Tryz.func51, Tryz.ntmps51
    go_wp2
    go_ret
    exact ⟨ret_bool HF.out.symm, HB0.out⟩
  have d2 : (l.length : Int) ≤ 16 := by omega
  have HI := Lib.hid (ref15Ids l a c _ (hS.below HB0.out (Nat.le_refl _) (Nat.le_refl _) (by simp)) hs hl)
  obtain ⟨E, hE⟩ : ∃ E, E = (if l.length = 0 then 4 else idsErr [] l) := ⟨_, rfl⟩
  rw [← hE] at HI
  have HE := Lib.hid hE
  clear hE hS hs
  by_cases hE0 : E = 0
  · have d0 : (E == 0) = true := by rw [hE0]; rfl
    have HE2 := Lib.hid (show l.length ≠ 0 ∧ idsErr [] l = 0 by
      have := HE.out
      rw [hE0] at this
      split at this
      · cases this
      · exact ⟨by assumption, this.symm⟩)
    clear hE0
    by_cases h3 : 1 ≤ t
    · by_cases h4 : t ≤ (l.length : Int)
      · have HF := Lib.hid (show authOk t l = true by unfold authOk; rw [HE2.out.2]; have := HE2.out.1; simp; omega)
        have d4 : decide (t ≤ (l.length : Int)) = true := by simp; omega
        go_enter Tryz.func51, Tryz.ntmps51
        go_wp2_with fail
        refine HI.out.mono ?_
        rintro e w1 ⟨rfl, hb1⟩
        have HB1 := Lib.hid (HB0.out.trans (hb1.mono HB0.out.size))
        have hx1 := (hb1.block w.heap.size (by simp)).trans (heap_alloc_new w (.cells #[.int .i64 t, .slice a l.length c] 49))
        have c0 : w1.cell? ⟨w.heap.size, 0, none⟩ = some (.int .i64 t) := box_cell hx1 rfl
        have c1 : w1.cell? ⟨w.heap.size, 1, none⟩ = some (.slice a l.length c) := box_cell hx1 rfl
        clear hb1 hx1
        go_wp2
        go_ret
        exact ⟨ret_bool HF.out.symm, HB1.out⟩
      · have HF := Lib.hid (authOk_no (t := t) (l := l) (by omega))
        have d4 : decide (t ≤ (l.length : Int)) = false := by simp; omega
        go_enter Tryz.func51, Tryz.ntmps51
        go_wp2_with fail
        refine HI.out.mono ?_
        rintro e w1 ⟨rfl, hb1⟩
        have HB1 := Lib.hid (HB0.out.trans (hb1.mono HB0.out.size))
        have hx1 := (hb1.block w.heap.size (by simp)).trans (heap_alloc_new w (.cells #[.int .i64 t, .slice a l.length c] 49))
        have c0 : w1.cell? ⟨w.heap.size, 0, none⟩ = some (.int .i64 t) := box_cell hx1 rfl
        have c1 : w1.cell? ⟨w.heap.size, 1, none⟩ = some (.slice a l.length c) := box_cell hx1 rfl
        clear hb1 hx1
        go_wp2
        go_ret
        exact ⟨ret_bool HF.out.symm, HB1.out⟩
    · have HF := Lib.hid (authOk_no (t := t) (l := l) (by omega))
      go_enter Tryz.func51, Tryz.ntmps51
      go_wp2_with fail
      refine HI.out.mono ?_
      rintro e w1 ⟨rfl, hb1⟩
      have HB1 := Lib.hid (HB0.out.trans (hb1.mono HB0.out.size))
      have hx1 := (hb1.block w.heap.size (by simp)).trans (heap_alloc_new w (.cells #[.int .i64 t, .slice a l.length c] 49))
      have c0 : w1.cell? ⟨w.heap.size, 0, none⟩ = some (.int .i64 t) := box_cell hx1 rfl
      have c1 : w1.cell? ⟨w.heap.size, 1, none⟩ = some (.slice a l.length c) := box_cell hx1 rfl
      clear hb1 hx1
      go_wp2
      go_ret
      exact ⟨ret_bool HF.out.symm, HB1.out⟩
  · have d0 : (E == 0) = false := by rw [beq_eq_false_iff_ne]; exact hE0
    have HF := Lib.hid (show authOk t l = false by
      by_cases hz : l.length = 0
      · exact authOk_no (by omega)
      · have := HE.out
        rw [if_neg hz] at this
        unfold authOk
        rw [decide_eq_false (p := idsErr [] l = 0) (by rw [← this]; exact hE0), Bool.and_false])
    clear hE0
    go_enter Tryz.func51, Tryz.ntmps51
    go_wp2_with fail
    refine HI.out.mono ?_
    rintro e w1 ⟨rfl, hb1⟩
    have HB1 := Lib.hid (HB0.out.trans (hb1.mono HB0.out.size))
    have hx1 := (hb1.block w.heap.size (by simp)).trans (heap_alloc_new w (.cells #[.int .i64 t, .slice a l.length c] 49))
    have c0 : w1.cell? ⟨w.heap.size, 0, none⟩ = some (.int .i64 t) := box_cell hx1 rfl
    have c1 : w1.cell? ⟨w.heap.size, 1, none⟩ = some (.slice a l.length c) := box_cell hx1 rfl
    clear hb1 hx1
    go_wp2
    go_ret
    exact ⟨ret_bool HF.out.symm, HB1.out⟩

theorem ref16Sig (i g : ByteArray) (w : World) (hi : i.size ≤ 9223372036854775807) (hg : g.size ≤ 9223372036854775807) :
    Calls Tryz.prog 100 #[.agg #[.string i, .string g]] w fun e w' => e = .returned (.bool (sigOk (i, g))) ∧ Below w.heap.size w w' := by
  have HB0 := Lib.hid (show Below w.heap.size w (w.alloc (.cells #[.string i, .string g] 26)) from (Below.refl _ _).alloc (Nat.le_refl _) _)
  have HD := Lib.hid (fun w' => ref15Digest i w' hi)
  have HX := Lib.hid (fun w' => ref14Hex g w' hg)
  have HF := Lib.hid (show sigOk (i, g) = (hex64 i && pubOk g.data.toList) from rfl)
  obtain ⟨d, hd⟩ : ∃ d, d = hex64 i := ⟨_, rfl⟩
  rw [← hd] at HD HF
  clear hd
  cases d
  · go_enter Tryz.func100, Tryz.ntmps100
    go_wp2_with fail
    refine (HD.out _).mono ?_
    rintro e w1 ⟨rfl, rfl⟩
    go_wp2
    go_ret
    exact ⟨ret_bool HF.out.symm, HB0.out⟩
  · go_enter Tryz.func100, Tryz.ntmps100
    go_wp2_with fail
    refine (HD.out _).mono ?_
    rintro e w1 ⟨rfl, rfl⟩
    go_wp2_with fail
    refine (HX.out _).mono ?_
    rintro e w1 ⟨rfl, rfl⟩
    go_wp2
    go_ret
    exact ⟨ret_bool HF.out.symm, HB0.out⟩

end Go.Proofs.YtaekmmnpdbmoeaaGreatDoor
