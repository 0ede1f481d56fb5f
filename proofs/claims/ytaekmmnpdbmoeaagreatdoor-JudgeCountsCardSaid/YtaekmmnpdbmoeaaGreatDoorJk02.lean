/- The contracts of legateref01.digit, Encode and Decode. Printed by genref01.py. -/
import Derived.Test.YtaekmmnpdbmoeaaGreatDoorJh16
import Derived.Test.YtaekmmnpdbmoeaaGreatDoorJh15
import Derived.Test.YtaekmmnpdbmoeaaGreatDoorJh13
import Derived.Test.YtaekmmnpdbmoeaaGreatDoorJh03
import Derived.Test.YtaekmmnpdbmoeaaGreatDoorJh22
import Derived.Test.YtaekmmnpdbmoeaaGreatDoorJh07
import Derived.Outline

namespace Go.Proofs.YtaekmmnpdbmoeaaGreatDoor
open Go.RowKit
theorem vq2 {V l : List MP} (h : Hid (V = l)) {j : Nat} {f : MP} (e : l[j]? = some f) : V[j]? = some f := by rw [h.out]; exact e
end Go.Proofs.YtaekmmnpdbmoeaaGreatDoor

namespace Go.Proofs.YtaekmmnpdbmoeaaGreatDoor
open Go.RowKit

theorem u8_hex (n : Nat) (h : n < 16) : ((hexChar n).toNat : Int) = if n < 10 then 48 + (n : Int) else 87 + (n : Int) := by
 have : ∀ m : Fin 16, ((hexChar m.val).toNat : Int) = if m.val < 10 then 48 + (m.val : Int) else 87 + (m.val : Int) := by decide
 exact this ⟨n, h⟩
theorem lit_byte (w : World) (c : UInt8) : (w.alloc (.cells #[.int .u8 c.toNat] 5)).ownsRow w.heap.size 5 1 (.slice (some ⟨w.heap.size, 0, none⟩) 1 1) 1 (Lib.byteCells [c]) :=
 World.ownsRow_lit (base := w.heap.size) (e := 5) (size := 1) w #[.int .u8 c.toNat] 1 (Nat.le_refl _) (by unfold maxLen; omega) rfl
theorem hexEnc_next (s : ByteArray) (k : Nat) (h : k < s.size) (c : Nat) (hc : c = s[k].toNat) :
   (⟨(hexEnc (s.data.toList.take k)).toArray⟩ : ByteArray) ++ ⟨#[hexChar (c / 16)]⟩ ++ ⟨#[hexChar (c % 16)]⟩ = ⟨(hexEnc (s.data.toList.take (k + 1))).toArray⟩ := by
 subst hc
 rw [take_snoc s k h, hexEnc_append]
 apply ba_ext
 simp [ByteArray.toList_eq, ByteArray.data_append, hexEnc]

theorem ref01Digit (n : Nat) (w : World) (h : n < 16) :
   Calls Tryz.prog 96 #[.int .i64 n] w fun e w' => e = .returned (.string ⟨#[hexChar n]⟩) ∧ Below w.heap.size w w' := by
 have hx := u8_hex n h
 have hcv := run_convert_owned (P := Tryz.prog) 108 9 5 Tryz.underlying108 Tryz.underlying5 Tryz.underlying9 (lit_byte w (hexChar n))
 rw [hx] at hcv
 clear hx
 by_cases hn : n < 10
 · rw [if_pos hn] at hcv
   have d1 : (n : Int) < 10 := by omega
   have m1 : IntKind.u8.wrap (48 + (n : Int)) = 48 + (n : Int) := by unfold IntKind.wrap; simp [IntKind.signed, IntKind.bits]; omega
   go_enter Tryz.func96, Tryz.ntmps96
   go_wp2
   go_ret
   exact ⟨rfl, (Below.refl _ _).alloc (Nat.le_refl _) _⟩
 · rw [if_neg hn] at hcv
   have d1 : ¬ ((n : Int) < 10) := by omega
   have m1 : IntKind.u8.wrap (97 + (n : Int) - 10) = 87 + (n : Int) := by unfold IntKind.wrap; simp [IntKind.signed, IntKind.bits]; omega
   go_enter Tryz.func96, Tryz.ntmps96
   go_wp2
   go_ret
   exact ⟨rfl, (Below.refl _ _).alloc (Nat.le_refl _) _⟩

set_option maxRecDepth 100000 in
set_option maxHeartbeats 1000000 in
theorem ref01Encode (s : ByteArray) (w : World) (hs : s.size ≤ 1099511627776) :
   Calls Tryz.prog 68 #[.string s] w fun e w' => e = .returned (.string ⟨(hexEnc s.data.toList).toArray⟩) ∧ Below w.heap.size w w' := by
 go_enter Tryz.func68, Tryz.ntmps68
 go_wp2
 go_loopw [3, 4] (fun v i wr => ∃ k : Nat, k ≤ s.size ∧ i = .int .i64 k ∧ v = .string ⟨(hexEnc (s.data.toList.take k)).toArray⟩ ∧ Below w.heap.size w wr) (fun _ i _ => s.size - (intOf i).toNat)
 case atStart => exact ⟨0, by omega, rfl, rfl, Below.refl _ _⟩
 case round =>
   obtain ⟨k, hk, rfl, rfl, hbel⟩ := hrel
   have HB := Lib.hid hbel; clear hbel
   obtain ⟨T, hT⟩ : ∃ T : ByteArray, T = ⟨(hexEnc (s.data.toList.take k)).toArray⟩ := ⟨_, rfl⟩
   have hTz : T.size ≤ 2199023255552 := by
     rw [hT]; show (hexEnc (s.data.toList.take k)).toArray.size ≤ _
     rw [List.size_toArray, hexEnc_length, List.length_take, toList_length]; omega
   by_cases hlt : k < s.size
   · obtain ⟨c, hc⟩ : ∃ c : UInt8, c = s[k] := ⟨_, rfl⟩
     have HN := Lib.hid (hexEnc_next s k hlt c.toNat (by rw [hc]))
     rw [← hT] at HN ⊢
     have hc2 : c.toNat < 256 := c.toNat_lt
     obtain ⟨q, hq⟩ : ∃ q, q = c.toNat / 16 := ⟨_, rfl⟩
     obtain ⟨r, hr⟩ : ∃ r, r = c.toNat % 16 := ⟨_, rfl⟩
     have HD1 := Lib.hid (fun w' => ref01Digit q w' (by omega))
     have HD2 := Lib.hid (fun w' => ref01Digit r w' (by omega))
     rw [← hq, ← hr] at HN
     obtain ⟨D1, hD1⟩ : ∃ D1 : ByteArray, D1 = ⟨#[hexChar q]⟩ := ⟨_, rfl⟩
     obtain ⟨D2, hD2⟩ : ∃ D2 : ByteArray, D2 = ⟨#[hexChar r]⟩ := ⟨_, rfl⟩
     have hz1 : D1.size = 1 := by rw [hD1]; rfl
     have hz2 : D2.size = 1 := by rw [hD2]; rfl
     rw [← hD1] at HD1 HN
     rw [← hD2] at HD2 HN
     have m5 : IntKind.i64.wrap (c.toNat : Int) = (c.toNat : Int) := IntWalk.i64_in _ (by omega)
     have m6 : IntKind.i64.wrap ((c.toNat : Int) / 16) = (q : Int) := by rw [IntWalk.i64_in _ (by omega)]; omega
     have m7 : IntKind.i64.wrap ((c.toNat : Int).tdiv 16) = (q : Int) := by rw [Int.tdiv_eq_ediv_of_nonneg (by omega), m6]
     have m8 : (c.toNat : Int).tmod 16 = (r : Int) := by rw [Int.tmod_eq_emod_of_nonneg (by omega)]; omega
     have m9 : (c.toNat : Int) % 16 = (r : Int) := by omega
     have n1 : ¬ (9223372036854775807 < T.size + 1) := by omega
     have n2 : ¬ (9223372036854775807 < T.size + 1 + 1) := by omega
     clear hD1 hD2 hq hr
     have m1 : (k : Int) < (s.size : Int) := by omega
     have hcs : s[k] = c := hc.symm
     clear hT hc
     go_upto_region 5 with fail
     obtain ⟨V, hV⟩ : ∃ V : List MP, V = [.con (.string T), .con (.string s), .con (.int .i64 (k : Int)), .con (.int .u8 (c.toNat : Int)), .con (.int .i64 (c.toNat : Int)), .con (.int .i64 (q : Int)), .con (.string D1), .con (.string (T ++ D1)), .con (.string s), .con (.int .i64 (k : Int)), .con (.int .u8 (c.toNat : Int)), .con (.int .i64 (c.toNat : Int)), .con (.int .i64 (r : Int)), .con (.string D2), .con (.string (T ++ D1 ++ D2))] := ⟨_, rfl⟩
     have HV := Lib.hid hV
     clear hV
     refine wp_region_inv 15 (fun d a' w' => ∃ Xl Xm Xn Xo Xp Xq Xr Xs Xt Xu Xv Xw Xx Xy Xz, a' = ⟨#[.string s, undef, .string { data := #[] }, .string T, .int .i64 (k : Int), .int .i64 (k : Int), .string s, .int .i64 (s.size : Int), .bool true, u9, u10, Xl, Xm, Xn, Xo, Xp, Xq, Xr, Xs, Xt, Xu, Xv, Xw, Xx, Xy, Xz, undef], []⟩ ∧ RegI wr V d w' [Xl, Xm, Xn, Xo, Xp, Xq, Xr, Xs, Xt, Xu, Xv, Xw, Xx, Xy, Xz]) (by kernel_rfl) (by kernel_rfl) ?first ?step ?last
     case first => exact ⟨_, _, _, _, _, _, _, _, _, _, _, _, _, _, _, rfl, RegI.first _ _ _ (by rw [HV.out]; rfl)⟩
     case step =>
       rintro d a' w' ⟨Xl, Xm, Xn, Xo, Xp, Xq, Xr, Xs, Xt, Xu, Xv, Xw, Xx, Xy, Xz, rfl, h⟩ q hq hn hw
       rcases q with _ | _ | _ | _ | _ | _ | _ | _ | _ | _ | _ | _ | _ | _ | _ | q
       · refine wpOp_step rfl fun K hK => ?_
         go_simp
         exact hK _ _ ⟨_, Xm, Xn, Xo, Xp, Xq, Xr, Xs, Xt, Xu, Xv, Xw, Xx, Xy, Xz, rfl, h.same 0 _ (.con (.string T)) (vq2 HV rfl) rfl⟩
       · refine wpOp_step rfl fun K hK => ?_
         go_simp
         exact hK _ _ ⟨Xl, _, Xn, Xo, Xp, Xq, Xr, Xs, Xt, Xu, Xv, Xw, Xx, Xy, Xz, rfl, h.same 1 _ (.con (.string s)) (vq2 HV rfl) rfl⟩
       · refine wpOp_step rfl fun K hK => ?_
         go_simp
         exact hK _ _ ⟨Xl, Xm, _, Xo, Xp, Xq, Xr, Xs, Xt, Xu, Xv, Xw, Xx, Xy, Xz, rfl, h.same 2 _ (.con (.int .i64 (k : Int))) (vq2 HV rfl) rfl⟩
       · obtain rfl : Xm = .string s := h.get 1 (hw _ rfl ⟨1, .data⟩ (by simp) rfl) (.con (.string s)) (vq2 HV rfl) _ rfl
         obtain rfl : Xn = .int .i64 (k : Int) := h.get 2 (hw _ rfl ⟨2, .data⟩ (by simp) rfl) (.con (.int .i64 (k : Int))) (vq2 HV rfl) _ rfl
         refine wpOp_step rfl fun K hK => ?_
         go_simp
         exact hK _ _ ⟨Xl, _, _, _, Xp, Xq, Xr, Xs, Xt, Xu, Xv, Xw, Xx, Xy, Xz, rfl, h.same 3 _ (.con (.int .u8 (c.toNat : Int))) (vq2 HV rfl) rfl⟩
       · obtain rfl : Xo = .int .u8 (c.toNat : Int) := h.get 3 (hw _ rfl ⟨3, .data⟩ (by simp) rfl) (.con (.int .u8 (c.toNat : Int))) (vq2 HV rfl) _ rfl
         refine wpOp_step rfl fun K hK => ?_
         go_simp
         exact hK _ _ ⟨Xl, Xm, Xn, _, _, Xq, Xr, Xs, Xt, Xu, Xv, Xw, Xx, Xy, Xz, rfl, h.same 4 _ (.con (.int .i64 (c.toNat : Int))) (vq2 HV rfl) rfl⟩
       · obtain rfl : Xp = .int .i64 (c.toNat : Int) := h.get 4 (hw _ rfl ⟨4, .data⟩ (by simp) rfl) (.con (.int .i64 (c.toNat : Int))) (vq2 HV rfl) _ rfl
         refine wpOp_step rfl fun K hK => ?_
         go_simp
         exact hK _ _ ⟨Xl, Xm, Xn, Xo, _, _, Xr, Xs, Xt, Xu, Xv, Xw, Xx, Xy, Xz, rfl, h.same 5 _ (.con (.int .i64 (q : Int))) (vq2 HV rfl) rfl⟩
       · obtain rfl : Xq = .int .i64 (q : Int) := h.get 5 (hw _ rfl ⟨5, .data⟩ (by simp) rfl) (.con (.int .i64 (q : Int))) (vq2 HV rfl) _ rfl
         refine wpOp_step rfl fun K hK => ?_
         go_simp
         refine (HD1.out w').mono ?_
         rintro e w2 ⟨rfl, hb2⟩
         exact hK _ _ ⟨Xl, Xm, Xn, Xo, Xp, _, _, Xs, Xt, Xu, Xv, Xw, Xx, Xy, Xz, rfl, h.did hb2 6 _ (.con (.string D1)) (vq2 HV rfl) rfl⟩
       · obtain rfl : Xl = .string T := h.get 0 (hw _ rfl ⟨0, .data⟩ (by simp) rfl) (.con (.string T)) (vq2 HV rfl) _ rfl
         obtain rfl : Xr = .string D1 := h.get 6 (hw _ rfl ⟨6, .data⟩ (by simp) rfl) (.con (.string D1)) (vq2 HV rfl) _ rfl
         refine wpOp_step rfl fun K hK => ?_
         go_simp
         exact hK _ _ ⟨_, Xm, Xn, Xo, Xp, Xq, _, _, Xt, Xu, Xv, Xw, Xx, Xy, Xz, rfl, h.same 7 _ (.con (.string (T ++ D1))) (vq2 HV rfl) rfl⟩
       · refine wpOp_step rfl fun K hK => ?_
         go_simp
         exact hK _ _ ⟨Xl, Xm, Xn, Xo, Xp, Xq, Xr, Xs, _, Xu, Xv, Xw, Xx, Xy, Xz, rfl, h.same 8 _ (.con (.string s)) (vq2 HV rfl) rfl⟩
       · refine wpOp_step rfl fun K hK => ?_
         go_simp
         exact hK _ _ ⟨Xl, Xm, Xn, Xo, Xp, Xq, Xr, Xs, Xt, _, Xv, Xw, Xx, Xy, Xz, rfl, h.same 9 _ (.con (.int .i64 (k : Int))) (vq2 HV rfl) rfl⟩
       · obtain rfl : Xt = .string s := h.get 8 (hw _ rfl ⟨8, .data⟩ (by simp) rfl) (.con (.string s)) (vq2 HV rfl) _ rfl
         obtain rfl : Xu = .int .i64 (k : Int) := h.get 9 (hw _ rfl ⟨9, .data⟩ (by simp) rfl) (.con (.int .i64 (k : Int))) (vq2 HV rfl) _ rfl
         refine wpOp_step rfl fun K hK => ?_
         go_simp
         exact hK _ _ ⟨Xl, Xm, Xn, Xo, Xp, Xq, Xr, Xs, _, _, _, Xw, Xx, Xy, Xz, rfl, h.same 10 _ (.con (.int .u8 (c.toNat : Int))) (vq2 HV rfl) rfl⟩
       · obtain rfl : Xv = .int .u8 (c.toNat : Int) := h.get 10 (hw _ rfl ⟨10, .data⟩ (by simp) rfl) (.con (.int .u8 (c.toNat : Int))) (vq2 HV rfl) _ rfl
         refine wpOp_step rfl fun K hK => ?_
         go_simp
         exact hK _ _ ⟨Xl, Xm, Xn, Xo, Xp, Xq, Xr, Xs, Xt, Xu, _, _, Xx, Xy, Xz, rfl, h.same 11 _ (.con (.int .i64 (c.toNat : Int))) (vq2 HV rfl) rfl⟩
       · obtain rfl : Xw = .int .i64 (c.toNat : Int) := h.get 11 (hw _ rfl ⟨11, .data⟩ (by simp) rfl) (.con (.int .i64 (c.toNat : Int))) (vq2 HV rfl) _ rfl
         refine wpOp_step rfl fun K hK => ?_
         go_simp
         exact hK _ _ ⟨Xl, Xm, Xn, Xo, Xp, Xq, Xr, Xs, Xt, Xu, Xv, _, _, Xy, Xz, rfl, h.same 12 _ (.con (.int .i64 (r : Int))) (vq2 HV rfl) rfl⟩
       · obtain rfl : Xx = .int .i64 (r : Int) := h.get 12 (hw _ rfl ⟨12, .data⟩ (by simp) rfl) (.con (.int .i64 (r : Int))) (vq2 HV rfl) _ rfl
         refine wpOp_step rfl fun K hK => ?_
         go_simp
         refine (HD2.out w').mono ?_
         rintro e w2 ⟨rfl, hb2⟩
         exact hK _ _ ⟨Xl, Xm, Xn, Xo, Xp, Xq, Xr, Xs, Xt, Xu, Xv, Xw, _, _, Xz, rfl, h.did hb2 13 _ (.con (.string D2)) (vq2 HV rfl) rfl⟩
       · obtain rfl : Xs = .string (T ++ D1) := h.get 7 (hw _ rfl ⟨7, .data⟩ (by simp) rfl) (.con (.string (T ++ D1))) (vq2 HV rfl) _ rfl
         obtain rfl : Xy = .string D2 := h.get 13 (hw _ rfl ⟨13, .data⟩ (by simp) rfl) (.con (.string D2)) (vq2 HV rfl) _ rfl
         refine wpOp_step rfl fun K hK => ?_
         go_simp
         exact hK _ _ ⟨Xl, Xm, Xn, Xo, Xp, Xq, Xr, _, Xt, Xu, Xv, Xw, Xx, _, _, rfl, h.same 14 _ (.con (.string (T ++ D1 ++ D2))) (vq2 HV rfl) rfl⟩
       · omega
     case last =>
       rintro d a' w' hall ⟨Xl, Xm, Xn, Xo, Xp, Xq, Xr, Xs, Xt, Xu, Xv, Xw, Xx, Xy, Xz, rfl, h⟩
       have hle := h.1
       obtain rfl : Xz = .string (T ++ D1 ++ D2) := h.get 14 (hall _ (by omega)) (.con (.string (T ++ D1 ++ D2))) (vq2 HV rfl) _ rfl
       have HLE := Lib.hid hle
       clear h hall hle HV
       go_wp2
       go_roundw
       case rel => exact ⟨k + 1, by omega, by go_num, congrArg Value.string HN.out, HB.out.trans (HLE.out.mono HB.out.size)⟩
       case measure => simp [intOf]; omega
   · obtain rfl : k = s.size := by omega
     rw [← hT]
     go_wp2
     go_ret
     exact ⟨congrArg (fun z => Ending.returned (.string z)) (by rw [hT, List.take_of_length_le (by rw [toList_length]; exact Nat.le_refl _)]), HB.out⟩

set_option maxRecDepth 100000 in
set_option maxHeartbeats 1000000 in
theorem ref01Decode (s : ByteArray) (w : World) (hs : s.size ≤ 1099511627776) :
   Calls Tryz.prog 67 #[.string s] w fun e w' => e = .returned (.tuple #[.string ⟨(decS s.data.toList).toArray⟩, .int .i64 (decE s.data.toList)]) ∧ Below w.heap.size w w' := by
 have HI := Lib.hid (ref01Is s w (by omega))
 cases hx : allHex s.data.toList
 · rw [hx] at HI
   have HE := Lib.hid (decE_no hx)
   clear hx
   go_enter Tryz.func67, Tryz.ntmps67
   go_wp2_with fail
   refine HI.out.mono ?_
   rintro e w1 ⟨rfl, rfl⟩
   go_wp2
   go_ret2
   exact ⟨by rw [HE.out.1, HE.out.2] <;> rfl, Below.refl _ _⟩
 rw [hx] at HI
 by_cases h2 : s.size % 2 = 1
 · have HE := Lib.hid (decE_odd hx (by rw [toList_length]; exact h2))
   clear hx
   have hm : (s.size : Int).tmod 2 = 1 := by rw [Int.tmod_eq_emod_of_nonneg (by omega)]; omega
   go_enter Tryz.func67, Tryz.ntmps67
   go_wp2_with fail
   refine HI.out.mono ?_
   rintro e w1 ⟨rfl, rfl⟩
   go_wp2
   go_ret2
   exact ⟨by rw [HE.out.1, HE.out.2] <;> rfl, Below.refl _ _⟩
 have HE := Lib.hid (decE_ok hx (by rw [toList_length]; omega))
 have HX := Lib.hid (List.all_eq_true.1 (show s.data.toList.all isHex = true from hx))
 clear hx
 have hm : (s.size : Int).tmod 2 = 0 := by rw [Int.tmod_eq_emod_of_nonneg (by omega)]; omega
 have h20 : s.size % 2 = 0 := by omega
 have H20 := Lib.hid h20
 clear h2 h20
 obtain ⟨i0, hi, hz0, hz1, hz2⟩ := info_parts infoU8
 go_enter Tryz.func67, Tryz.ntmps67
 go_wp2_with fail
 refine HI.out.mono ?_
 rintro e w1 ⟨rfl, rfl⟩
 clear HI
 go_wp2
 go_loopw [4, 5] (fun v i wr => ∃ k : Nat, 2 * k ≤ s.size ∧ i = .int .i64 (2 * (k : Int)) ∧ wr.ownsRow w.heap.size 5 1 v k (Lib.byteCells (hexDec (s.data.toList.take (2 * k)))) ∧ Below w.heap.size w wr) (fun _ i _ => s.size - (intOf i).toNat)
 case atStart => exact ⟨0, by omega, rfl, World.ownsRow_nil _ _ _ _, Below.refl _ _⟩
 case round =>
   obtain ⟨k, hk, rfl, hown, hbel⟩ := hrel
   have HB := Lib.hid hbel; clear hbel
   have HO := Lib.hid hown; clear hown
   by_cases hlt : 2 * k < s.size
   · have hlt0 : 2 * k + 1 < s.size := by have := H20.out; omega
     have m0 : 2 * (k : Int) < (s.size : Int) := by omega
     have m1 : 2 * (k : Int) + 1 < (s.size : Int) := by omega
     obtain ⟨ka, hka⟩ : ∃ ka, ka = 2 * k := ⟨_, rfl⟩
     obtain ⟨kb, hkb⟩ : ∃ kb, kb = 2 * k + 1 := ⟨_, rfl⟩
     have ia : 2 * (k : Int) = (ka : Int) := by omega
     have ib : (ka : Int) + 1 = (kb : Int) := by omega
     have ha : isHex s[2 * k] = true := HX.out _ (by rw [← toList_get s (2 * k) hlt]; exact List.getElem_mem _)
     have hb : isHex s[2 * k + 1] = true := HX.out _ (by rw [← toList_get s (2 * k + 1) hlt0]; exact List.getElem_mem _)
     have la := hexN_lt s[2 * k]
     have lb := hexN_lt s[2 * k + 1]
     have HS := Lib.hid (dec_snoc s k hlt0)
     have hv1 : Hid (∀ w', Calls Tryz.prog 95 #[.int .u8 s[2 * k].toNat] w' fun e w'' => e = .returned (.int .i64 (hexN s[2 * k])) ∧ Below w'.heap.size w' w'') := Lib.hid fun w' => by
       refine (ref01Value s[2 * k] w').mono ?_
       rintro e w'' ⟨rfl, rfl⟩
       exact ⟨ret_int (hexV_yes ha), Below.refl _ _⟩
     have hv2 : Hid (∀ w', Calls Tryz.prog 95 #[.int .u8 s[2 * k + 1].toNat] w' fun e w'' => e = .returned (.int .i64 (hexN s[2 * k + 1])) ∧ Below w'.heap.size w' w'') := Lib.hid fun w' => by
       refine (ref01Value s[2 * k + 1] w').mono ?_
       rintro e w'' ⟨rfl, rfl⟩
       exact ⟨ret_int (hexV_yes hb), Below.refl _ _⟩
     obtain ⟨a, hha⟩ : ∃ a, a = hexN s[2 * k] := ⟨_, rfl⟩
     obtain ⟨b, hhb⟩ : ∃ b, b = hexN s[2 * k + 1] := ⟨_, rfl⟩
     have HSS := Lib.hid (HS.out a b hha hhb)
     rw [← hha] at hv1 la
     rw [← hhb] at hv2 lb
     obtain ⟨c1, hc1⟩ : ∃ c : UInt8, c = s[2 * k] := ⟨_, rfl⟩
     obtain ⟨c2, hc2⟩ : ∃ c : UInt8, c = s[2 * k + 1] := ⟨_, rfl⟩
     rw [← hc1] at hv1
     rw [← hc2] at hv2
     have hlta : ka < s.size := by omega
     have hltb : kb < s.size := by omega
     have hsa : s[ka]'hlta = c1 := by rw [hc1]; congr 1
     have hsb : s[kb]'hltb = c2 := by rw [hc2]; congr 1
     have m2 : (ka : Int) < (s.size : Int) := by omega
     have m3 : (kb : Int) < (s.size : Int) := by omega
     have m5 : IntKind.i64.wrap ((ka : Int) + 1) = (kb : Int) := by rw [IntWalk.i64_in _ (by omega), ib]
     have m6 : IntKind.i64.wrap (16 * a) = 16 * a := IntWalk.i64_in _ (by omega)
     have m7 : IntKind.i64.wrap (16 * a + b) = 16 * a + b := IntWalk.i64_in _ (by omega)
     have m8 : IntKind.u8.wrap (16 * a + b) = a * 16 + b := by unfold IntKind.wrap; simp [IntKind.signed, IntKind.bits]; omega
     have HIA := Lib.hid ia
     have HKA := Lib.hid hka
     rw [ia]
     clear hc1 hc2 hha hhb HS ha hb m0 m1 ia ib hka hkb
     go_upto_region 9 with fail
     obtain ⟨V, hV⟩ : ∃ V : List MP, V = [.con (u4), .con (.string s), .con (.int .i64 (ka : Int)), .con (.int .u8 (c1.toNat : Int)), .con (.int .i64 a), .con (.int .i64 (16 * a)), .con (.string s), .con (.int .i64 (ka : Int)), .con (.int .i64 (kb : Int)), .con (.int .u8 (c2.toNat : Int)), .con (.int .i64 b), .con (.int .i64 (16 * a + b)), .con (.int .u8 (a * 16 + b)), .row wr.heap.size 1 5 #[.int .u8 (a * 16 + b)]] := ⟨_, rfl⟩
     have HV := Lib.hid hV
     clear hV
     refine wp_region_inv 14 (fun d a' w' => ∃ Xt Xu Xv Xw Xx Xy Xz XA XB XC XD XE XF XG, a' = ⟨#[.string s, undef, .string { data := #[] }, .int .i64 0, u4, .int .i64 (ka : Int), .string s, .bool true, .bool false, .string s, .int .i64 (s.size : Int), .int .i64 0, .bool false, .int .i64 (ka : Int), .string s, .int .i64 (s.size : Int), .bool true, u17, u18, Xt, Xu, Xv, Xw, Xx, Xy, Xz, XA, XB, XC, XD, XE, XF, XG, u33, undef, undef], []⟩ ∧ RegI wr V d w' [Xt, Xu, Xv, Xw, Xx, Xy, Xz, XA, XB, XC, XD, XE, XF, XG]) (by kernel_rfl) (by kernel_rfl) ?first ?step ?last
     case first => exact ⟨_, _, _, _, _, _, _, _, _, _, _, _, _, _, rfl, RegI.first _ _ _ (by rw [HV.out]; rfl)⟩
     case step =>
       rintro d a' w' ⟨Xt, Xu, Xv, Xw, Xx, Xy, Xz, XA, XB, XC, XD, XE, XF, XG, rfl, h⟩ q hq hn hw
       rcases q with _ | _ | _ | _ | _ | _ | _ | _ | _ | _ | _ | _ | _ | _ | q
       · refine wpOp_step rfl fun K hK => ?_
         go_simp
         exact hK _ _ ⟨_, Xu, Xv, Xw, Xx, Xy, Xz, XA, XB, XC, XD, XE, XF, XG, rfl, h.same 0 _ (.con (u4)) (vq2 HV rfl) rfl⟩
       · refine wpOp_step rfl fun K hK => ?_
         go_simp
         exact hK _ _ ⟨Xt, _, Xv, Xw, Xx, Xy, Xz, XA, XB, XC, XD, XE, XF, XG, rfl, h.same 1 _ (.con (.string s)) (vq2 HV rfl) rfl⟩
       · refine wpOp_step rfl fun K hK => ?_
         go_simp
         exact hK _ _ ⟨Xt, Xu, _, Xw, Xx, Xy, Xz, XA, XB, XC, XD, XE, XF, XG, rfl, h.same 2 _ (.con (.int .i64 (ka : Int))) (vq2 HV rfl) rfl⟩
       · obtain rfl : Xu = .string s := h.get 1 (hw _ rfl ⟨1, .data⟩ (by simp) rfl) (.con (.string s)) (vq2 HV rfl) _ rfl
         obtain rfl : Xv = .int .i64 (ka : Int) := h.get 2 (hw _ rfl ⟨2, .data⟩ (by simp) rfl) (.con (.int .i64 (ka : Int))) (vq2 HV rfl) _ rfl
         refine wpOp_step rfl fun K hK => ?_
         go_simp
         exact hK _ _ ⟨Xt, _, _, _, Xx, Xy, Xz, XA, XB, XC, XD, XE, XF, XG, rfl, h.same 3 _ (.con (.int .u8 (c1.toNat : Int))) (vq2 HV rfl) rfl⟩
       · obtain rfl : Xw = .int .u8 (c1.toNat : Int) := h.get 3 (hw _ rfl ⟨3, .data⟩ (by simp) rfl) (.con (.int .u8 (c1.toNat : Int))) (vq2 HV rfl) _ rfl
         refine wpOp_step rfl fun K hK => ?_
         go_simp
         refine (hv1.out w').mono ?_
         rintro e w2 ⟨rfl, hb2⟩
         exact hK _ _ ⟨Xt, Xu, Xv, _, _, Xy, Xz, XA, XB, XC, XD, XE, XF, XG, rfl, h.did hb2 4 _ (.con (.int .i64 a)) (vq2 HV rfl) rfl⟩
       · obtain rfl : Xx = .int .i64 a := h.get 4 (hw _ rfl ⟨4, .data⟩ (by simp) rfl) (.con (.int .i64 a)) (vq2 HV rfl) _ rfl
         refine wpOp_step rfl fun K hK => ?_
         go_simp
         exact hK _ _ ⟨Xt, Xu, Xv, Xw, _, _, Xz, XA, XB, XC, XD, XE, XF, XG, rfl, h.same 5 _ (.con (.int .i64 (16 * a))) (vq2 HV rfl) rfl⟩
       · refine wpOp_step rfl fun K hK => ?_
         go_simp
         exact hK _ _ ⟨Xt, Xu, Xv, Xw, Xx, Xy, _, XA, XB, XC, XD, XE, XF, XG, rfl, h.same 6 _ (.con (.string s)) (vq2 HV rfl) rfl⟩
       · refine wpOp_step rfl fun K hK => ?_
         go_simp
         exact hK _ _ ⟨Xt, Xu, Xv, Xw, Xx, Xy, Xz, _, XB, XC, XD, XE, XF, XG, rfl, h.same 7 _ (.con (.int .i64 (ka : Int))) (vq2 HV rfl) rfl⟩
       · obtain rfl : XA = .int .i64 (ka : Int) := h.get 7 (hw _ rfl ⟨7, .data⟩ (by simp) rfl) (.con (.int .i64 (ka : Int))) (vq2 HV rfl) _ rfl
         refine wpOp_step rfl fun K hK => ?_
         go_simp
         exact hK _ _ ⟨Xt, Xu, Xv, Xw, Xx, Xy, Xz, _, _, XC, XD, XE, XF, XG, rfl, h.same 8 _ (.con (.int .i64 (kb : Int))) (vq2 HV rfl) rfl⟩
       · obtain rfl : Xz = .string s := h.get 6 (hw _ rfl ⟨6, .data⟩ (by simp) rfl) (.con (.string s)) (vq2 HV rfl) _ rfl
         obtain rfl : XB = .int .i64 (kb : Int) := h.get 8 (hw _ rfl ⟨8, .data⟩ (by simp) rfl) (.con (.int .i64 (kb : Int))) (vq2 HV rfl) _ rfl
         refine wpOp_step rfl fun K hK => ?_
         go_simp
         exact hK _ _ ⟨Xt, Xu, Xv, Xw, Xx, Xy, _, XA, _, _, XD, XE, XF, XG, rfl, h.same 9 _ (.con (.int .u8 (c2.toNat : Int))) (vq2 HV rfl) rfl⟩
       · obtain rfl : XC = .int .u8 (c2.toNat : Int) := h.get 9 (hw _ rfl ⟨9, .data⟩ (by simp) rfl) (.con (.int .u8 (c2.toNat : Int))) (vq2 HV rfl) _ rfl
         refine wpOp_step rfl fun K hK => ?_
         go_simp
         refine (hv2.out w').mono ?_
         rintro e w2 ⟨rfl, hb2⟩
         exact hK _ _ ⟨Xt, Xu, Xv, Xw, Xx, Xy, Xz, XA, XB, _, _, XE, XF, XG, rfl, h.did hb2 10 _ (.con (.int .i64 b)) (vq2 HV rfl) rfl⟩
       · obtain rfl : Xy = .int .i64 (16 * a) := h.get 5 (hw _ rfl ⟨5, .data⟩ (by simp) rfl) (.con (.int .i64 (16 * a))) (vq2 HV rfl) _ rfl
         obtain rfl : XD = .int .i64 b := h.get 10 (hw _ rfl ⟨10, .data⟩ (by simp) rfl) (.con (.int .i64 b)) (vq2 HV rfl) _ rfl
         refine wpOp_step rfl fun K hK => ?_
         go_simp
         exact hK _ _ ⟨Xt, Xu, Xv, Xw, Xx, _, Xz, XA, XB, XC, _, _, XF, XG, rfl, h.same 11 _ (.con (.int .i64 (16 * a + b))) (vq2 HV rfl) rfl⟩
       · obtain rfl : XE = .int .i64 (16 * a + b) := h.get 11 (hw _ rfl ⟨11, .data⟩ (by simp) rfl) (.con (.int .i64 (16 * a + b))) (vq2 HV rfl) _ rfl
         refine wpOp_step rfl fun K hK => ?_
         go_simp
         exact hK _ _ ⟨Xt, Xu, Xv, Xw, Xx, Xy, Xz, XA, XB, XC, XD, _, _, XG, rfl, h.same 12 _ (.con (.int .u8 (a * 16 + b))) (vq2 HV rfl) rfl⟩
       · obtain rfl : XF = .int .u8 (a * 16 + b) := h.get 12 (hw _ rfl ⟨12, .data⟩ (by simp) rfl) (.con (.int .u8 (a * 16 + b))) (vq2 HV rfl) _ rfl
         refine wpOp_step rfl fun K hK => ?_
         go_simp
         exact hK _ _ ⟨Xt, Xu, Xv, Xw, Xx, Xy, Xz, XA, XB, XC, XD, XE, _, _, rfl, h.new _ 13 _ (.row wr.heap.size 1 5 #[.int .u8 (a * 16 + b)]) (vq2 HV rfl) (IsRow.made _ h.1.size)⟩
       · omega
     case last =>
       rintro d a' w' hall ⟨Xt, Xu, Xv, Xw, Xx, Xy, Xz, XA, XB, XC, XD, XE, XF, XG, rfl, h⟩
       have hle := h.1
       obtain rfl : Xt = u4 := h.get 0 (hall _ (by omega)) (.con (u4)) (vq2 HV rfl) _ rfl
       obtain ⟨b32, k32, rfl, m32⟩ := h.get 13 (hall _ (by omega)) (.row wr.heap.size 1 5 #[.int .u8 (a * 16 + b)]) (vq2 HV rfl) _ rfl
       have HLE := Lib.hid hle
       clear h hall hle HV
       have HO2 := Lib.hid (owns_below HO.out HLE.out)
       have HW1 := Lib.hid (World.news_of_block m32)
       have hk1 : k + 1 ≤ maxLen := by unfold maxLen; omega
       have hk3 : w.heap.size ≤ w'.heap.size := by have := HB.out.size; have := HLE.out.size; omega
       clear k32 m32
       refine wpList_append_lies _ rfl (.tmp 19) (.tmp 32) 108 rfl w.heap.size 5 i0 _ 1 1 Tryz.underlying108 hi hz0 hz1 hz2 rfl (by decide) _ k (Lib.byteCells (hexDec (s.data.toList.take (2 * k)))) rfl HO2.out ⟨b32, 0, none⟩ 1 1 (Array.toList #[.int .u8 (a * 16 + b)]) rfl rfl HW1.out (by simp [Value.oneCell']) (by decide) hk1 (by omega) hk3 _ rfl ?_
       intro g gc w7 ho7 hg7 hat7 hlt7
       have HO7 := Lib.hid ho7
       have HG7 := Lib.hid hg7
       clear ho7 hg7 hat7 hlt7
       go_wp2
       go_roundw
       case rel =>
         refine ⟨k + 1, by have := HKA.out; omega, by have := HIA.out; go_num, by rw [HSS.out]; exact HO7.out, ?_⟩
         exact below_grown (HB.out.trans (HLE.out.mono HB.out.size)) hk3 HG7.out (fun b hb => (HO2.out.lt b hb).1)
       case measure => have := HKA.out; simp [intOf]; omega
   · have hks : 2 * k = s.size := by omega
     have hcv := run_convert_owned (P := Tryz.prog) 108 9 5 Tryz.underlying108 Tryz.underlying5 Tryz.underlying9 HO.out
     rw [List.take_of_length_le (by rw [toList_length]; omega)] at hcv
     go_wp2
     go_ret2
     exact ⟨by rw [HE.out.1, HE.out.2] <;> rfl, HB.out⟩

end Go.Proofs.YtaekmmnpdbmoeaaGreatDoor
