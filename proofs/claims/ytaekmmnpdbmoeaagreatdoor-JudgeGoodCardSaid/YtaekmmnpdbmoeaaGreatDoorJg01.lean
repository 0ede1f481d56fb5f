/- The contracts of legateref17.sum, of its verifier's Good, and of Make. Printed by genref17.py. -/
import Derived.Test.YtaekmmnpdbmoeaaGreatDoorJr26
import Derived.Test.YtaekmmnpdbmoeaaGreatDoorJg00
import Derived.Test.YtaekmmnpdbmoeaaGreatDoorJr23
import Derived.Test.YtaekmmnpdbmoeaaGreatDoorJr13

namespace Go.Proofs.YtaekmmnpdbmoeaaGreatDoor
open Go.RowKit

theorem refId2 (k : Key2) (w : World) (h1 : k.1.size ≤ 300) (h2 : k.2.size ≤ 300) :
    Calls Tryz.prog 41 #[.agg #[.string k.1, .string k.2]] w fun e w' => e = .returned (.tuple #[.string (id2 k), .int .i64 (if ok2 k = true then 0 else 3)]) ∧ Below w.heap.size w w' := ref14ID k.1 k.2 w (by omega) (by omega)
theorem below_n1 (w : World) (o : Obj) : Below w.heap.size w (w.alloc o) := (Below.refl _ _).alloc (Nat.le_refl _) _

set_option maxHeartbeats 1000000 in
theorem ref17Sum (k : Key2) (m : ByteArray) (w : World) (hk : pubOk k.2.data.toList = true) (hm : m.size ≤ 1099511620000) :
    Calls Tryz.prog 43 #[.agg #[.string k.1, .string k.2], .string m] w fun e w' => e = .returned (.string ⟨(macHex k.2.data.toList m.data.toList).toArray⟩) ∧ Below w.heap.size w w' := by
  obtain ⟨ks, kp⟩ := k
  have hk : pubOk kp.data.toList = true := hk
  have HPZ := Lib.hid (pub_size hk)
  have HDP := Lib.hid (fun w' => ref01Decode kp w' (by have := pub_size hk; omega))
  rw [(pub_dec hk).1, (pub_dec hk).2] at HDP
  obtain ⟨PB, hPB⟩ : ∃ PB : ByteArray, PB = ⟨(hexDec kp.data.toList).toArray⟩ := ⟨_, rfl⟩
  rw [← hPB] at HDP
  have hPBl : PB.data.toList = hexDec kp.data.toList := by rw [hPB]
  have HPBZ := Lib.hid (show PB.size ≤ 1099511627000 by rw [← toList_length, hPBl, hexDec_length, toList_length]; have := HPZ.out; omega)
  have HMC := Lib.hid (fun w' => ref03Of PB m w' HPBZ.out hm)
  obtain ⟨MC, hMC⟩ : ∃ MC : ByteArray, MC = ⟨(macL PB.data.toList m.data.toList).toArray⟩ := ⟨_, rfl⟩
  rw [← hMC] at HMC
  have hMCl : MC.data.toList = macL (hexDec kp.data.toList) m.data.toList := by rw [hMC, ← hPBl]
  have HEN := Lib.hid (fun w' => ref01Encode MC w' (by rw [← toList_length, hMCl, macL_length]; omega))
  rw [hMCl, show hexEnc (macL (hexDec kp.data.toList) m.data.toList) = macHex kp.data.toList m.data.toList from rfl] at HEN
  obtain ⟨R, hR⟩ : ∃ R : ByteArray, R = ⟨(macHex kp.data.toList m.data.toList).toArray⟩ := ⟨_, rfl⟩
  rw [← hR] at HEN ⊢
  have HB0 := Lib.hid (below_n1 w (.cells #[.string ks, .string kp] 24))
  clear hk hPB hPBl hMC hMCl hR
  go_enter Tryz.func43, Tryz.ntmps43
  go_wp2_with fail
  refine (HDP.out _).mono ?_
  rintro e w1 ⟨rfl, hb1⟩
  have HB1 := Lib.hid (HB0.out.trans (hb1.mono HB0.out.size))
  clear hb1
  go_wp2_with fail
  refine (HMC.out _).mono ?_
  rintro e w2 ⟨rfl, hb2⟩
  have HB2 := Lib.hid (HB1.out.trans (hb2.mono HB1.out.size))
  clear hb2
  go_wp2_with fail
  refine (HEN.out _).mono ?_
  rintro e w3 ⟨rfl, hb3⟩
  have HB3 := Lib.hid (HB2.out.trans (hb3.mono HB2.out.size))
  clear hb3
  go_wp2
  go_ret
  exact ⟨rfl, HB3.out⟩

set_option maxHeartbeats 2000000 in
set_option maxRecDepth 100000 in
theorem ref17Good_mac (p : Nat) (k : Key2) (s : Sig2) (m : ByteArray) (w : World) (hp : w.heap[p]? = some (.cells #[.bool true, .slice none 0 0] 87 (0, 0))) (h1 : k.1.size ≤ 300) (h2 : k.2.size ≤ 300) (h3 : s.2.size ≤ 9223372036854775807) (hm : m.size ≤ 1099511620000) :
    Calls Tryz.prog 17 #[.pointer (some ⟨p, 0, none⟩), .agg #[.string k.1, .string k.2], .agg #[.string s.1, .string s.2], .string m] w fun e w' => e = .returned (.bool (Ver.mac.good k s m.data.toList)) ∧ Below w.heap.size w w' := by
  have HKI := Lib.hid (fun w => refId2 k w h1 h2)
  have HSU := Lib.hid (fun (w : World) (hk : ok2 k = true) => ref17Sum k m w (ok2_parts hk) hm)
  have HHX := Lib.hid (fun w => ref14Hex s.2 w h3)
  have HGD := Lib.hid (good_mac_ref k s m.data.toList)
  have hpl := heap_lt hp
  obtain ⟨ks, kp⟩ := k
  obtain ⟨si, sg⟩ := s
  obtain ⟨W, hW⟩ : ∃ W, W = (w.alloc (.cells #[.string ks, .string kp] 24)).alloc (.cells #[.string si, .string sg] 26) := ⟨_, rfl⟩
  have HBW := Lib.hid (show Below w.heap.size w W by rw [hW]; exact below_n2 w _ _)
  have hx0 : W.heap[w.heap.size]? = some (.cells #[.string ks, .string kp] 24 (0, 0)) := by
    rw [hW, Below.heap_alloc _ _ _ (by simp)]; exact heap_alloc_new w _
  have hx1 : W.heap[w.heap.size + 1]? = some (.cells #[.string si, .string sg] 26 (0, 0)) := by
    rw [hW]
    have := heap_alloc_new (w.alloc (.cells #[.string ks, .string kp] 24)) (.cells #[.string si, .string sg] 26)
    simpa using this
  have HS := Lib.hid (show ∀ w' : World, Below W.heap.size W w' → w'.cell? ⟨w.heap.size, 0, none⟩ = some (.string ks) ∧ w'.cell? ⟨w.heap.size, 1, none⟩ = some (.string kp) ∧ w'.cell? ⟨w.heap.size + 1, 0, none⟩ = some (.string si) ∧ w'.cell? ⟨w.heap.size + 1, 1, none⟩ = some (.string sg) from fun w' h => by
    have y0 := (h.block _ (heap_lt hx0)).trans hx0
    have y1 := (h.block _ (heap_lt hx1)).trans hx1
    exact ⟨box_cell y0 rfl, box_cell y0 rfl, box_cell y1 rfl, box_cell y1 rfl⟩)
  have HW := Lib.hid hW
  clear hW hx0 hx1
  have HP := Lib.hid (show ∀ w' : World, Below w.heap.size w w' → w'.cell? ⟨p, 0, none⟩ = some (.bool true) ∧ w'.cell? ⟨p, 1, none⟩ = some (.slice none 0 0) from fun w' h => by
    have y := (h.block p hpl).trans hp
    exact ⟨box_cell y rfl, box_cell y rfl⟩)
  clear hp
  obtain ⟨R, hR⟩ : ∃ R : ByteArray, R = ⟨(macHex kp.data.toList m.data.toList).toArray⟩ := ⟨_, rfl⟩
  replace HGD := Lib.hid (show Ver.mac.good (ks, kp) (si, sg) m.data.toList = (ok2 (ks, kp) && (decide (id2 (ks, kp) = si) && (pubOk sg.data.toList && (decide (ks = schemeH) && decide (sg = R))))) from by rw [hR]; exact HGD.out)
  replace HSU := Lib.hid (show ∀ (w : World) (hk : ok2 (ks, kp) = true), Calls Tryz.prog 43 #[.agg #[.string ks, .string kp], .string m] w fun e w' => e = .returned (.string R) ∧ Below w.heap.size w w' from by rw [hR]; exact HSU.out)
  clear hR
  obtain ⟨GG, hGG⟩ : ∃ GG, GG = Ver.mac.good (ks, kp) (si, sg) m.data.toList := ⟨_, rfl⟩
  rw [← hGG] at HGD ⊢
  obtain ⟨ID, hID⟩ : ∃ ID, ID = id2 (ks, kp) := ⟨_, rfl⟩
  obtain ⟨ok, hok⟩ : ∃ ok, ok = ok2 (ks, kp) := ⟨_, rfl⟩
  obtain ⟨pb, hpb⟩ : ∃ pb, pb = pubOk sg.data.toList := ⟨_, rfl⟩
  replace HKI := Lib.hid (show ∀ w, Calls Tryz.prog 41 #[.agg #[.string ks, .string kp]] w fun e w' => e = .returned (.tuple #[.string ID, .int .i64 (if ok = true then 0 else 3)]) ∧ Below w.heap.size w w' from by rw [hID, hok]; exact HKI.out)
  replace HHX := Lib.hid (show ∀ w, Calls Tryz.prog 42 #[.string sg] w fun e w' => e = .returned (.bool pb) ∧ w = w' from by rw [hpb]; exact HHX.out)
  rw [← hID, ← hpb, ← hok] at HGD
  have HOK := Lib.hid hok
  clear hID hpb hok hGG
  obtain ⟨q0, q1, q2, q3⟩ := HS.out W (Below.refl _ _)
  go_enter Tryz.func17, Tryz.ntmps17
  go_wp2_with fail
  rw [← HW.out]
  refine (HKI.out W).mono ?_
  clear HKI q0 q1 q2 q3
  rintro e w1 ⟨rfl, hb1⟩
  have HB1 := Lib.hid (HBW.out.trans (hb1.mono HBW.out.size))
  have HS1 := Lib.hid (show ∀ w' : World, Below w1.heap.size w1 w' → w'.cell? ⟨w.heap.size, 0, none⟩ = some (.string ks) ∧ w'.cell? ⟨w.heap.size, 1, none⟩ = some (.string kp) ∧ w'.cell? ⟨w.heap.size + 1, 0, none⟩ = some (.string si) ∧ w'.cell? ⟨w.heap.size + 1, 1, none⟩ = some (.string sg) from fun w' h => HS.out w' (hb1.trans (h.mono hb1.size)))
  clear hb1 HS
  obtain ⟨q0, q1, q2, q3⟩ := HS1.out w1 (Below.refl _ _)
  cases ok
  · rw [if_neg (by simp)]
    go_wp2
    go_ret
    exact ⟨ret_bool (by rw [HGD.out]; rfl), HB1.out⟩
  rw [if_pos rfl]
  by_cases hid : ID = si
  case neg =>
    have hd : (ID.toList == si.toList) = false := eq_no hid
    have HD := Lib.hid hid
    clear hid
    go_wp2
    go_ret
    exact ⟨ret_bool (by rw [HGD.out, decide_eq_false HD.out]; rfl), HB1.out⟩
  have hd : (ID.toList == si.toList) = true := eq_yes hid
  have HD := Lib.hid hid
  clear hid
  cases pb
  · go_wp2_with fail
    refine (HHX.out _).mono ?_
    rintro e w2 ⟨rfl, rfl⟩
    go_wp2
    go_ret
    exact ⟨ret_bool (by rw [HGD.out]; simp), HB1.out⟩
  · go_wp2_with fail
    refine (HHX.out _).mono ?_
    rintro e w2 ⟨rfl, rfl⟩
    have HGD2 := Lib.hid HGD.out
    rw [decide_eq_true HD.out, Bool.true_and, Bool.true_and, Bool.true_and] at HGD2
    clear HGD HHX
    -- the key may be, the ID is its, the digits may be
    obtain ⟨v0, v1⟩ := HP.out w1 HB1.out
    by_cases hsch : ks = schemeH
    · have hsc := scheme_yes hsch
      have HSS := Lib.hid (fun w' => HSU.out w' HOK.out.symm)
      have HSC := Lib.hid hsch
      clear hsch HSU
      by_cases hr : sg = R
      · have hrr : (sg.toList == R.toList) = true := eq_yes hr
        have HR := Lib.hid hr
        clear hr
        go_upto_region 5 with fail
        obtain ⟨V, hV⟩ : ∃ V : List MP, V = [.con (.pointer (some ⟨w.heap.size, 0, none⟩)), .con (.string ks), .con (.bool true), .con (.bool true), .con (.pointer (some ⟨w.heap.size + 1, 1, none⟩)), .con (.string sg), .con (.agg #[.string ks, .string kp]), .con (.string m), .con (.string R), .con (.bool true), .con (.bool true)] := ⟨_, rfl⟩
        have HV := Lib.hid hV
        clear hV
        refine wp_region_inv 11 (fun d a' w' => ∃ x35 x36 x37 x38 x39 x40 x41 x42 x43 x44 x45, a' = ⟨#[Value.pointer (some { block := p, off := 0 }), Value.agg #[Value.string ks, Value.string kp], Value.agg #[Value.string si, Value.string sg], Value.string m, undef, Value.pointer (some { block := w.heap.size, off := 0 }), Value.pointer (some { block := w.heap.size + 1, off := 0 }), undef, Value.bool false, Value.string ID, Value.int IntKind.i64 0, undef, Value.tuple #[Value.string ID, Value.int IntKind.i64 0], Value.agg #[Value.string ks, Value.string kp], Value.tuple #[Value.string ID, Value.int IntKind.i64 0], Value.string ID, Value.int IntKind.i64 0, Value.int IntKind.i64 0, Value.bool false, Value.bool false, Value.string ID, Value.pointer (some { block := w.heap.size + 1, off := 0 }), Value.string si, Value.bool false, Value.bool false, Value.bool false, Value.pointer (some { block := w.heap.size + 1, off := 1 }), Value.string sg, Value.bool true, Value.bool false, Value.bool false, Value.pointer (some { block := p, off := 0 }), Value.pointer (some { block := p, off := 0 }), Value.pointer (some { block := p, off := 0 }), Value.bool true, x35, x36, x37, x38, x39, x40, x41, x42, x43, x44, x45, undef, undef, undef, undef, undef, undef, undef, undef, undef, undef, undef, undef, undef, undef, undef, undef, undef, undef, undef, undef, undef, undef, undef, undef, undef, undef, undef, undef, undef, undef, undef, undef, undef, undef, undef, undef, undef, undef, undef, undef, undef, undef, undef, undef, undef, undef], []⟩ ∧ RegI w1 V d w' [x35, x36, x37, x38, x39, x40, x41, x42, x43, x44, x45]) (by kernel_rfl) (by kernel_rfl) ?first ?step ?last
        case first => exact ⟨_, _, _, _, _, _, _, _, _, _, _, rfl, RegI.first _ _ _ (by rw [HV.out]; rfl)⟩
        case step =>
          rintro d a' w' ⟨x35, x36, x37, x38, x39, x40, x41, x42, x43, x44, x45, rfl, h⟩ q hq hn hw
          rcases q with _ | _ | _ | _ | _ | _ | _ | _ | _ | _ | _ | q
          · refine wpOp_step rfl fun K hK => ?_
            go_simp
            exact hK _ _ ⟨_, x36, x37, x38, x39, x40, x41, x42, x43, x44, x45, rfl, h.same 0 _ (.con (.pointer (some ⟨w.heap.size, 0, none⟩))) (by rw [HV.out]; rfl) rfl⟩
          · obtain rfl : x35 = .pointer (some ⟨w.heap.size, 0, none⟩) := h.get 0 (hw _ rfl ⟨0, .data⟩ (by simp) rfl) (.con (.pointer (some ⟨w.heap.size, 0, none⟩))) (by rw [HV.out]; rfl) _ rfl
            obtain ⟨q0, q1, q2, q3⟩ := HS1.out w' h.1
            refine wpOp_step rfl fun K hK => ?_
            go_simp
            exact hK _ _ ⟨_, _, x37, x38, x39, x40, x41, x42, x43, x44, x45, rfl, h.same 1 _ (.con (.string ks)) (by rw [HV.out]; rfl) rfl⟩
          · obtain rfl : x36 = .string ks := h.get 1 (hw _ rfl ⟨1, .data⟩ (by simp) rfl) (.con (.string ks)) (by rw [HV.out]; rfl) _ rfl
            refine wpOp_step rfl fun K hK => ?_
            go_simp
            exact hK _ _ ⟨x35, _, _, x38, x39, x40, x41, x42, x43, x44, x45, rfl, h.same 2 _ (.con (.bool true)) (by rw [HV.out]; rfl) rfl⟩
          · obtain rfl : x37 = .bool true := h.get 2 (hw _ rfl ⟨2, .data⟩ (by simp) rfl) (.con (.bool true)) (by rw [HV.out]; rfl) _ rfl
            refine wpOp_step rfl fun K hK => ?_
            go_simp
            exact hK _ _ ⟨x35, x36, _, _, x39, x40, x41, x42, x43, x44, x45, rfl, h.same 3 _ (.con (.bool true)) (by rw [HV.out]; rfl) rfl⟩
          · obtain rfl : x38 = .bool true := h.get 3 (hw _ rfl ⟨3, .guard⟩ (by simp) rfl) (.con (.bool true)) (by rw [HV.out]; rfl) _ rfl
            refine wpOp_step rfl fun K hK => ?_
            go_simp
            exact hK _ _ ⟨x35, x36, x37, _, _, x40, x41, x42, x43, x44, x45, rfl, h.same 4 _ (.con (.pointer (some ⟨w.heap.size + 1, 1, none⟩))) (by rw [HV.out]; rfl) rfl⟩
          · obtain rfl : x38 = .bool true := h.get 3 (hw _ rfl ⟨3, .guard⟩ (by simp) rfl) (.con (.bool true)) (by rw [HV.out]; rfl) _ rfl
            obtain rfl : x39 = .pointer (some ⟨w.heap.size + 1, 1, none⟩) := h.get 4 (hw _ rfl ⟨4, .data⟩ (by simp) rfl) (.con (.pointer (some ⟨w.heap.size + 1, 1, none⟩))) (by rw [HV.out]; rfl) _ rfl
            obtain ⟨q0, q1, q2, q3⟩ := HS1.out w' h.1
            refine wpOp_step rfl fun K hK => ?_
            go_simp
            exact hK _ _ ⟨x35, x36, x37, _, _, _, x41, x42, x43, x44, x45, rfl, h.same 5 _ (.con (.string sg)) (by rw [HV.out]; rfl) rfl⟩
          · obtain rfl : x38 = .bool true := h.get 3 (hw _ rfl ⟨3, .guard⟩ (by simp) rfl) (.con (.bool true)) (by rw [HV.out]; rfl) _ rfl
            obtain ⟨q0, q1, q2, q3⟩ := HS1.out w' h.1
            refine wpOp_step rfl fun K hK => ?_
            go_simp
            exact hK _ _ ⟨x35, x36, x37, _, x39, x40, _, x42, x43, x44, x45, rfl, h.same 6 _ (.con (.agg #[.string ks, .string kp])) (by rw [HV.out]; rfl) rfl⟩
          · obtain rfl : x38 = .bool true := h.get 3 (hw _ rfl ⟨3, .guard⟩ (by simp) rfl) (.con (.bool true)) (by rw [HV.out]; rfl) _ rfl
            refine wpOp_step rfl fun K hK => ?_
            go_simp
            exact hK _ _ ⟨x35, x36, x37, _, x39, x40, x41, _, x43, x44, x45, rfl, h.same 7 _ (.con (.string m)) (by rw [HV.out]; rfl) rfl⟩
          · obtain rfl : x38 = .bool true := h.get 3 (hw _ rfl ⟨3, .chain⟩ (by simp) rfl) (.con (.bool true)) (by rw [HV.out]; rfl) _ rfl
            obtain rfl : x41 = .agg #[.string ks, .string kp] := h.get 6 (hw _ rfl ⟨6, .data⟩ (by simp) rfl) (.con (.agg #[.string ks, .string kp])) (by rw [HV.out]; rfl) _ rfl
            obtain rfl : x42 = .string m := h.get 7 (hw _ rfl ⟨7, .data⟩ (by simp) rfl) (.con (.string m)) (by rw [HV.out]; rfl) _ rfl
            obtain ⟨q0, q1, q2, q3⟩ := HS1.out w' h.1
            refine wpOp_step rfl fun K hK => ?_
            go_simp
            refine (HSS.out w').mono ?_
            rintro e w2 ⟨rfl, hb2⟩
            exact hK _ _ ⟨x35, x36, x37, _, x39, x40, _, _, _, x44, x45, rfl, h.did hb2 8 _ (.con (.string R)) (by rw [HV.out]; rfl) rfl⟩
          · obtain rfl : x38 = .bool true := h.get 3 (hw _ rfl ⟨3, .guard⟩ (by simp) rfl) (.con (.bool true)) (by rw [HV.out]; rfl) _ rfl
            obtain rfl : x40 = .string sg := h.get 5 (hw _ rfl ⟨5, .data⟩ (by simp) rfl) (.con (.string sg)) (by rw [HV.out]; rfl) _ rfl
            obtain rfl : x43 = .string R := h.get 8 (hw _ rfl ⟨8, .data⟩ (by simp) rfl) (.con (.string R)) (by rw [HV.out]; rfl) _ rfl
            refine wpOp_step rfl fun K hK => ?_
            go_simp
            exact hK _ _ ⟨x35, x36, x37, _, x39, _, x41, x42, _, _, x45, rfl, h.same 9 _ (.con (.bool true)) (by rw [HV.out]; rfl) rfl⟩
          · obtain rfl : x38 = .bool true := h.get 3 (hw _ rfl ⟨3, .data⟩ (by simp) rfl) (.con (.bool true)) (by rw [HV.out]; rfl) _ rfl
            obtain rfl : x44 = .bool true := h.get 9 (hw _ rfl ⟨9, .data⟩ (by simp) rfl) (.con (.bool true)) (by rw [HV.out]; rfl) _ rfl
            refine wpOp_step rfl fun K hK => ?_
            go_simp
            exact hK _ _ ⟨x35, x36, x37, _, x39, x40, x41, x42, x43, _, _, rfl, h.same 10 _ (.con (.bool true)) (by rw [HV.out]; rfl) rfl⟩
          · omega
        case last =>
          rintro d a' w' hall ⟨x35, x36, x37, x38, x39, x40, x41, x42, x43, x44, x45, rfl, h⟩
          have hle := h.1
          obtain rfl : x45 = .bool true := h.get 10 (hall _ (by omega)) (.con (.bool true)) (by rw [HV.out]; rfl) _ rfl
          have HLE := Lib.hid hle
          clear h hall hle HV
          go_wp2
          go_ret
          exact ⟨ret_bool (by rw [HGD2.out, decide_eq_true HSC.out, decide_eq_true HR.out]; rfl), HB1.out.trans (HLE.out.mono HB1.out.size)⟩
      · have hrr : (sg.toList == R.toList) = false := eq_no hr
        have HR := Lib.hid hr
        clear hr
        go_upto_region 5 with fail
        obtain ⟨V, hV⟩ : ∃ V : List MP, V = [.con (.pointer (some ⟨w.heap.size, 0, none⟩)), .con (.string ks), .con (.bool true), .con (.bool true), .con (.pointer (some ⟨w.heap.size + 1, 1, none⟩)), .con (.string sg), .con (.agg #[.string ks, .string kp]), .con (.string m), .con (.string R), .con (.bool false), .con (.bool false)] := ⟨_, rfl⟩
        have HV := Lib.hid hV
        clear hV
        refine wp_region_inv 11 (fun d a' w' => ∃ x35 x36 x37 x38 x39 x40 x41 x42 x43 x44 x45, a' = ⟨#[Value.pointer (some { block := p, off := 0 }), Value.agg #[Value.string ks, Value.string kp], Value.agg #[Value.string si, Value.string sg], Value.string m, undef, Value.pointer (some { block := w.heap.size, off := 0 }), Value.pointer (some { block := w.heap.size + 1, off := 0 }), undef, Value.bool false, Value.string ID, Value.int IntKind.i64 0, undef, Value.tuple #[Value.string ID, Value.int IntKind.i64 0], Value.agg #[Value.string ks, Value.string kp], Value.tuple #[Value.string ID, Value.int IntKind.i64 0], Value.string ID, Value.int IntKind.i64 0, Value.int IntKind.i64 0, Value.bool false, Value.bool false, Value.string ID, Value.pointer (some { block := w.heap.size + 1, off := 0 }), Value.string si, Value.bool false, Value.bool false, Value.bool false, Value.pointer (some { block := w.heap.size + 1, off := 1 }), Value.string sg, Value.bool true, Value.bool false, Value.bool false, Value.pointer (some { block := p, off := 0 }), Value.pointer (some { block := p, off := 0 }), Value.pointer (some { block := p, off := 0 }), Value.bool true, x35, x36, x37, x38, x39, x40, x41, x42, x43, x44, x45, undef, undef, undef, undef, undef, undef, undef, undef, undef, undef, undef, undef, undef, undef, undef, undef, undef, undef, undef, undef, undef, undef, undef, undef, undef, undef, undef, undef, undef, undef, undef, undef, undef, undef, undef, undef, undef, undef, undef, undef, undef, undef, undef, undef, undef, undef], []⟩ ∧ RegI w1 V d w' [x35, x36, x37, x38, x39, x40, x41, x42, x43, x44, x45]) (by kernel_rfl) (by kernel_rfl) ?first ?step ?last
        case first => exact ⟨_, _, _, _, _, _, _, _, _, _, _, rfl, RegI.first _ _ _ (by rw [HV.out]; rfl)⟩
        case step =>
          rintro d a' w' ⟨x35, x36, x37, x38, x39, x40, x41, x42, x43, x44, x45, rfl, h⟩ q hq hn hw
          rcases q with _ | _ | _ | _ | _ | _ | _ | _ | _ | _ | _ | q
          · refine wpOp_step rfl fun K hK => ?_
            go_simp
            exact hK _ _ ⟨_, x36, x37, x38, x39, x40, x41, x42, x43, x44, x45, rfl, h.same 0 _ (.con (.pointer (some ⟨w.heap.size, 0, none⟩))) (by rw [HV.out]; rfl) rfl⟩
          · obtain rfl : x35 = .pointer (some ⟨w.heap.size, 0, none⟩) := h.get 0 (hw _ rfl ⟨0, .data⟩ (by simp) rfl) (.con (.pointer (some ⟨w.heap.size, 0, none⟩))) (by rw [HV.out]; rfl) _ rfl
            obtain ⟨q0, q1, q2, q3⟩ := HS1.out w' h.1
            refine wpOp_step rfl fun K hK => ?_
            go_simp
            exact hK _ _ ⟨_, _, x37, x38, x39, x40, x41, x42, x43, x44, x45, rfl, h.same 1 _ (.con (.string ks)) (by rw [HV.out]; rfl) rfl⟩
          · obtain rfl : x36 = .string ks := h.get 1 (hw _ rfl ⟨1, .data⟩ (by simp) rfl) (.con (.string ks)) (by rw [HV.out]; rfl) _ rfl
            refine wpOp_step rfl fun K hK => ?_
            go_simp
            exact hK _ _ ⟨x35, _, _, x38, x39, x40, x41, x42, x43, x44, x45, rfl, h.same 2 _ (.con (.bool true)) (by rw [HV.out]; rfl) rfl⟩
          · obtain rfl : x37 = .bool true := h.get 2 (hw _ rfl ⟨2, .data⟩ (by simp) rfl) (.con (.bool true)) (by rw [HV.out]; rfl) _ rfl
            refine wpOp_step rfl fun K hK => ?_
            go_simp
            exact hK _ _ ⟨x35, x36, _, _, x39, x40, x41, x42, x43, x44, x45, rfl, h.same 3 _ (.con (.bool true)) (by rw [HV.out]; rfl) rfl⟩
          · obtain rfl : x38 = .bool true := h.get 3 (hw _ rfl ⟨3, .guard⟩ (by simp) rfl) (.con (.bool true)) (by rw [HV.out]; rfl) _ rfl
            refine wpOp_step rfl fun K hK => ?_
            go_simp
            exact hK _ _ ⟨x35, x36, x37, _, _, x40, x41, x42, x43, x44, x45, rfl, h.same 4 _ (.con (.pointer (some ⟨w.heap.size + 1, 1, none⟩))) (by rw [HV.out]; rfl) rfl⟩
          · obtain rfl : x38 = .bool true := h.get 3 (hw _ rfl ⟨3, .guard⟩ (by simp) rfl) (.con (.bool true)) (by rw [HV.out]; rfl) _ rfl
            obtain rfl : x39 = .pointer (some ⟨w.heap.size + 1, 1, none⟩) := h.get 4 (hw _ rfl ⟨4, .data⟩ (by simp) rfl) (.con (.pointer (some ⟨w.heap.size + 1, 1, none⟩))) (by rw [HV.out]; rfl) _ rfl
            obtain ⟨q0, q1, q2, q3⟩ := HS1.out w' h.1
            refine wpOp_step rfl fun K hK => ?_
            go_simp
            exact hK _ _ ⟨x35, x36, x37, _, _, _, x41, x42, x43, x44, x45, rfl, h.same 5 _ (.con (.string sg)) (by rw [HV.out]; rfl) rfl⟩
          · obtain rfl : x38 = .bool true := h.get 3 (hw _ rfl ⟨3, .guard⟩ (by simp) rfl) (.con (.bool true)) (by rw [HV.out]; rfl) _ rfl
            obtain ⟨q0, q1, q2, q3⟩ := HS1.out w' h.1
            refine wpOp_step rfl fun K hK => ?_
            go_simp
            exact hK _ _ ⟨x35, x36, x37, _, x39, x40, _, x42, x43, x44, x45, rfl, h.same 6 _ (.con (.agg #[.string ks, .string kp])) (by rw [HV.out]; rfl) rfl⟩
          · obtain rfl : x38 = .bool true := h.get 3 (hw _ rfl ⟨3, .guard⟩ (by simp) rfl) (.con (.bool true)) (by rw [HV.out]; rfl) _ rfl
            refine wpOp_step rfl fun K hK => ?_
            go_simp
            exact hK _ _ ⟨x35, x36, x37, _, x39, x40, x41, _, x43, x44, x45, rfl, h.same 7 _ (.con (.string m)) (by rw [HV.out]; rfl) rfl⟩
          · obtain rfl : x38 = .bool true := h.get 3 (hw _ rfl ⟨3, .chain⟩ (by simp) rfl) (.con (.bool true)) (by rw [HV.out]; rfl) _ rfl
            obtain rfl : x41 = .agg #[.string ks, .string kp] := h.get 6 (hw _ rfl ⟨6, .data⟩ (by simp) rfl) (.con (.agg #[.string ks, .string kp])) (by rw [HV.out]; rfl) _ rfl
            obtain rfl : x42 = .string m := h.get 7 (hw _ rfl ⟨7, .data⟩ (by simp) rfl) (.con (.string m)) (by rw [HV.out]; rfl) _ rfl
            obtain ⟨q0, q1, q2, q3⟩ := HS1.out w' h.1
            refine wpOp_step rfl fun K hK => ?_
            go_simp
            refine (HSS.out w').mono ?_
            rintro e w2 ⟨rfl, hb2⟩
            exact hK _ _ ⟨x35, x36, x37, _, x39, x40, _, _, _, x44, x45, rfl, h.did hb2 8 _ (.con (.string R)) (by rw [HV.out]; rfl) rfl⟩
          · obtain rfl : x38 = .bool true := h.get 3 (hw _ rfl ⟨3, .guard⟩ (by simp) rfl) (.con (.bool true)) (by rw [HV.out]; rfl) _ rfl
            obtain rfl : x40 = .string sg := h.get 5 (hw _ rfl ⟨5, .data⟩ (by simp) rfl) (.con (.string sg)) (by rw [HV.out]; rfl) _ rfl
            obtain rfl : x43 = .string R := h.get 8 (hw _ rfl ⟨8, .data⟩ (by simp) rfl) (.con (.string R)) (by rw [HV.out]; rfl) _ rfl
            refine wpOp_step rfl fun K hK => ?_
            go_simp
            exact hK _ _ ⟨x35, x36, x37, _, x39, _, x41, x42, _, _, x45, rfl, h.same 9 _ (.con (.bool false)) (by rw [HV.out]; rfl) rfl⟩
          · obtain rfl : x38 = .bool true := h.get 3 (hw _ rfl ⟨3, .data⟩ (by simp) rfl) (.con (.bool true)) (by rw [HV.out]; rfl) _ rfl
            obtain rfl : x44 = .bool false := h.get 9 (hw _ rfl ⟨9, .data⟩ (by simp) rfl) (.con (.bool false)) (by rw [HV.out]; rfl) _ rfl
            refine wpOp_step rfl fun K hK => ?_
            go_simp
            exact hK _ _ ⟨x35, x36, x37, _, x39, x40, x41, x42, x43, _, _, rfl, h.same 10 _ (.con (.bool false)) (by rw [HV.out]; rfl) rfl⟩
          · omega
        case last =>
          rintro d a' w' hall ⟨x35, x36, x37, x38, x39, x40, x41, x42, x43, x44, x45, rfl, h⟩
          have hle := h.1
          obtain rfl : x45 = .bool false := h.get 10 (hall _ (by omega)) (.con (.bool false)) (by rw [HV.out]; rfl) _ rfl
          have HLE := Lib.hid hle
          clear h hall hle HV
          go_wp2
          go_ret
          exact ⟨ret_bool (by rw [HGD2.out, decide_eq_true HSC.out, decide_eq_false HR.out]; rfl), HB1.out.trans (HLE.out.mono HB1.out.size)⟩
    · have hsc := scheme_no hsch
      have HSC := Lib.hid hsch
      clear hsch HSU
      go_upto_region 5 with fail
      obtain ⟨V, hV⟩ : ∃ V : List MP, V = [.con (.pointer (some ⟨w.heap.size, 0, none⟩)), .con (.string ks), .con (.bool false), .con (.bool false), .any, .any, .any, .any, .any, .any, .con (.bool false)] := ⟨_, rfl⟩
      have HV := Lib.hid hV
      clear hV
      refine wp_region_inv 11 (fun d a' w' => ∃ x35 x36 x37 x38 x39 x40 x41 x42 x43 x44 x45, a' = ⟨#[Value.pointer (some { block := p, off := 0 }), Value.agg #[Value.string ks, Value.string kp], Value.agg #[Value.string si, Value.string sg], Value.string m, undef, Value.pointer (some { block := w.heap.size, off := 0 }), Value.pointer (some { block := w.heap.size + 1, off := 0 }), undef, Value.bool false, Value.string ID, Value.int IntKind.i64 0, undef, Value.tuple #[Value.string ID, Value.int IntKind.i64 0], Value.agg #[Value.string ks, Value.string kp], Value.tuple #[Value.string ID, Value.int IntKind.i64 0], Value.string ID, Value.int IntKind.i64 0, Value.int IntKind.i64 0, Value.bool false, Value.bool false, Value.string ID, Value.pointer (some { block := w.heap.size + 1, off := 0 }), Value.string si, Value.bool false, Value.bool false, Value.bool false, Value.pointer (some { block := w.heap.size + 1, off := 1 }), Value.string sg, Value.bool true, Value.bool false, Value.bool false, Value.pointer (some { block := p, off := 0 }), Value.pointer (some { block := p, off := 0 }), Value.pointer (some { block := p, off := 0 }), Value.bool true, x35, x36, x37, x38, x39, x40, x41, x42, x43, x44, x45, undef, undef, undef, undef, undef, undef, undef, undef, undef, undef, undef, undef, undef, undef, undef, undef, undef, undef, undef, undef, undef, undef, undef, undef, undef, undef, undef, undef, undef, undef, undef, undef, undef, undef, undef, undef, undef, undef, undef, undef, undef, undef, undef, undef, undef, undef], []⟩ ∧ RegI w1 V d w' [x35, x36, x37, x38, x39, x40, x41, x42, x43, x44, x45]) (by kernel_rfl) (by kernel_rfl) ?first ?step ?last
      case first => exact ⟨_, _, _, _, _, _, _, _, _, _, _, rfl, RegI.first _ _ _ (by rw [HV.out]; rfl)⟩
      case step =>
        rintro d a' w' ⟨x35, x36, x37, x38, x39, x40, x41, x42, x43, x44, x45, rfl, h⟩ q hq hn hw
        rcases q with _ | _ | _ | _ | _ | _ | _ | _ | _ | _ | _ | q
        · refine wpOp_step rfl fun K hK => ?_
          go_simp
          exact hK _ _ ⟨_, x36, x37, x38, x39, x40, x41, x42, x43, x44, x45, rfl, h.same 0 _ (.con (.pointer (some ⟨w.heap.size, 0, none⟩))) (by rw [HV.out]; rfl) rfl⟩
        · obtain rfl : x35 = .pointer (some ⟨w.heap.size, 0, none⟩) := h.get 0 (hw _ rfl ⟨0, .data⟩ (by simp) rfl) (.con (.pointer (some ⟨w.heap.size, 0, none⟩))) (by rw [HV.out]; rfl) _ rfl
          obtain ⟨q0, q1, q2, q3⟩ := HS1.out w' h.1
          refine wpOp_step rfl fun K hK => ?_
          go_simp
          exact hK _ _ ⟨_, _, x37, x38, x39, x40, x41, x42, x43, x44, x45, rfl, h.same 1 _ (.con (.string ks)) (by rw [HV.out]; rfl) rfl⟩
        · obtain rfl : x36 = .string ks := h.get 1 (hw _ rfl ⟨1, .data⟩ (by simp) rfl) (.con (.string ks)) (by rw [HV.out]; rfl) _ rfl
          refine wpOp_step rfl fun K hK => ?_
          go_simp
          exact hK _ _ ⟨x35, _, _, x38, x39, x40, x41, x42, x43, x44, x45, rfl, h.same 2 _ (.con (.bool false)) (by rw [HV.out]; rfl) rfl⟩
        · obtain rfl : x37 = .bool false := h.get 2 (hw _ rfl ⟨2, .data⟩ (by simp) rfl) (.con (.bool false)) (by rw [HV.out]; rfl) _ rfl
          refine wpOp_step rfl fun K hK => ?_
          go_simp
          exact hK _ _ ⟨x35, x36, _, _, x39, x40, x41, x42, x43, x44, x45, rfl, h.same 3 _ (.con (.bool false)) (by rw [HV.out]; rfl) rfl⟩
        · obtain rfl : x38 = .bool false := h.get 3 (hw _ rfl ⟨3, .guard⟩ (by simp) rfl) (.con (.bool false)) (by rw [HV.out]; rfl) _ rfl
          refine wpOp_step rfl fun K hK => ?_
          go_simp
          exact hK _ _ ⟨x35, x36, x37, _, _, x40, x41, x42, x43, x44, x45, rfl, h.same 4 _ .any (by rw [HV.out]; rfl) trivial⟩
        · obtain rfl : x38 = .bool false := h.get 3 (hw _ rfl ⟨3, .guard⟩ (by simp) rfl) (.con (.bool false)) (by rw [HV.out]; rfl) _ rfl
          refine wpOp_step rfl fun K hK => ?_
          go_simp
          exact hK _ _ ⟨x35, x36, x37, _, x39, _, x41, x42, x43, x44, x45, rfl, h.same 5 _ .any (by rw [HV.out]; rfl) trivial⟩
        · obtain rfl : x38 = .bool false := h.get 3 (hw _ rfl ⟨3, .guard⟩ (by simp) rfl) (.con (.bool false)) (by rw [HV.out]; rfl) _ rfl
          refine wpOp_step rfl fun K hK => ?_
          go_simp
          exact hK _ _ ⟨x35, x36, x37, _, x39, x40, _, x42, x43, x44, x45, rfl, h.same 6 _ .any (by rw [HV.out]; rfl) trivial⟩
        · obtain rfl : x38 = .bool false := h.get 3 (hw _ rfl ⟨3, .guard⟩ (by simp) rfl) (.con (.bool false)) (by rw [HV.out]; rfl) _ rfl
          refine wpOp_step rfl fun K hK => ?_
          go_simp
          exact hK _ _ ⟨x35, x36, x37, _, x39, x40, x41, _, x43, x44, x45, rfl, h.same 7 _ .any (by rw [HV.out]; rfl) trivial⟩
        · obtain rfl : x38 = .bool false := h.get 3 (hw _ rfl ⟨3, .chain⟩ (by simp) rfl) (.con (.bool false)) (by rw [HV.out]; rfl) _ rfl
          refine wpOp_step rfl fun K hK => ?_
          go_simp
          exact hK _ _ ⟨x35, x36, x37, _, x39, x40, x41, x42, _, x44, x45, rfl, h.same 8 _ .any (by rw [HV.out]; rfl) trivial⟩
        · obtain rfl : x38 = .bool false := h.get 3 (hw _ rfl ⟨3, .guard⟩ (by simp) rfl) (.con (.bool false)) (by rw [HV.out]; rfl) _ rfl
          refine wpOp_step rfl fun K hK => ?_
          go_simp
          exact hK _ _ ⟨x35, x36, x37, _, x39, x40, x41, x42, x43, _, x45, rfl, h.same 9 _ .any (by rw [HV.out]; rfl) trivial⟩
        · obtain rfl : x38 = .bool false := h.get 3 (hw _ rfl ⟨3, .data⟩ (by simp) rfl) (.con (.bool false)) (by rw [HV.out]; rfl) _ rfl
          refine wpOp_step rfl fun K hK => ?_
          go_simp
          exact hK _ _ ⟨x35, x36, x37, _, x39, x40, x41, x42, x43, x44, _, rfl, h.same 10 _ (.con (.bool false)) (by rw [HV.out]; rfl) rfl⟩
        · omega
      case last =>
        rintro d a' w' hall ⟨x35, x36, x37, x38, x39, x40, x41, x42, x43, x44, x45, rfl, h⟩
        have hle := h.1
        obtain rfl : x45 = .bool false := h.get 10 (hall _ (by omega)) (.con (.bool false)) (by rw [HV.out]; rfl) _ rfl
        have HLE := Lib.hid hle
        clear h hall hle HV
        go_wp2
        go_ret
        exact ⟨ret_bool (by rw [HGD2.out, decide_eq_false HSC.out]; rfl), HB1.out.trans (HLE.out.mono HB1.out.size)⟩

set_option maxHeartbeats 4000000 in
set_option maxRecDepth 100000 in
theorem ref17Good_tab (l : List Ver3) (a : Option Addr) (c p : Nat) (k : Key2) (s : Sig2) (m : ByteArray) (w : World) (hp : w.heap[p]? = some (.cells #[.bool false, .slice a l.length c] 87 (0, 0))) (h1 : k.1.size ≤ 300) (h2 : k.2.size ≤ 300) (h3 : s.2.size ≤ 9223372036854775807) (hm : m.size ≤ 1099511620000) (hl : l.length ≤ 60) (hR : TrisAt w 0 w.heap.size a l) :
    Calls Tryz.prog 17 #[.pointer (some ⟨p, 0, none⟩), .agg #[.string k.1, .string k.2], .agg #[.string s.1, .string s.2], .string m] w fun e w' => e = .returned (.bool ((Ver.tab l).good k s m.data.toList)) ∧ Below w.heap.size w w' := by
  have HKI := Lib.hid (fun w => refId2 k w h1 h2)
  have HDG := Lib.hid (fun w => refDigest m w (by omega))
  have HHX := Lib.hid (fun w => ref14Hex s.2 w h3)
  have HGD := Lib.hid (good_tab_ref l k s m.data.toList)
  have hpl := heap_lt hp
  have HRT := Lib.hid hR
  obtain ⟨ks, kp⟩ := k
  obtain ⟨si, sg⟩ := s
  obtain ⟨W, hW⟩ : ∃ W, W = (w.alloc (.cells #[.string ks, .string kp] 24)).alloc (.cells #[.string si, .string sg] 26) := ⟨_, rfl⟩
  have HBW := Lib.hid (show Below w.heap.size w W by rw [hW]; exact below_n2 w _ _)
  have hx0 : W.heap[w.heap.size]? = some (.cells #[.string ks, .string kp] 24 (0, 0)) := by
    rw [hW, Below.heap_alloc _ _ _ (by simp)]; exact heap_alloc_new w _
  have hx1 : W.heap[w.heap.size + 1]? = some (.cells #[.string si, .string sg] 26 (0, 0)) := by
    rw [hW]
    have := heap_alloc_new (w.alloc (.cells #[.string ks, .string kp] 24)) (.cells #[.string si, .string sg] 26)
    simpa using this
  have HS := Lib.hid (show ∀ w' : World, Below W.heap.size W w' → w'.cell? ⟨w.heap.size, 0, none⟩ = some (.string ks) ∧ w'.cell? ⟨w.heap.size, 1, none⟩ = some (.string kp) ∧ w'.cell? ⟨w.heap.size + 1, 0, none⟩ = some (.string si) ∧ w'.cell? ⟨w.heap.size + 1, 1, none⟩ = some (.string sg) from fun w' h => by
    have y0 := (h.block _ (heap_lt hx0)).trans hx0
    have y1 := (h.block _ (heap_lt hx1)).trans hx1
    exact ⟨box_cell y0 rfl, box_cell y0 rfl, box_cell y1 rfl, box_cell y1 rfl⟩)
  have HW := Lib.hid hW
  clear hW hx0 hx1
  have HP := Lib.hid (show ∀ w' : World, Below w.heap.size w w' → w'.cell? ⟨p, 0, none⟩ = some (.bool false) ∧ w'.cell? ⟨p, 1, none⟩ = some (.slice a l.length c) from fun w' h => by
    have y := (h.block p hpl).trans hp
    exact ⟨box_cell y rfl, box_cell y rfl⟩)
  clear hp hR
  obtain ⟨D, hD⟩ : ∃ D : ByteArray, D = ⟨(shaHex m.data.toList).toArray⟩ := ⟨_, rfl⟩
  replace HGD := Lib.hid (show (Ver.tab l).good (ks, kp) (si, sg) m.data.toList = (ok2 (ks, kp) && (decide (id2 (ks, kp) = si) && (pubOk sg.data.toList && l.any fun v => decide (v.1 = si ∧ v.2.1 = sg ∧ v.2.2 = D)))) from by rw [hD]; exact HGD.out)
  rw [← hD] at HDG
  obtain ⟨GG, hGG⟩ : ∃ GG, GG = (Ver.tab l).good (ks, kp) (si, sg) m.data.toList := ⟨_, rfl⟩
  rw [← hGG] at HGD ⊢
  clear hD
  obtain ⟨ID, hID⟩ : ∃ ID, ID = id2 (ks, kp) := ⟨_, rfl⟩
  obtain ⟨ok, hok⟩ : ∃ ok, ok = ok2 (ks, kp) := ⟨_, rfl⟩
  obtain ⟨pb, hpb⟩ : ∃ pb, pb = pubOk sg.data.toList := ⟨_, rfl⟩
  replace HKI := Lib.hid (show ∀ w, Calls Tryz.prog 41 #[.agg #[.string ks, .string kp]] w fun e w' => e = .returned (.tuple #[.string ID, .int .i64 (if ok = true then 0 else 3)]) ∧ Below w.heap.size w w' from by rw [hID, hok]; exact HKI.out)
  replace HHX := Lib.hid (show ∀ w, Calls Tryz.prog 42 #[.string sg] w fun e w' => e = .returned (.bool pb) ∧ w = w' from by rw [hpb]; exact HHX.out)
  rw [← hID, ← hpb, ← hok] at HGD
  have HOK := Lib.hid hok
  clear hID hpb hok hGG
  obtain ⟨q0, q1, q2, q3⟩ := HS.out W (Below.refl _ _)
  go_enter Tryz.func17, Tryz.ntmps17
  go_wp2_with fail
  rw [← HW.out]
  refine (HKI.out W).mono ?_
  clear HKI q0 q1 q2 q3
  rintro e w1 ⟨rfl, hb1⟩
  have HB1 := Lib.hid (HBW.out.trans (hb1.mono HBW.out.size))
  have HS1 := Lib.hid (show ∀ w' : World, Below w1.heap.size w1 w' → w'.cell? ⟨w.heap.size, 0, none⟩ = some (.string ks) ∧ w'.cell? ⟨w.heap.size, 1, none⟩ = some (.string kp) ∧ w'.cell? ⟨w.heap.size + 1, 0, none⟩ = some (.string si) ∧ w'.cell? ⟨w.heap.size + 1, 1, none⟩ = some (.string sg) from fun w' h => HS.out w' (hb1.trans (h.mono hb1.size)))
  clear hb1 HS
  obtain ⟨q0, q1, q2, q3⟩ := HS1.out w1 (Below.refl _ _)
  cases ok
  · rw [if_neg (by simp)]
    go_wp2
    go_ret
    exact ⟨ret_bool (by rw [HGD.out]; rfl), HB1.out⟩
  rw [if_pos rfl]
  by_cases hid : ID = si
  case neg =>
    have hd : (ID.toList == si.toList) = false := eq_no hid
    have HD := Lib.hid hid
    clear hid
    go_wp2
    go_ret
    exact ⟨ret_bool (by rw [HGD.out, decide_eq_false HD.out]; rfl), HB1.out⟩
  have hd : (ID.toList == si.toList) = true := eq_yes hid
  have HD := Lib.hid hid
  clear hid
  cases pb
  · go_wp2_with fail
    refine (HHX.out _).mono ?_
    rintro e w2 ⟨rfl, rfl⟩
    go_wp2
    go_ret
    exact ⟨ret_bool (by rw [HGD.out]; simp), HB1.out⟩
  · go_wp2_with fail
    refine (HHX.out _).mono ?_
    rintro e w2 ⟨rfl, rfl⟩
    have HGD2 := Lib.hid HGD.out
    rw [decide_eq_true HD.out, Bool.true_and, Bool.true_and, Bool.true_and] at HGD2
    clear HGD HHX
    -- the key may be, the ID is its, the digits may be
    obtain ⟨v0, v1⟩ := HP.out w1 HB1.out
    have HHD := Lib.hid hd
    go_wp2_with fail
    clear q0 q1 q2 q3 v0 v1 hd
    go_loopw [11] (fun i wr => ∃ k : Nat, k ≤ l.length ∧ i = .int .i64 k ∧ (∀ j (hj : j < k) (hj2 : j < l.length), ¬ (l[j].1 = si ∧ l[j].2.1 = sg ∧ l[j].2.2 = D)) ∧ Below w1.heap.size w1 wr) (fun i _ => l.length - (intOf i).toNat)
    case atStart => exact ⟨0, Nat.zero_le _, rfl, (fun j hj => by omega), Below.refl _ _⟩
    case round =>
      obtain ⟨k, hk, rfl, hno, hbr⟩ := hrel
      have HNO := Lib.hid hno
      have HBR := Lib.hid hbr
      have HBX := Lib.hid (show ∀ w' : World, Below wr.heap.size wr w' → Below w.heap.size w w' from fun w' h => HB1.out.trans ((hbr.trans (h.mono hbr.size)).mono HB1.out.size))
      clear hno hbr
      obtain ⟨v0, v1⟩ := HP.out wr (HBX.out wr (Below.refl _ _))
      by_cases hlt : k < l.length
      · have m1 : (k : Int) < (l.length : Int) := by omega
        have m0 : (0 : Int) ≤ (k : Int) := by omega
        obtain ⟨b, off, ha, _, hb, e0, e1, e2⟩ := HRT.out.at k hlt
        subst ha
        obtain ⟨x, hx⟩ : ∃ x, x = l[k] := ⟨_, rfl⟩
        rw [← hx] at e0 e1 e2
        have HX := Lib.hid hx
        clear hx
        obtain ⟨x0, x1, x2⟩ := x
        have HC := Lib.hid (show ∀ w' : World, Below wr.heap.size wr w' → w'.cell? ⟨p, 0, none⟩ = some (.bool false) ∧ w'.cell? ⟨p, 1, none⟩ = some (.slice (some ⟨b, off, none⟩) l.length c) ∧ w'.cell? ⟨w.heap.size + 1, 0, none⟩ = some (.string si) ∧ w'.cell? ⟨w.heap.size + 1, 1, none⟩ = some (.string sg) ∧ w'.cell? ⟨b, off + k * 3, none⟩ = some (.string x0) ∧ w'.cell? ⟨b, off + k * 3 + 1, none⟩ = some (.string x1) ∧ w'.cell? ⟨b, off + k * 3 + 2, none⟩ = some (.string x2) from fun w' h => by
          have hw := HBX.out w' h
          have hs := HS1.out w' (HBR.out.trans (h.mono HBR.out.size))
          exact ⟨(HP.out w' hw).1, (HP.out w' hw).2, hs.2.2.1, hs.2.2.2, (World.cell?_of_block (w := w) (hw.block b hb)).trans e0, (World.cell?_of_block (w := w) (hw.block b hb)).trans e1, (World.cell?_of_block (w := w) (hw.block b hb)).trans e2⟩)
        clear e0 e1 e2 hb
        by_cases t0 : x0 = si
        case neg =>
          have d0 : (x0.toList == si.toList) = false := eq_no t0
          have HT0 := Lib.hid t0
          clear t0
          go_upto_region 9 with fail
          clear v0 v1
          obtain ⟨V, hV⟩ : ∃ V : List MP, V = [.con (.pointer (some ⟨p, 0, none⟩)), .con (.pointer (some ⟨p, 0, none⟩)), .con (.pointer (some ⟨p, 1, none⟩)), .con (.slice (some ⟨b, off, none⟩) l.length c), .con (.int .i64 (k : Int)), .con (.pointer (some ⟨b, off + k * 3, none⟩)), .con (.pointer (some ⟨b, off + k * 3, none⟩)), .con (.string x0), .con (.pointer (some ⟨w.heap.size + 1, 0, none⟩)), .con (.string si), .con (.bool false), .con (.bool false), .any, .any, .any, .any, .any, .any, .any, .any, .any, .any, .any, .con (.bool false), .con (.bool false), .any, .any, .any, .any, .any, .any, .any, .any, .any, .any, .any] := ⟨_, rfl⟩
          have HV := Lib.hid hV
          clear hV
          refine wp_region_inv 36 (fun d a' w' => ∃ x55 x56 x57 x58 x59 x60 x61 x62 x63 x64 x65 x66 x67 x68 x69 x70 x71 x72 x73 x74 x75 x76 x77 x78 x79 x80 x81 x82 x83 x84 x85 x86 x87 x88 x89 x90, a' = ⟨#[Value.pointer (some { block := p, off := 0 }), Value.agg #[Value.string ks, Value.string kp], Value.agg #[Value.string si, Value.string sg], Value.string m, undef, Value.pointer (some { block := w.heap.size, off := 0 }), Value.pointer (some { block := w.heap.size + 1, off := 0 }), undef, u8, Value.string ID, Value.int IntKind.i64 0, Value.int IntKind.i64 (k : Int), Value.tuple #[Value.string ID, Value.int IntKind.i64 0], Value.agg #[Value.string ks, Value.string kp], Value.tuple #[Value.string ID, Value.int IntKind.i64 0], Value.string ID, Value.int IntKind.i64 0, Value.int IntKind.i64 0, Value.bool false, Value.bool false, Value.string ID, Value.pointer (some { block := w.heap.size + 1, off := 0 }), Value.string si, Value.bool false, Value.bool false, Value.bool false, Value.pointer (some { block := w.heap.size + 1, off := 1 }), Value.string sg, Value.bool true, Value.bool false, Value.bool false, Value.pointer (some { block := p, off := 0 }), Value.pointer (some { block := p, off := 0 }), Value.pointer (some { block := p, off := 0 }), Value.bool false, undef, undef, undef, undef, undef, undef, undef, undef, undef, undef, undef, Value.int IntKind.i64 (k : Int), Value.pointer (some { block := p, off := 0 }), Value.pointer (some { block := p, off := 0 }), Value.pointer (some { block := p, off := 1 }), Value.slice (some { block := b, off := off }) l.length c, Value.int IntKind.i64 (l.length : Int), Value.bool true, u53, u54, x55, x56, x57, x58, x59, x60, x61, x62, x63, x64, x65, x66, x67, x68, x69, x70, x71, x72, x73, x74, x75, x76, x77, x78, x79, x80, x81, x82, x83, x84, x85, x86, x87, x88, x89, x90, u91], []⟩ ∧ RegI wr V d w' [x55, x56, x57, x58, x59, x60, x61, x62, x63, x64, x65, x66, x67, x68, x69, x70, x71, x72, x73, x74, x75, x76, x77, x78, x79, x80, x81, x82, x83, x84, x85, x86, x87, x88, x89, x90]) (by kernel_rfl) (by kernel_rfl) ?first ?step ?last
          case first => exact ⟨_, _, _, _, _, _, _, _, _, _, _, _, _, _, _, _, _, _, _, _, _, _, _, _, _, _, _, _, _, _, _, _, _, _, _, _, rfl, RegI.first _ _ _ (by rw [HV.out]; rfl)⟩
          case step =>
            rintro d a' w' ⟨x55, x56, x57, x58, x59, x60, x61, x62, x63, x64, x65, x66, x67, x68, x69, x70, x71, x72, x73, x74, x75, x76, x77, x78, x79, x80, x81, x82, x83, x84, x85, x86, x87, x88, x89, x90, rfl, h⟩ q hq hn hw
            rcases q with _ | _ | _ | _ | _ | _ | _ | _ | _ | _ | _ | _ | _ | _ | _ | _ | _ | _ | _ | _ | _ | _ | _ | _ | _ | _ | _ | _ | _ | _ | _ | _ | _ | _ | _ | _ | q
            · refine wpOp_step rfl fun K hK => ?_
              go_simp
              exact hK _ _ ⟨_, x56, x57, x58, x59, x60, x61, x62, x63, x64, x65, x66, x67, x68, x69, x70, x71, x72, x73, x74, x75, x76, x77, x78, x79, x80, x81, x82, x83, x84, x85, x86, x87, x88, x89, x90, rfl, h.same 0 _ (.con (.pointer (some ⟨p, 0, none⟩))) (by rw [HV.out]; rfl) rfl⟩
            · obtain rfl : x55 = .pointer (some ⟨p, 0, none⟩) := h.get 0 (hw _ rfl ⟨0, .data⟩ (by simp) rfl) (.con (.pointer (some ⟨p, 0, none⟩))) (by rw [HV.out]; rfl) _ rfl
              refine wpOp_step rfl fun K hK => ?_
              go_simp
              exact hK _ _ ⟨_, _, x57, x58, x59, x60, x61, x62, x63, x64, x65, x66, x67, x68, x69, x70, x71, x72, x73, x74, x75, x76, x77, x78, x79, x80, x81, x82, x83, x84, x85, x86, x87, x88, x89, x90, rfl, h.same 1 _ (.con (.pointer (some ⟨p, 0, none⟩))) (by rw [HV.out]; rfl) rfl⟩
            · obtain rfl : x56 = .pointer (some ⟨p, 0, none⟩) := h.get 1 (hw _ rfl ⟨1, .data⟩ (by simp) rfl) (.con (.pointer (some ⟨p, 0, none⟩))) (by rw [HV.out]; rfl) _ rfl
              refine wpOp_step rfl fun K hK => ?_
              go_simp
              exact hK _ _ ⟨x55, _, _, x58, x59, x60, x61, x62, x63, x64, x65, x66, x67, x68, x69, x70, x71, x72, x73, x74, x75, x76, x77, x78, x79, x80, x81, x82, x83, x84, x85, x86, x87, x88, x89, x90, rfl, h.same 2 _ (.con (.pointer (some ⟨p, 1, none⟩))) (by rw [HV.out]; rfl) rfl⟩
            · obtain rfl : x57 = .pointer (some ⟨p, 1, none⟩) := h.get 2 (hw _ rfl ⟨2, .data⟩ (by simp) rfl) (.con (.pointer (some ⟨p, 1, none⟩))) (by rw [HV.out]; rfl) _ rfl
              obtain ⟨v0, v1, g0, g1, e0, e1, e2⟩ := HC.out w' h.1
              refine wpOp_step rfl fun K hK => ?_
              go_simp
              exact hK _ _ ⟨x55, x56, _, _, x59, x60, x61, x62, x63, x64, x65, x66, x67, x68, x69, x70, x71, x72, x73, x74, x75, x76, x77, x78, x79, x80, x81, x82, x83, x84, x85, x86, x87, x88, x89, x90, rfl, h.same 3 _ (.con (.slice (some ⟨b, off, none⟩) l.length c)) (by rw [HV.out]; rfl) rfl⟩
            · refine wpOp_step rfl fun K hK => ?_
              go_simp
              exact hK _ _ ⟨x55, x56, x57, x58, _, x60, x61, x62, x63, x64, x65, x66, x67, x68, x69, x70, x71, x72, x73, x74, x75, x76, x77, x78, x79, x80, x81, x82, x83, x84, x85, x86, x87, x88, x89, x90, rfl, h.same 4 _ (.con (.int .i64 (k : Int))) (by rw [HV.out]; rfl) rfl⟩
            · obtain rfl : x58 = .slice (some ⟨b, off, none⟩) l.length c := h.get 3 (hw _ rfl ⟨3, .data⟩ (by simp) rfl) (.con (.slice (some ⟨b, off, none⟩) l.length c)) (by rw [HV.out]; rfl) _ rfl
              obtain rfl : x59 = .int .i64 (k : Int) := h.get 4 (hw _ rfl ⟨4, .data⟩ (by simp) rfl) (.con (.int .i64 (k : Int))) (by rw [HV.out]; rfl) _ rfl
              obtain ⟨v0, v1, g0, g1, e0, e1, e2⟩ := HC.out w' h.1
              refine wpOp_step rfl fun K hK => ?_
              go_simp
              exact hK _ _ ⟨x55, x56, x57, _, _, _, x61, x62, x63, x64, x65, x66, x67, x68, x69, x70, x71, x72, x73, x74, x75, x76, x77, x78, x79, x80, x81, x82, x83, x84, x85, x86, x87, x88, x89, x90, rfl, h.same 5 _ (.con (.pointer (some ⟨b, off + k * 3, none⟩))) (by rw [HV.out]; rfl) rfl⟩
            · obtain rfl : x60 = .pointer (some ⟨b, off + k * 3, none⟩) := h.get 5 (hw _ rfl ⟨5, .data⟩ (by simp) rfl) (.con (.pointer (some ⟨b, off + k * 3, none⟩))) (by rw [HV.out]; rfl) _ rfl
              refine wpOp_step rfl fun K hK => ?_
              go_simp
              exact hK _ _ ⟨x55, x56, x57, x58, x59, _, _, x62, x63, x64, x65, x66, x67, x68, x69, x70, x71, x72, x73, x74, x75, x76, x77, x78, x79, x80, x81, x82, x83, x84, x85, x86, x87, x88, x89, x90, rfl, h.same 6 _ (.con (.pointer (some ⟨b, off + k * 3, none⟩))) (by rw [HV.out]; rfl) rfl⟩
            · obtain rfl : x61 = .pointer (some ⟨b, off + k * 3, none⟩) := h.get 6 (hw _ rfl ⟨6, .data⟩ (by simp) rfl) (.con (.pointer (some ⟨b, off + k * 3, none⟩))) (by rw [HV.out]; rfl) _ rfl
              obtain ⟨v0, v1, g0, g1, e0, e1, e2⟩ := HC.out w' h.1
              refine wpOp_step rfl fun K hK => ?_
              go_simp
              exact hK _ _ ⟨x55, x56, x57, x58, x59, x60, _, _, x63, x64, x65, x66, x67, x68, x69, x70, x71, x72, x73, x74, x75, x76, x77, x78, x79, x80, x81, x82, x83, x84, x85, x86, x87, x88, x89, x90, rfl, h.same 7 _ (.con (.string x0)) (by rw [HV.out]; rfl) rfl⟩
            · refine wpOp_step rfl fun K hK => ?_
              go_simp
              exact hK _ _ ⟨x55, x56, x57, x58, x59, x60, x61, x62, _, x64, x65, x66, x67, x68, x69, x70, x71, x72, x73, x74, x75, x76, x77, x78, x79, x80, x81, x82, x83, x84, x85, x86, x87, x88, x89, x90, rfl, h.same 8 _ (.con (.pointer (some ⟨w.heap.size + 1, 0, none⟩))) (by rw [HV.out]; rfl) rfl⟩
            · obtain rfl : x63 = .pointer (some ⟨w.heap.size + 1, 0, none⟩) := h.get 8 (hw _ rfl ⟨8, .data⟩ (by simp) rfl) (.con (.pointer (some ⟨w.heap.size + 1, 0, none⟩))) (by rw [HV.out]; rfl) _ rfl
              obtain ⟨v0, v1, g0, g1, e0, e1, e2⟩ := HC.out w' h.1
              refine wpOp_step rfl fun K hK => ?_
              go_simp
              exact hK _ _ ⟨x55, x56, x57, x58, x59, x60, x61, x62, _, _, x65, x66, x67, x68, x69, x70, x71, x72, x73, x74, x75, x76, x77, x78, x79, x80, x81, x82, x83, x84, x85, x86, x87, x88, x89, x90, rfl, h.same 9 _ (.con (.string si)) (by rw [HV.out]; rfl) rfl⟩
            · obtain rfl : x62 = .string x0 := h.get 7 (hw _ rfl ⟨7, .data⟩ (by simp) rfl) (.con (.string x0)) (by rw [HV.out]; rfl) _ rfl
              obtain rfl : x64 = .string si := h.get 9 (hw _ rfl ⟨9, .data⟩ (by simp) rfl) (.con (.string si)) (by rw [HV.out]; rfl) _ rfl
              refine wpOp_step rfl fun K hK => ?_
              go_simp
              exact hK _ _ ⟨x55, x56, x57, x58, x59, x60, x61, _, x63, _, _, x66, x67, x68, x69, x70, x71, x72, x73, x74, x75, x76, x77, x78, x79, x80, x81, x82, x83, x84, x85, x86, x87, x88, x89, x90, rfl, h.same 10 _ (.con (.bool false)) (by rw [HV.out]; rfl) rfl⟩
            · obtain rfl : x65 = .bool false := h.get 10 (hw _ rfl ⟨10, .data⟩ (by simp) rfl) (.con (.bool false)) (by rw [HV.out]; rfl) _ rfl
              refine wpOp_step rfl fun K hK => ?_
              go_simp
              exact hK _ _ ⟨x55, x56, x57, x58, x59, x60, x61, x62, x63, x64, _, _, x67, x68, x69, x70, x71, x72, x73, x74, x75, x76, x77, x78, x79, x80, x81, x82, x83, x84, x85, x86, x87, x88, x89, x90, rfl, h.same 11 _ (.con (.bool false)) (by rw [HV.out]; rfl) rfl⟩
            · obtain rfl : x66 = .bool false := h.get 11 (hw _ rfl ⟨11, .guard⟩ (by simp) rfl) (.con (.bool false)) (by rw [HV.out]; rfl) _ rfl
              refine wpOp_step rfl fun K hK => ?_
              go_simp
              exact hK _ _ ⟨x55, x56, x57, x58, x59, x60, x61, x62, x63, x64, x65, _, _, x68, x69, x70, x71, x72, x73, x74, x75, x76, x77, x78, x79, x80, x81, x82, x83, x84, x85, x86, x87, x88, x89, x90, rfl, h.same 12 _ .any (by rw [HV.out]; rfl) trivial⟩
            · obtain rfl : x66 = .bool false := h.get 11 (hw _ rfl ⟨11, .guard⟩ (by simp) rfl) (.con (.bool false)) (by rw [HV.out]; rfl) _ rfl
              refine wpOp_step rfl fun K hK => ?_
              go_simp
              exact hK _ _ ⟨x55, x56, x57, x58, x59, x60, x61, x62, x63, x64, x65, _, x67, _, x69, x70, x71, x72, x73, x74, x75, x76, x77, x78, x79, x80, x81, x82, x83, x84, x85, x86, x87, x88, x89, x90, rfl, h.same 13 _ .any (by rw [HV.out]; rfl) trivial⟩
            · obtain rfl : x66 = .bool false := h.get 11 (hw _ rfl ⟨11, .guard⟩ (by simp) rfl) (.con (.bool false)) (by rw [HV.out]; rfl) _ rfl
              refine wpOp_step rfl fun K hK => ?_
              go_simp
              exact hK _ _ ⟨x55, x56, x57, x58, x59, x60, x61, x62, x63, x64, x65, _, x67, x68, _, x70, x71, x72, x73, x74, x75, x76, x77, x78, x79, x80, x81, x82, x83, x84, x85, x86, x87, x88, x89, x90, rfl, h.same 14 _ .any (by rw [HV.out]; rfl) trivial⟩
            · obtain rfl : x66 = .bool false := h.get 11 (hw _ rfl ⟨11, .guard⟩ (by simp) rfl) (.con (.bool false)) (by rw [HV.out]; rfl) _ rfl
              refine wpOp_step rfl fun K hK => ?_
              go_simp
              exact hK _ _ ⟨x55, x56, x57, x58, x59, x60, x61, x62, x63, x64, x65, _, x67, x68, x69, _, x71, x72, x73, x74, x75, x76, x77, x78, x79, x80, x81, x82, x83, x84, x85, x86, x87, x88, x89, x90, rfl, h.same 15 _ .any (by rw [HV.out]; rfl) trivial⟩
            · obtain rfl : x66 = .bool false := h.get 11 (hw _ rfl ⟨11, .guard⟩ (by simp) rfl) (.con (.bool false)) (by rw [HV.out]; rfl) _ rfl
              refine wpOp_step rfl fun K hK => ?_
              go_simp
              exact hK _ _ ⟨x55, x56, x57, x58, x59, x60, x61, x62, x63, x64, x65, _, x67, x68, x69, x70, _, x72, x73, x74, x75, x76, x77, x78, x79, x80, x81, x82, x83, x84, x85, x86, x87, x88, x89, x90, rfl, h.same 16 _ .any (by rw [HV.out]; rfl) trivial⟩
            · obtain rfl : x66 = .bool false := h.get 11 (hw _ rfl ⟨11, .guard⟩ (by simp) rfl) (.con (.bool false)) (by rw [HV.out]; rfl) _ rfl
              refine wpOp_step rfl fun K hK => ?_
              go_simp
              exact hK _ _ ⟨x55, x56, x57, x58, x59, x60, x61, x62, x63, x64, x65, _, x67, x68, x69, x70, x71, _, x73, x74, x75, x76, x77, x78, x79, x80, x81, x82, x83, x84, x85, x86, x87, x88, x89, x90, rfl, h.same 17 _ .any (by rw [HV.out]; rfl) trivial⟩
            · obtain rfl : x66 = .bool false := h.get 11 (hw _ rfl ⟨11, .guard⟩ (by simp) rfl) (.con (.bool false)) (by rw [HV.out]; rfl) _ rfl
              refine wpOp_step rfl fun K hK => ?_
              go_simp
              exact hK _ _ ⟨x55, x56, x57, x58, x59, x60, x61, x62, x63, x64, x65, _, x67, x68, x69, x70, x71, x72, _, x74, x75, x76, x77, x78, x79, x80, x81, x82, x83, x84, x85, x86, x87, x88, x89, x90, rfl, h.same 18 _ .any (by rw [HV.out]; rfl) trivial⟩
            · obtain rfl : x66 = .bool false := h.get 11 (hw _ rfl ⟨11, .guard⟩ (by simp) rfl) (.con (.bool false)) (by rw [HV.out]; rfl) _ rfl
              refine wpOp_step rfl fun K hK => ?_
              go_simp
              exact hK _ _ ⟨x55, x56, x57, x58, x59, x60, x61, x62, x63, x64, x65, _, x67, x68, x69, x70, x71, x72, x73, _, x75, x76, x77, x78, x79, x80, x81, x82, x83, x84, x85, x86, x87, x88, x89, x90, rfl, h.same 19 _ .any (by rw [HV.out]; rfl) trivial⟩
            · obtain rfl : x66 = .bool false := h.get 11 (hw _ rfl ⟨11, .guard⟩ (by simp) rfl) (.con (.bool false)) (by rw [HV.out]; rfl) _ rfl
              refine wpOp_step rfl fun K hK => ?_
              go_simp
              exact hK _ _ ⟨x55, x56, x57, x58, x59, x60, x61, x62, x63, x64, x65, _, x67, x68, x69, x70, x71, x72, x73, x74, _, x76, x77, x78, x79, x80, x81, x82, x83, x84, x85, x86, x87, x88, x89, x90, rfl, h.same 20 _ .any (by rw [HV.out]; rfl) trivial⟩
            · obtain rfl : x66 = .bool false := h.get 11 (hw _ rfl ⟨11, .guard⟩ (by simp) rfl) (.con (.bool false)) (by rw [HV.out]; rfl) _ rfl
              refine wpOp_step rfl fun K hK => ?_
              go_simp
              exact hK _ _ ⟨x55, x56, x57, x58, x59, x60, x61, x62, x63, x64, x65, _, x67, x68, x69, x70, x71, x72, x73, x74, x75, _, x77, x78, x79, x80, x81, x82, x83, x84, x85, x86, x87, x88, x89, x90, rfl, h.same 21 _ .any (by rw [HV.out]; rfl) trivial⟩
            · obtain rfl : x66 = .bool false := h.get 11 (hw _ rfl ⟨11, .guard⟩ (by simp) rfl) (.con (.bool false)) (by rw [HV.out]; rfl) _ rfl
              refine wpOp_step rfl fun K hK => ?_
              go_simp
              exact hK _ _ ⟨x55, x56, x57, x58, x59, x60, x61, x62, x63, x64, x65, _, x67, x68, x69, x70, x71, x72, x73, x74, x75, x76, _, x78, x79, x80, x81, x82, x83, x84, x85, x86, x87, x88, x89, x90, rfl, h.same 22 _ .any (by rw [HV.out]; rfl) trivial⟩
            · obtain rfl : x66 = .bool false := h.get 11 (hw _ rfl ⟨11, .data⟩ (by simp) rfl) (.con (.bool false)) (by rw [HV.out]; rfl) _ rfl
              refine wpOp_step rfl fun K hK => ?_
              go_simp
              exact hK _ _ ⟨x55, x56, x57, x58, x59, x60, x61, x62, x63, x64, x65, _, x67, x68, x69, x70, x71, x72, x73, x74, x75, x76, x77, _, x79, x80, x81, x82, x83, x84, x85, x86, x87, x88, x89, x90, rfl, h.same 23 _ (.con (.bool false)) (by rw [HV.out]; rfl) rfl⟩
            · obtain rfl : x78 = .bool false := h.get 23 (hw _ rfl ⟨23, .data⟩ (by simp) rfl) (.con (.bool false)) (by rw [HV.out]; rfl) _ rfl
              refine wpOp_step rfl fun K hK => ?_
              go_simp
              exact hK _ _ ⟨x55, x56, x57, x58, x59, x60, x61, x62, x63, x64, x65, x66, x67, x68, x69, x70, x71, x72, x73, x74, x75, x76, x77, _, _, x80, x81, x82, x83, x84, x85, x86, x87, x88, x89, x90, rfl, h.same 24 _ (.con (.bool false)) (by rw [HV.out]; rfl) rfl⟩
            · obtain rfl : x79 = .bool false := h.get 24 (hw _ rfl ⟨24, .guard⟩ (by simp) rfl) (.con (.bool false)) (by rw [HV.out]; rfl) _ rfl
              refine wpOp_step rfl fun K hK => ?_
              go_simp
              exact hK _ _ ⟨x55, x56, x57, x58, x59, x60, x61, x62, x63, x64, x65, x66, x67, x68, x69, x70, x71, x72, x73, x74, x75, x76, x77, x78, _, _, x81, x82, x83, x84, x85, x86, x87, x88, x89, x90, rfl, h.same 25 _ .any (by rw [HV.out]; rfl) trivial⟩
            · obtain rfl : x79 = .bool false := h.get 24 (hw _ rfl ⟨24, .guard⟩ (by simp) rfl) (.con (.bool false)) (by rw [HV.out]; rfl) _ rfl
              refine wpOp_step rfl fun K hK => ?_
              go_simp
              exact hK _ _ ⟨x55, x56, x57, x58, x59, x60, x61, x62, x63, x64, x65, x66, x67, x68, x69, x70, x71, x72, x73, x74, x75, x76, x77, x78, _, x80, _, x82, x83, x84, x85, x86, x87, x88, x89, x90, rfl, h.same 26 _ .any (by rw [HV.out]; rfl) trivial⟩
            · obtain rfl : x79 = .bool false := h.get 24 (hw _ rfl ⟨24, .guard⟩ (by simp) rfl) (.con (.bool false)) (by rw [HV.out]; rfl) _ rfl
              refine wpOp_step rfl fun K hK => ?_
              go_simp
              exact hK _ _ ⟨x55, x56, x57, x58, x59, x60, x61, x62, x63, x64, x65, x66, x67, x68, x69, x70, x71, x72, x73, x74, x75, x76, x77, x78, _, x80, x81, _, x83, x84, x85, x86, x87, x88, x89, x90, rfl, h.same 27 _ .any (by rw [HV.out]; rfl) trivial⟩
            · obtain rfl : x79 = .bool false := h.get 24 (hw _ rfl ⟨24, .guard⟩ (by simp) rfl) (.con (.bool false)) (by rw [HV.out]; rfl) _ rfl
              refine wpOp_step rfl fun K hK => ?_
              go_simp
              exact hK _ _ ⟨x55, x56, x57, x58, x59, x60, x61, x62, x63, x64, x65, x66, x67, x68, x69, x70, x71, x72, x73, x74, x75, x76, x77, x78, _, x80, x81, x82, _, x84, x85, x86, x87, x88, x89, x90, rfl, h.same 28 _ .any (by rw [HV.out]; rfl) trivial⟩
            · obtain rfl : x79 = .bool false := h.get 24 (hw _ rfl ⟨24, .guard⟩ (by simp) rfl) (.con (.bool false)) (by rw [HV.out]; rfl) _ rfl
              refine wpOp_step rfl fun K hK => ?_
              go_simp
              exact hK _ _ ⟨x55, x56, x57, x58, x59, x60, x61, x62, x63, x64, x65, x66, x67, x68, x69, x70, x71, x72, x73, x74, x75, x76, x77, x78, _, x80, x81, x82, x83, _, x85, x86, x87, x88, x89, x90, rfl, h.same 29 _ .any (by rw [HV.out]; rfl) trivial⟩
            · obtain rfl : x79 = .bool false := h.get 24 (hw _ rfl ⟨24, .guard⟩ (by simp) rfl) (.con (.bool false)) (by rw [HV.out]; rfl) _ rfl
              refine wpOp_step rfl fun K hK => ?_
              go_simp
              exact hK _ _ ⟨x55, x56, x57, x58, x59, x60, x61, x62, x63, x64, x65, x66, x67, x68, x69, x70, x71, x72, x73, x74, x75, x76, x77, x78, _, x80, x81, x82, x83, x84, _, x86, x87, x88, x89, x90, rfl, h.same 30 _ .any (by rw [HV.out]; rfl) trivial⟩
            · obtain rfl : x79 = .bool false := h.get 24 (hw _ rfl ⟨24, .guard⟩ (by simp) rfl) (.con (.bool false)) (by rw [HV.out]; rfl) _ rfl
              refine wpOp_step rfl fun K hK => ?_
              go_simp
              exact hK _ _ ⟨x55, x56, x57, x58, x59, x60, x61, x62, x63, x64, x65, x66, x67, x68, x69, x70, x71, x72, x73, x74, x75, x76, x77, x78, _, x80, x81, x82, x83, x84, x85, _, x87, x88, x89, x90, rfl, h.same 31 _ .any (by rw [HV.out]; rfl) trivial⟩
            · obtain rfl : x79 = .bool false := h.get 24 (hw _ rfl ⟨24, .guard⟩ (by simp) rfl) (.con (.bool false)) (by rw [HV.out]; rfl) _ rfl
              refine wpOp_step rfl fun K hK => ?_
              go_simp
              exact hK _ _ ⟨x55, x56, x57, x58, x59, x60, x61, x62, x63, x64, x65, x66, x67, x68, x69, x70, x71, x72, x73, x74, x75, x76, x77, x78, _, x80, x81, x82, x83, x84, x85, x86, _, x88, x89, x90, rfl, h.same 32 _ .any (by rw [HV.out]; rfl) trivial⟩
            · obtain rfl : x79 = .bool false := h.get 24 (hw _ rfl ⟨24, .guard⟩ (by simp) rfl) (.con (.bool false)) (by rw [HV.out]; rfl) _ rfl
              refine wpOp_step rfl fun K hK => ?_
              go_simp
              exact hK _ _ ⟨x55, x56, x57, x58, x59, x60, x61, x62, x63, x64, x65, x66, x67, x68, x69, x70, x71, x72, x73, x74, x75, x76, x77, x78, _, x80, x81, x82, x83, x84, x85, x86, x87, _, x89, x90, rfl, h.same 33 _ .any (by rw [HV.out]; rfl) trivial⟩
            · obtain rfl : x79 = .bool false := h.get 24 (hw _ rfl ⟨24, .chain⟩ (by simp) rfl) (.con (.bool false)) (by rw [HV.out]; rfl) _ rfl
              refine wpOp_step rfl fun K hK => ?_
              go_simp
              exact hK _ _ ⟨x55, x56, x57, x58, x59, x60, x61, x62, x63, x64, x65, x66, x67, x68, x69, x70, x71, x72, x73, x74, x75, x76, x77, x78, _, x80, x81, x82, x83, x84, x85, x86, x87, x88, _, x90, rfl, h.same 34 _ .any (by rw [HV.out]; rfl) trivial⟩
            · obtain rfl : x79 = .bool false := h.get 24 (hw _ rfl ⟨24, .guard⟩ (by simp) rfl) (.con (.bool false)) (by rw [HV.out]; rfl) _ rfl
              refine wpOp_step rfl fun K hK => ?_
              go_simp
              exact hK _ _ ⟨x55, x56, x57, x58, x59, x60, x61, x62, x63, x64, x65, x66, x67, x68, x69, x70, x71, x72, x73, x74, x75, x76, x77, x78, _, x80, x81, x82, x83, x84, x85, x86, x87, x88, x89, _, rfl, h.same 35 _ .any (by rw [HV.out]; rfl) trivial⟩
            · omega
          case last =>
            rintro d a' w' hall ⟨x55, x56, x57, x58, x59, x60, x61, x62, x63, x64, x65, x66, x67, x68, x69, x70, x71, x72, x73, x74, x75, x76, x77, x78, x79, x80, x81, x82, x83, x84, x85, x86, x87, x88, x89, x90, rfl, h⟩
            have hle := h.1
            obtain rfl : x79 = .bool false := h.get 24 (hall _ (by omega)) (.con (.bool false)) (by rw [HV.out]; rfl) _ rfl
            have HLE := Lib.hid hle
            clear h hall hle HV
            go_wp2
            go_roundw
            case rel =>
              refine ⟨k + 1, by omega, by go_num, fun j hj hj2 => ?_, HBR.out.trans (HLE.out.mono HBR.out.size)⟩
              by_cases e : j = k
              · subst e; rw [← HX.out]; exact fun h => HT0.out h.1
              · exact HNO.out j (by omega) hj2
            case measure => simp [intOf]; omega
        have d0 : (x0.toList == si.toList) = true := eq_yes t0
        have HT0 := Lib.hid t0
        clear t0
        by_cases t1 : x1 = sg
        case neg =>
          have d1 : (x1.toList == sg.toList) = false := eq_no t1
          have HT1 := Lib.hid t1
          clear t1
          go_upto_region 9 with fail
          clear v0 v1
          obtain ⟨V, hV⟩ : ∃ V : List MP, V = [.con (.pointer (some ⟨p, 0, none⟩)), .con (.pointer (some ⟨p, 0, none⟩)), .con (.pointer (some ⟨p, 1, none⟩)), .con (.slice (some ⟨b, off, none⟩) l.length c), .con (.int .i64 (k : Int)), .con (.pointer (some ⟨b, off + k * 3, none⟩)), .con (.pointer (some ⟨b, off + k * 3, none⟩)), .con (.string x0), .con (.pointer (some ⟨w.heap.size + 1, 0, none⟩)), .con (.string si), .con (.bool true), .con (.bool true), .con (.pointer (some ⟨p, 0, none⟩)), .con (.pointer (some ⟨p, 0, none⟩)), .con (.pointer (some ⟨p, 1, none⟩)), .con (.slice (some ⟨b, off, none⟩) l.length c), .con (.int .i64 (k : Int)), .con (.pointer (some ⟨b, off + k * 3, none⟩)), .con (.pointer (some ⟨b, off + k * 3 + 1, none⟩)), .con (.string x1), .con (.pointer (some ⟨w.heap.size + 1, 1, none⟩)), .con (.string sg), .con (.bool false), .con (.bool false), .con (.bool false), .any, .any, .any, .any, .any, .any, .any, .any, .any, .any, .any] := ⟨_, rfl⟩
          have HV := Lib.hid hV
          clear hV
          refine wp_region_inv 36 (fun d a' w' => ∃ x55 x56 x57 x58 x59 x60 x61 x62 x63 x64 x65 x66 x67 x68 x69 x70 x71 x72 x73 x74 x75 x76 x77 x78 x79 x80 x81 x82 x83 x84 x85 x86 x87 x88 x89 x90, a' = ⟨#[Value.pointer (some { block := p, off := 0 }), Value.agg #[Value.string ks, Value.string kp], Value.agg #[Value.string si, Value.string sg], Value.string m, undef, Value.pointer (some { block := w.heap.size, off := 0 }), Value.pointer (some { block := w.heap.size + 1, off := 0 }), undef, u8, Value.string ID, Value.int IntKind.i64 0, Value.int IntKind.i64 (k : Int), Value.tuple #[Value.string ID, Value.int IntKind.i64 0], Value.agg #[Value.string ks, Value.string kp], Value.tuple #[Value.string ID, Value.int IntKind.i64 0], Value.string ID, Value.int IntKind.i64 0, Value.int IntKind.i64 0, Value.bool false, Value.bool false, Value.string ID, Value.pointer (some { block := w.heap.size + 1, off := 0 }), Value.string si, Value.bool false, Value.bool false, Value.bool false, Value.pointer (some { block := w.heap.size + 1, off := 1 }), Value.string sg, Value.bool true, Value.bool false, Value.bool false, Value.pointer (some { block := p, off := 0 }), Value.pointer (some { block := p, off := 0 }), Value.pointer (some { block := p, off := 0 }), Value.bool false, undef, undef, undef, undef, undef, undef, undef, undef, undef, undef, undef, Value.int IntKind.i64 (k : Int), Value.pointer (some { block := p, off := 0 }), Value.pointer (some { block := p, off := 0 }), Value.pointer (some { block := p, off := 1 }), Value.slice (some { block := b, off := off }) l.length c, Value.int IntKind.i64 (l.length : Int), Value.bool true, u53, u54, x55, x56, x57, x58, x59, x60, x61, x62, x63, x64, x65, x66, x67, x68, x69, x70, x71, x72, x73, x74, x75, x76, x77, x78, x79, x80, x81, x82, x83, x84, x85, x86, x87, x88, x89, x90, u91], []⟩ ∧ RegI wr V d w' [x55, x56, x57, x58, x59, x60, x61, x62, x63, x64, x65, x66, x67, x68, x69, x70, x71, x72, x73, x74, x75, x76, x77, x78, x79, x80, x81, x82, x83, x84, x85, x86, x87, x88, x89, x90]) (by kernel_rfl) (by kernel_rfl) ?first ?step ?last
          case first => exact ⟨_, _, _, _, _, _, _, _, _, _, _, _, _, _, _, _, _, _, _, _, _, _, _, _, _, _, _, _, _, _, _, _, _, _, _, _, rfl, RegI.first _ _ _ (by rw [HV.out]; rfl)⟩
          case step =>
            rintro d a' w' ⟨x55, x56, x57, x58, x59, x60, x61, x62, x63, x64, x65, x66, x67, x68, x69, x70, x71, x72, x73, x74, x75, x76, x77, x78, x79, x80, x81, x82, x83, x84, x85, x86, x87, x88, x89, x90, rfl, h⟩ q hq hn hw
            rcases q with _ | _ | _ | _ | _ | _ | _ | _ | _ | _ | _ | _ | _ | _ | _ | _ | _ | _ | _ | _ | _ | _ | _ | _ | _ | _ | _ | _ | _ | _ | _ | _ | _ | _ | _ | _ | q
            · refine wpOp_step rfl fun K hK => ?_
              go_simp
              exact hK _ _ ⟨_, x56, x57, x58, x59, x60, x61, x62, x63, x64, x65, x66, x67, x68, x69, x70, x71, x72, x73, x74, x75, x76, x77, x78, x79, x80, x81, x82, x83, x84, x85, x86, x87, x88, x89, x90, rfl, h.same 0 _ (.con (.pointer (some ⟨p, 0, none⟩))) (by rw [HV.out]; rfl) rfl⟩
            · obtain rfl : x55 = .pointer (some ⟨p, 0, none⟩) := h.get 0 (hw _ rfl ⟨0, .data⟩ (by simp) rfl) (.con (.pointer (some ⟨p, 0, none⟩))) (by rw [HV.out]; rfl) _ rfl
              refine wpOp_step rfl fun K hK => ?_
              go_simp
              exact hK _ _ ⟨_, _, x57, x58, x59, x60, x61, x62, x63, x64, x65, x66, x67, x68, x69, x70, x71, x72, x73, x74, x75, x76, x77, x78, x79, x80, x81, x82, x83, x84, x85, x86, x87, x88, x89, x90, rfl, h.same 1 _ (.con (.pointer (some ⟨p, 0, none⟩))) (by rw [HV.out]; rfl) rfl⟩
            · obtain rfl : x56 = .pointer (some ⟨p, 0, none⟩) := h.get 1 (hw _ rfl ⟨1, .data⟩ (by simp) rfl) (.con (.pointer (some ⟨p, 0, none⟩))) (by rw [HV.out]; rfl) _ rfl
              refine wpOp_step rfl fun K hK => ?_
              go_simp
              exact hK _ _ ⟨x55, _, _, x58, x59, x60, x61, x62, x63, x64, x65, x66, x67, x68, x69, x70, x71, x72, x73, x74, x75, x76, x77, x78, x79, x80, x81, x82, x83, x84, x85, x86, x87, x88, x89, x90, rfl, h.same 2 _ (.con (.pointer (some ⟨p, 1, none⟩))) (by rw [HV.out]; rfl) rfl⟩
            · obtain rfl : x57 = .pointer (some ⟨p, 1, none⟩) := h.get 2 (hw _ rfl ⟨2, .data⟩ (by simp) rfl) (.con (.pointer (some ⟨p, 1, none⟩))) (by rw [HV.out]; rfl) _ rfl
              obtain ⟨v0, v1, g0, g1, e0, e1, e2⟩ := HC.out w' h.1
              refine wpOp_step rfl fun K hK => ?_
              go_simp
              exact hK _ _ ⟨x55, x56, _, _, x59, x60, x61, x62, x63, x64, x65, x66, x67, x68, x69, x70, x71, x72, x73, x74, x75, x76, x77, x78, x79, x80, x81, x82, x83, x84, x85, x86, x87, x88, x89, x90, rfl, h.same 3 _ (.con (.slice (some ⟨b, off, none⟩) l.length c)) (by rw [HV.out]; rfl) rfl⟩
            · refine wpOp_step rfl fun K hK => ?_
              go_simp
              exact hK _ _ ⟨x55, x56, x57, x58, _, x60, x61, x62, x63, x64, x65, x66, x67, x68, x69, x70, x71, x72, x73, x74, x75, x76, x77, x78, x79, x80, x81, x82, x83, x84, x85, x86, x87, x88, x89, x90, rfl, h.same 4 _ (.con (.int .i64 (k : Int))) (by rw [HV.out]; rfl) rfl⟩
            · obtain rfl : x58 = .slice (some ⟨b, off, none⟩) l.length c := h.get 3 (hw _ rfl ⟨3, .data⟩ (by simp) rfl) (.con (.slice (some ⟨b, off, none⟩) l.length c)) (by rw [HV.out]; rfl) _ rfl
              obtain rfl : x59 = .int .i64 (k : Int) := h.get 4 (hw _ rfl ⟨4, .data⟩ (by simp) rfl) (.con (.int .i64 (k : Int))) (by rw [HV.out]; rfl) _ rfl
              obtain ⟨v0, v1, g0, g1, e0, e1, e2⟩ := HC.out w' h.1
              refine wpOp_step rfl fun K hK => ?_
              go_simp
              exact hK _ _ ⟨x55, x56, x57, _, _, _, x61, x62, x63, x64, x65, x66, x67, x68, x69, x70, x71, x72, x73, x74, x75, x76, x77, x78, x79, x80, x81, x82, x83, x84, x85, x86, x87, x88, x89, x90, rfl, h.same 5 _ (.con (.pointer (some ⟨b, off + k * 3, none⟩))) (by rw [HV.out]; rfl) rfl⟩
            · obtain rfl : x60 = .pointer (some ⟨b, off + k * 3, none⟩) := h.get 5 (hw _ rfl ⟨5, .data⟩ (by simp) rfl) (.con (.pointer (some ⟨b, off + k * 3, none⟩))) (by rw [HV.out]; rfl) _ rfl
              refine wpOp_step rfl fun K hK => ?_
              go_simp
              exact hK _ _ ⟨x55, x56, x57, x58, x59, _, _, x62, x63, x64, x65, x66, x67, x68, x69, x70, x71, x72, x73, x74, x75, x76, x77, x78, x79, x80, x81, x82, x83, x84, x85, x86, x87, x88, x89, x90, rfl, h.same 6 _ (.con (.pointer (some ⟨b, off + k * 3, none⟩))) (by rw [HV.out]; rfl) rfl⟩
            · obtain rfl : x61 = .pointer (some ⟨b, off + k * 3, none⟩) := h.get 6 (hw _ rfl ⟨6, .data⟩ (by simp) rfl) (.con (.pointer (some ⟨b, off + k * 3, none⟩))) (by rw [HV.out]; rfl) _ rfl
              obtain ⟨v0, v1, g0, g1, e0, e1, e2⟩ := HC.out w' h.1
              refine wpOp_step rfl fun K hK => ?_
              go_simp
              exact hK _ _ ⟨x55, x56, x57, x58, x59, x60, _, _, x63, x64, x65, x66, x67, x68, x69, x70, x71, x72, x73, x74, x75, x76, x77, x78, x79, x80, x81, x82, x83, x84, x85, x86, x87, x88, x89, x90, rfl, h.same 7 _ (.con (.string x0)) (by rw [HV.out]; rfl) rfl⟩
            · refine wpOp_step rfl fun K hK => ?_
              go_simp
              exact hK _ _ ⟨x55, x56, x57, x58, x59, x60, x61, x62, _, x64, x65, x66, x67, x68, x69, x70, x71, x72, x73, x74, x75, x76, x77, x78, x79, x80, x81, x82, x83, x84, x85, x86, x87, x88, x89, x90, rfl, h.same 8 _ (.con (.pointer (some ⟨w.heap.size + 1, 0, none⟩))) (by rw [HV.out]; rfl) rfl⟩
            · obtain rfl : x63 = .pointer (some ⟨w.heap.size + 1, 0, none⟩) := h.get 8 (hw _ rfl ⟨8, .data⟩ (by simp) rfl) (.con (.pointer (some ⟨w.heap.size + 1, 0, none⟩))) (by rw [HV.out]; rfl) _ rfl
              obtain ⟨v0, v1, g0, g1, e0, e1, e2⟩ := HC.out w' h.1
              refine wpOp_step rfl fun K hK => ?_
              go_simp
              exact hK _ _ ⟨x55, x56, x57, x58, x59, x60, x61, x62, _, _, x65, x66, x67, x68, x69, x70, x71, x72, x73, x74, x75, x76, x77, x78, x79, x80, x81, x82, x83, x84, x85, x86, x87, x88, x89, x90, rfl, h.same 9 _ (.con (.string si)) (by rw [HV.out]; rfl) rfl⟩
            · obtain rfl : x62 = .string x0 := h.get 7 (hw _ rfl ⟨7, .data⟩ (by simp) rfl) (.con (.string x0)) (by rw [HV.out]; rfl) _ rfl
              obtain rfl : x64 = .string si := h.get 9 (hw _ rfl ⟨9, .data⟩ (by simp) rfl) (.con (.string si)) (by rw [HV.out]; rfl) _ rfl
              refine wpOp_step rfl fun K hK => ?_
              go_simp
              exact hK _ _ ⟨x55, x56, x57, x58, x59, x60, x61, _, x63, _, _, x66, x67, x68, x69, x70, x71, x72, x73, x74, x75, x76, x77, x78, x79, x80, x81, x82, x83, x84, x85, x86, x87, x88, x89, x90, rfl, h.same 10 _ (.con (.bool true)) (by rw [HV.out]; rfl) rfl⟩
            · obtain rfl : x65 = .bool true := h.get 10 (hw _ rfl ⟨10, .data⟩ (by simp) rfl) (.con (.bool true)) (by rw [HV.out]; rfl) _ rfl
              refine wpOp_step rfl fun K hK => ?_
              go_simp
              exact hK _ _ ⟨x55, x56, x57, x58, x59, x60, x61, x62, x63, x64, _, _, x67, x68, x69, x70, x71, x72, x73, x74, x75, x76, x77, x78, x79, x80, x81, x82, x83, x84, x85, x86, x87, x88, x89, x90, rfl, h.same 11 _ (.con (.bool true)) (by rw [HV.out]; rfl) rfl⟩
            · obtain rfl : x66 = .bool true := h.get 11 (hw _ rfl ⟨11, .guard⟩ (by simp) rfl) (.con (.bool true)) (by rw [HV.out]; rfl) _ rfl
              refine wpOp_step rfl fun K hK => ?_
              go_simp
              exact hK _ _ ⟨x55, x56, x57, x58, x59, x60, x61, x62, x63, x64, x65, _, _, x68, x69, x70, x71, x72, x73, x74, x75, x76, x77, x78, x79, x80, x81, x82, x83, x84, x85, x86, x87, x88, x89, x90, rfl, h.same 12 _ (.con (.pointer (some ⟨p, 0, none⟩))) (by rw [HV.out]; rfl) rfl⟩
            · obtain rfl : x66 = .bool true := h.get 11 (hw _ rfl ⟨11, .guard⟩ (by simp) rfl) (.con (.bool true)) (by rw [HV.out]; rfl) _ rfl
              obtain rfl : x67 = .pointer (some ⟨p, 0, none⟩) := h.get 12 (hw _ rfl ⟨12, .data⟩ (by simp) rfl) (.con (.pointer (some ⟨p, 0, none⟩))) (by rw [HV.out]; rfl) _ rfl
              refine wpOp_step rfl fun K hK => ?_
              go_simp
              exact hK _ _ ⟨x55, x56, x57, x58, x59, x60, x61, x62, x63, x64, x65, _, _, _, x69, x70, x71, x72, x73, x74, x75, x76, x77, x78, x79, x80, x81, x82, x83, x84, x85, x86, x87, x88, x89, x90, rfl, h.same 13 _ (.con (.pointer (some ⟨p, 0, none⟩))) (by rw [HV.out]; rfl) rfl⟩
            · obtain rfl : x66 = .bool true := h.get 11 (hw _ rfl ⟨11, .guard⟩ (by simp) rfl) (.con (.bool true)) (by rw [HV.out]; rfl) _ rfl
              obtain rfl : x68 = .pointer (some ⟨p, 0, none⟩) := h.get 13 (hw _ rfl ⟨13, .data⟩ (by simp) rfl) (.con (.pointer (some ⟨p, 0, none⟩))) (by rw [HV.out]; rfl) _ rfl
              refine wpOp_step rfl fun K hK => ?_
              go_simp
              exact hK _ _ ⟨x55, x56, x57, x58, x59, x60, x61, x62, x63, x64, x65, _, x67, _, _, x70, x71, x72, x73, x74, x75, x76, x77, x78, x79, x80, x81, x82, x83, x84, x85, x86, x87, x88, x89, x90, rfl, h.same 14 _ (.con (.pointer (some ⟨p, 1, none⟩))) (by rw [HV.out]; rfl) rfl⟩
            · obtain rfl : x66 = .bool true := h.get 11 (hw _ rfl ⟨11, .guard⟩ (by simp) rfl) (.con (.bool true)) (by rw [HV.out]; rfl) _ rfl
              obtain rfl : x69 = .pointer (some ⟨p, 1, none⟩) := h.get 14 (hw _ rfl ⟨14, .data⟩ (by simp) rfl) (.con (.pointer (some ⟨p, 1, none⟩))) (by rw [HV.out]; rfl) _ rfl
              obtain ⟨v0, v1, g0, g1, e0, e1, e2⟩ := HC.out w' h.1
              refine wpOp_step rfl fun K hK => ?_
              go_simp
              exact hK _ _ ⟨x55, x56, x57, x58, x59, x60, x61, x62, x63, x64, x65, _, x67, x68, _, _, x71, x72, x73, x74, x75, x76, x77, x78, x79, x80, x81, x82, x83, x84, x85, x86, x87, x88, x89, x90, rfl, h.same 15 _ (.con (.slice (some ⟨b, off, none⟩) l.length c)) (by rw [HV.out]; rfl) rfl⟩
            · obtain rfl : x66 = .bool true := h.get 11 (hw _ rfl ⟨11, .guard⟩ (by simp) rfl) (.con (.bool true)) (by rw [HV.out]; rfl) _ rfl
              refine wpOp_step rfl fun K hK => ?_
              go_simp
              exact hK _ _ ⟨x55, x56, x57, x58, x59, x60, x61, x62, x63, x64, x65, _, x67, x68, x69, x70, _, x72, x73, x74, x75, x76, x77, x78, x79, x80, x81, x82, x83, x84, x85, x86, x87, x88, x89, x90, rfl, h.same 16 _ (.con (.int .i64 (k : Int))) (by rw [HV.out]; rfl) rfl⟩
            · obtain rfl : x66 = .bool true := h.get 11 (hw _ rfl ⟨11, .guard⟩ (by simp) rfl) (.con (.bool true)) (by rw [HV.out]; rfl) _ rfl
              obtain rfl : x70 = .slice (some ⟨b, off, none⟩) l.length c := h.get 15 (hw _ rfl ⟨15, .data⟩ (by simp) rfl) (.con (.slice (some ⟨b, off, none⟩) l.length c)) (by rw [HV.out]; rfl) _ rfl
              obtain rfl : x71 = .int .i64 (k : Int) := h.get 16 (hw _ rfl ⟨16, .data⟩ (by simp) rfl) (.con (.int .i64 (k : Int))) (by rw [HV.out]; rfl) _ rfl
              obtain ⟨v0, v1, g0, g1, e0, e1, e2⟩ := HC.out w' h.1
              refine wpOp_step rfl fun K hK => ?_
              go_simp
              exact hK _ _ ⟨x55, x56, x57, x58, x59, x60, x61, x62, x63, x64, x65, _, x67, x68, x69, _, _, _, x73, x74, x75, x76, x77, x78, x79, x80, x81, x82, x83, x84, x85, x86, x87, x88, x89, x90, rfl, h.same 17 _ (.con (.pointer (some ⟨b, off + k * 3, none⟩))) (by rw [HV.out]; rfl) rfl⟩
            · obtain rfl : x66 = .bool true := h.get 11 (hw _ rfl ⟨11, .guard⟩ (by simp) rfl) (.con (.bool true)) (by rw [HV.out]; rfl) _ rfl
              obtain rfl : x72 = .pointer (some ⟨b, off + k * 3, none⟩) := h.get 17 (hw _ rfl ⟨17, .data⟩ (by simp) rfl) (.con (.pointer (some ⟨b, off + k * 3, none⟩))) (by rw [HV.out]; rfl) _ rfl
              refine wpOp_step rfl fun K hK => ?_
              go_simp
              exact hK _ _ ⟨x55, x56, x57, x58, x59, x60, x61, x62, x63, x64, x65, _, x67, x68, x69, x70, x71, _, _, x74, x75, x76, x77, x78, x79, x80, x81, x82, x83, x84, x85, x86, x87, x88, x89, x90, rfl, h.same 18 _ (.con (.pointer (some ⟨b, off + k * 3 + 1, none⟩))) (by rw [HV.out]; rfl) rfl⟩
            · obtain rfl : x66 = .bool true := h.get 11 (hw _ rfl ⟨11, .guard⟩ (by simp) rfl) (.con (.bool true)) (by rw [HV.out]; rfl) _ rfl
              obtain rfl : x73 = .pointer (some ⟨b, off + k * 3 + 1, none⟩) := h.get 18 (hw _ rfl ⟨18, .data⟩ (by simp) rfl) (.con (.pointer (some ⟨b, off + k * 3 + 1, none⟩))) (by rw [HV.out]; rfl) _ rfl
              obtain ⟨v0, v1, g0, g1, e0, e1, e2⟩ := HC.out w' h.1
              refine wpOp_step rfl fun K hK => ?_
              go_simp
              exact hK _ _ ⟨x55, x56, x57, x58, x59, x60, x61, x62, x63, x64, x65, _, x67, x68, x69, x70, x71, x72, _, _, x75, x76, x77, x78, x79, x80, x81, x82, x83, x84, x85, x86, x87, x88, x89, x90, rfl, h.same 19 _ (.con (.string x1)) (by rw [HV.out]; rfl) rfl⟩
            · obtain rfl : x66 = .bool true := h.get 11 (hw _ rfl ⟨11, .guard⟩ (by simp) rfl) (.con (.bool true)) (by rw [HV.out]; rfl) _ rfl
              refine wpOp_step rfl fun K hK => ?_
              go_simp
              exact hK _ _ ⟨x55, x56, x57, x58, x59, x60, x61, x62, x63, x64, x65, _, x67, x68, x69, x70, x71, x72, x73, x74, _, x76, x77, x78, x79, x80, x81, x82, x83, x84, x85, x86, x87, x88, x89, x90, rfl, h.same 20 _ (.con (.pointer (some ⟨w.heap.size + 1, 1, none⟩))) (by rw [HV.out]; rfl) rfl⟩
            · obtain rfl : x66 = .bool true := h.get 11 (hw _ rfl ⟨11, .guard⟩ (by simp) rfl) (.con (.bool true)) (by rw [HV.out]; rfl) _ rfl
              obtain rfl : x75 = .pointer (some ⟨w.heap.size + 1, 1, none⟩) := h.get 20 (hw _ rfl ⟨20, .data⟩ (by simp) rfl) (.con (.pointer (some ⟨w.heap.size + 1, 1, none⟩))) (by rw [HV.out]; rfl) _ rfl
              obtain ⟨v0, v1, g0, g1, e0, e1, e2⟩ := HC.out w' h.1
              refine wpOp_step rfl fun K hK => ?_
              go_simp
              exact hK _ _ ⟨x55, x56, x57, x58, x59, x60, x61, x62, x63, x64, x65, _, x67, x68, x69, x70, x71, x72, x73, x74, _, _, x77, x78, x79, x80, x81, x82, x83, x84, x85, x86, x87, x88, x89, x90, rfl, h.same 21 _ (.con (.string sg)) (by rw [HV.out]; rfl) rfl⟩
            · obtain rfl : x66 = .bool true := h.get 11 (hw _ rfl ⟨11, .guard⟩ (by simp) rfl) (.con (.bool true)) (by rw [HV.out]; rfl) _ rfl
              obtain rfl : x74 = .string x1 := h.get 19 (hw _ rfl ⟨19, .data⟩ (by simp) rfl) (.con (.string x1)) (by rw [HV.out]; rfl) _ rfl
              obtain rfl : x76 = .string sg := h.get 21 (hw _ rfl ⟨21, .data⟩ (by simp) rfl) (.con (.string sg)) (by rw [HV.out]; rfl) _ rfl
              refine wpOp_step rfl fun K hK => ?_
              go_simp
              exact hK _ _ ⟨x55, x56, x57, x58, x59, x60, x61, x62, x63, x64, x65, _, x67, x68, x69, x70, x71, x72, x73, _, x75, _, _, x78, x79, x80, x81, x82, x83, x84, x85, x86, x87, x88, x89, x90, rfl, h.same 22 _ (.con (.bool false)) (by rw [HV.out]; rfl) rfl⟩
            · obtain rfl : x66 = .bool true := h.get 11 (hw _ rfl ⟨11, .data⟩ (by simp) rfl) (.con (.bool true)) (by rw [HV.out]; rfl) _ rfl
              obtain rfl : x77 = .bool false := h.get 22 (hw _ rfl ⟨22, .data⟩ (by simp) rfl) (.con (.bool false)) (by rw [HV.out]; rfl) _ rfl
              refine wpOp_step rfl fun K hK => ?_
              go_simp
              exact hK _ _ ⟨x55, x56, x57, x58, x59, x60, x61, x62, x63, x64, x65, _, x67, x68, x69, x70, x71, x72, x73, x74, x75, x76, _, _, x79, x80, x81, x82, x83, x84, x85, x86, x87, x88, x89, x90, rfl, h.same 23 _ (.con (.bool false)) (by rw [HV.out]; rfl) rfl⟩
            · obtain rfl : x78 = .bool false := h.get 23 (hw _ rfl ⟨23, .data⟩ (by simp) rfl) (.con (.bool false)) (by rw [HV.out]; rfl) _ rfl
              refine wpOp_step rfl fun K hK => ?_
              go_simp
              exact hK _ _ ⟨x55, x56, x57, x58, x59, x60, x61, x62, x63, x64, x65, x66, x67, x68, x69, x70, x71, x72, x73, x74, x75, x76, x77, _, _, x80, x81, x82, x83, x84, x85, x86, x87, x88, x89, x90, rfl, h.same 24 _ (.con (.bool false)) (by rw [HV.out]; rfl) rfl⟩
            · obtain rfl : x79 = .bool false := h.get 24 (hw _ rfl ⟨24, .guard⟩ (by simp) rfl) (.con (.bool false)) (by rw [HV.out]; rfl) _ rfl
              refine wpOp_step rfl fun K hK => ?_
              go_simp
              exact hK _ _ ⟨x55, x56, x57, x58, x59, x60, x61, x62, x63, x64, x65, x66, x67, x68, x69, x70, x71, x72, x73, x74, x75, x76, x77, x78, _, _, x81, x82, x83, x84, x85, x86, x87, x88, x89, x90, rfl, h.same 25 _ .any (by rw [HV.out]; rfl) trivial⟩
            · obtain rfl : x79 = .bool false := h.get 24 (hw _ rfl ⟨24, .guard⟩ (by simp) rfl) (.con (.bool false)) (by rw [HV.out]; rfl) _ rfl
              refine wpOp_step rfl fun K hK => ?_
              go_simp
              exact hK _ _ ⟨x55, x56, x57, x58, x59, x60, x61, x62, x63, x64, x65, x66, x67, x68, x69, x70, x71, x72, x73, x74, x75, x76, x77, x78, _, x80, _, x82, x83, x84, x85, x86, x87, x88, x89, x90, rfl, h.same 26 _ .any (by rw [HV.out]; rfl) trivial⟩
            · obtain rfl : x79 = .bool false := h.get 24 (hw _ rfl ⟨24, .guard⟩ (by simp) rfl) (.con (.bool false)) (by rw [HV.out]; rfl) _ rfl
              refine wpOp_step rfl fun K hK => ?_
              go_simp
              exact hK _ _ ⟨x55, x56, x57, x58, x59, x60, x61, x62, x63, x64, x65, x66, x67, x68, x69, x70, x71, x72, x73, x74, x75, x76, x77, x78, _, x80, x81, _, x83, x84, x85, x86, x87, x88, x89, x90, rfl, h.same 27 _ .any (by rw [HV.out]; rfl) trivial⟩
            · obtain rfl : x79 = .bool false := h.get 24 (hw _ rfl ⟨24, .guard⟩ (by simp) rfl) (.con (.bool false)) (by rw [HV.out]; rfl) _ rfl
              refine wpOp_step rfl fun K hK => ?_
              go_simp
              exact hK _ _ ⟨x55, x56, x57, x58, x59, x60, x61, x62, x63, x64, x65, x66, x67, x68, x69, x70, x71, x72, x73, x74, x75, x76, x77, x78, _, x80, x81, x82, _, x84, x85, x86, x87, x88, x89, x90, rfl, h.same 28 _ .any (by rw [HV.out]; rfl) trivial⟩
            · obtain rfl : x79 = .bool false := h.get 24 (hw _ rfl ⟨24, .guard⟩ (by simp) rfl) (.con (.bool false)) (by rw [HV.out]; rfl) _ rfl
              refine wpOp_step rfl fun K hK => ?_
              go_simp
              exact hK _ _ ⟨x55, x56, x57, x58, x59, x60, x61, x62, x63, x64, x65, x66, x67, x68, x69, x70, x71, x72, x73, x74, x75, x76, x77, x78, _, x80, x81, x82, x83, _, x85, x86, x87, x88, x89, x90, rfl, h.same 29 _ .any (by rw [HV.out]; rfl) trivial⟩
            · obtain rfl : x79 = .bool false := h.get 24 (hw _ rfl ⟨24, .guard⟩ (by simp) rfl) (.con (.bool false)) (by rw [HV.out]; rfl) _ rfl
              refine wpOp_step rfl fun K hK => ?_
              go_simp
              exact hK _ _ ⟨x55, x56, x57, x58, x59, x60, x61, x62, x63, x64, x65, x66, x67, x68, x69, x70, x71, x72, x73, x74, x75, x76, x77, x78, _, x80, x81, x82, x83, x84, _, x86, x87, x88, x89, x90, rfl, h.same 30 _ .any (by rw [HV.out]; rfl) trivial⟩
            · obtain rfl : x79 = .bool false := h.get 24 (hw _ rfl ⟨24, .guard⟩ (by simp) rfl) (.con (.bool false)) (by rw [HV.out]; rfl) _ rfl
              refine wpOp_step rfl fun K hK => ?_
              go_simp
              exact hK _ _ ⟨x55, x56, x57, x58, x59, x60, x61, x62, x63, x64, x65, x66, x67, x68, x69, x70, x71, x72, x73, x74, x75, x76, x77, x78, _, x80, x81, x82, x83, x84, x85, _, x87, x88, x89, x90, rfl, h.same 31 _ .any (by rw [HV.out]; rfl) trivial⟩
            · obtain rfl : x79 = .bool false := h.get 24 (hw _ rfl ⟨24, .guard⟩ (by simp) rfl) (.con (.bool false)) (by rw [HV.out]; rfl) _ rfl
              refine wpOp_step rfl fun K hK => ?_
              go_simp
              exact hK _ _ ⟨x55, x56, x57, x58, x59, x60, x61, x62, x63, x64, x65, x66, x67, x68, x69, x70, x71, x72, x73, x74, x75, x76, x77, x78, _, x80, x81, x82, x83, x84, x85, x86, _, x88, x89, x90, rfl, h.same 32 _ .any (by rw [HV.out]; rfl) trivial⟩
            · obtain rfl : x79 = .bool false := h.get 24 (hw _ rfl ⟨24, .guard⟩ (by simp) rfl) (.con (.bool false)) (by rw [HV.out]; rfl) _ rfl
              refine wpOp_step rfl fun K hK => ?_
              go_simp
              exact hK _ _ ⟨x55, x56, x57, x58, x59, x60, x61, x62, x63, x64, x65, x66, x67, x68, x69, x70, x71, x72, x73, x74, x75, x76, x77, x78, _, x80, x81, x82, x83, x84, x85, x86, x87, _, x89, x90, rfl, h.same 33 _ .any (by rw [HV.out]; rfl) trivial⟩
            · obtain rfl : x79 = .bool false := h.get 24 (hw _ rfl ⟨24, .chain⟩ (by simp) rfl) (.con (.bool false)) (by rw [HV.out]; rfl) _ rfl
              refine wpOp_step rfl fun K hK => ?_
              go_simp
              exact hK _ _ ⟨x55, x56, x57, x58, x59, x60, x61, x62, x63, x64, x65, x66, x67, x68, x69, x70, x71, x72, x73, x74, x75, x76, x77, x78, _, x80, x81, x82, x83, x84, x85, x86, x87, x88, _, x90, rfl, h.same 34 _ .any (by rw [HV.out]; rfl) trivial⟩
            · obtain rfl : x79 = .bool false := h.get 24 (hw _ rfl ⟨24, .guard⟩ (by simp) rfl) (.con (.bool false)) (by rw [HV.out]; rfl) _ rfl
              refine wpOp_step rfl fun K hK => ?_
              go_simp
              exact hK _ _ ⟨x55, x56, x57, x58, x59, x60, x61, x62, x63, x64, x65, x66, x67, x68, x69, x70, x71, x72, x73, x74, x75, x76, x77, x78, _, x80, x81, x82, x83, x84, x85, x86, x87, x88, x89, _, rfl, h.same 35 _ .any (by rw [HV.out]; rfl) trivial⟩
            · omega
          case last =>
            rintro d a' w' hall ⟨x55, x56, x57, x58, x59, x60, x61, x62, x63, x64, x65, x66, x67, x68, x69, x70, x71, x72, x73, x74, x75, x76, x77, x78, x79, x80, x81, x82, x83, x84, x85, x86, x87, x88, x89, x90, rfl, h⟩
            have hle := h.1
            obtain rfl : x79 = .bool false := h.get 24 (hall _ (by omega)) (.con (.bool false)) (by rw [HV.out]; rfl) _ rfl
            have HLE := Lib.hid hle
            clear h hall hle HV
            go_wp2
            go_roundw
            case rel =>
              refine ⟨k + 1, by omega, by go_num, fun j hj hj2 => ?_, HBR.out.trans (HLE.out.mono HBR.out.size)⟩
              by_cases e : j = k
              · subst e; rw [← HX.out]; exact fun h => HT1.out h.2.1
              · exact HNO.out j (by omega) hj2
            case measure => simp [intOf]; omega
        have d1 : (x1.toList == sg.toList) = true := eq_yes t1
        have HT1 := Lib.hid t1
        clear t1
        by_cases t2 : x2 = D
        case neg =>
          have d2 : (x2.toList == D.toList) = false := eq_no t2
          have HT2 := Lib.hid t2
          clear t2
          go_upto_region 9 with fail
          clear v0 v1
          obtain ⟨V, hV⟩ : ∃ V : List MP, V = [.con (.pointer (some ⟨p, 0, none⟩)), .con (.pointer (some ⟨p, 0, none⟩)), .con (.pointer (some ⟨p, 1, none⟩)), .con (.slice (some ⟨b, off, none⟩) l.length c), .con (.int .i64 (k : Int)), .con (.pointer (some ⟨b, off + k * 3, none⟩)), .con (.pointer (some ⟨b, off + k * 3, none⟩)), .con (.string x0), .con (.pointer (some ⟨w.heap.size + 1, 0, none⟩)), .con (.string si), .con (.bool true), .con (.bool true), .con (.pointer (some ⟨p, 0, none⟩)), .con (.pointer (some ⟨p, 0, none⟩)), .con (.pointer (some ⟨p, 1, none⟩)), .con (.slice (some ⟨b, off, none⟩) l.length c), .con (.int .i64 (k : Int)), .con (.pointer (some ⟨b, off + k * 3, none⟩)), .con (.pointer (some ⟨b, off + k * 3 + 1, none⟩)), .con (.string x1), .con (.pointer (some ⟨w.heap.size + 1, 1, none⟩)), .con (.string sg), .con (.bool true), .con (.bool true), .con (.bool true), .con (.pointer (some ⟨p, 0, none⟩)), .con (.pointer (some ⟨p, 0, none⟩)), .con (.pointer (some ⟨p, 1, none⟩)), .con (.slice (some ⟨b, off, none⟩) l.length c), .con (.int .i64 (k : Int)), .con (.pointer (some ⟨b, off + k * 3, none⟩)), .con (.pointer (some ⟨b, off + k * 3 + 2, none⟩)), .con (.string x2), .con (.string m), .con (.string D), .con (.bool false)] := ⟨_, rfl⟩
          have HV := Lib.hid hV
          clear hV
          refine wp_region_inv 36 (fun d a' w' => ∃ x55 x56 x57 x58 x59 x60 x61 x62 x63 x64 x65 x66 x67 x68 x69 x70 x71 x72 x73 x74 x75 x76 x77 x78 x79 x80 x81 x82 x83 x84 x85 x86 x87 x88 x89 x90, a' = ⟨#[Value.pointer (some { block := p, off := 0 }), Value.agg #[Value.string ks, Value.string kp], Value.agg #[Value.string si, Value.string sg], Value.string m, undef, Value.pointer (some { block := w.heap.size, off := 0 }), Value.pointer (some { block := w.heap.size + 1, off := 0 }), undef, u8, Value.string ID, Value.int IntKind.i64 0, Value.int IntKind.i64 (k : Int), Value.tuple #[Value.string ID, Value.int IntKind.i64 0], Value.agg #[Value.string ks, Value.string kp], Value.tuple #[Value.string ID, Value.int IntKind.i64 0], Value.string ID, Value.int IntKind.i64 0, Value.int IntKind.i64 0, Value.bool false, Value.bool false, Value.string ID, Value.pointer (some { block := w.heap.size + 1, off := 0 }), Value.string si, Value.bool false, Value.bool false, Value.bool false, Value.pointer (some { block := w.heap.size + 1, off := 1 }), Value.string sg, Value.bool true, Value.bool false, Value.bool false, Value.pointer (some { block := p, off := 0 }), Value.pointer (some { block := p, off := 0 }), Value.pointer (some { block := p, off := 0 }), Value.bool false, undef, undef, undef, undef, undef, undef, undef, undef, undef, undef, undef, Value.int IntKind.i64 (k : Int), Value.pointer (some { block := p, off := 0 }), Value.pointer (some { block := p, off := 0 }), Value.pointer (some { block := p, off := 1 }), Value.slice (some { block := b, off := off }) l.length c, Value.int IntKind.i64 (l.length : Int), Value.bool true, u53, u54, x55, x56, x57, x58, x59, x60, x61, x62, x63, x64, x65, x66, x67, x68, x69, x70, x71, x72, x73, x74, x75, x76, x77, x78, x79, x80, x81, x82, x83, x84, x85, x86, x87, x88, x89, x90, u91], []⟩ ∧ RegI wr V d w' [x55, x56, x57, x58, x59, x60, x61, x62, x63, x64, x65, x66, x67, x68, x69, x70, x71, x72, x73, x74, x75, x76, x77, x78, x79, x80, x81, x82, x83, x84, x85, x86, x87, x88, x89, x90]) (by kernel_rfl) (by kernel_rfl) ?first ?step ?last
          case first => exact ⟨_, _, _, _, _, _, _, _, _, _, _, _, _, _, _, _, _, _, _, _, _, _, _, _, _, _, _, _, _, _, _, _, _, _, _, _, rfl, RegI.first _ _ _ (by rw [HV.out]; rfl)⟩
          case step =>
            rintro d a' w' ⟨x55, x56, x57, x58, x59, x60, x61, x62, x63, x64, x65, x66, x67, x68, x69, x70, x71, x72, x73, x74, x75, x76, x77, x78, x79, x80, x81, x82, x83, x84, x85, x86, x87, x88, x89, x90, rfl, h⟩ q hq hn hw
            rcases q with _ | _ | _ | _ | _ | _ | _ | _ | _ | _ | _ | _ | _ | _ | _ | _ | _ | _ | _ | _ | _ | _ | _ | _ | _ | _ | _ | _ | _ | _ | _ | _ | _ | _ | _ | _ | q
            · refine wpOp_step rfl fun K hK => ?_
              go_simp
              exact hK _ _ ⟨_, x56, x57, x58, x59, x60, x61, x62, x63, x64, x65, x66, x67, x68, x69, x70, x71, x72, x73, x74, x75, x76, x77, x78, x79, x80, x81, x82, x83, x84, x85, x86, x87, x88, x89, x90, rfl, h.same 0 _ (.con (.pointer (some ⟨p, 0, none⟩))) (by rw [HV.out]; rfl) rfl⟩
            · obtain rfl : x55 = .pointer (some ⟨p, 0, none⟩) := h.get 0 (hw _ rfl ⟨0, .data⟩ (by simp) rfl) (.con (.pointer (some ⟨p, 0, none⟩))) (by rw [HV.out]; rfl) _ rfl
              refine wpOp_step rfl fun K hK => ?_
              go_simp
              exact hK _ _ ⟨_, _, x57, x58, x59, x60, x61, x62, x63, x64, x65, x66, x67, x68, x69, x70, x71, x72, x73, x74, x75, x76, x77, x78, x79, x80, x81, x82, x83, x84, x85, x86, x87, x88, x89, x90, rfl, h.same 1 _ (.con (.pointer (some ⟨p, 0, none⟩))) (by rw [HV.out]; rfl) rfl⟩
            · obtain rfl : x56 = .pointer (some ⟨p, 0, none⟩) := h.get 1 (hw _ rfl ⟨1, .data⟩ (by simp) rfl) (.con (.pointer (some ⟨p, 0, none⟩))) (by rw [HV.out]; rfl) _ rfl
              refine wpOp_step rfl fun K hK => ?_
              go_simp
              exact hK _ _ ⟨x55, _, _, x58, x59, x60, x61, x62, x63, x64, x65, x66, x67, x68, x69, x70, x71, x72, x73, x74, x75, x76, x77, x78, x79, x80, x81, x82, x83, x84, x85, x86, x87, x88, x89, x90, rfl, h.same 2 _ (.con (.pointer (some ⟨p, 1, none⟩))) (by rw [HV.out]; rfl) rfl⟩
            · obtain rfl : x57 = .pointer (some ⟨p, 1, none⟩) := h.get 2 (hw _ rfl ⟨2, .data⟩ (by simp) rfl) (.con (.pointer (some ⟨p, 1, none⟩))) (by rw [HV.out]; rfl) _ rfl
              obtain ⟨v0, v1, g0, g1, e0, e1, e2⟩ := HC.out w' h.1
              refine wpOp_step rfl fun K hK => ?_
              go_simp
              exact hK _ _ ⟨x55, x56, _, _, x59, x60, x61, x62, x63, x64, x65, x66, x67, x68, x69, x70, x71, x72, x73, x74, x75, x76, x77, x78, x79, x80, x81, x82, x83, x84, x85, x86, x87, x88, x89, x90, rfl, h.same 3 _ (.con (.slice (some ⟨b, off, none⟩) l.length c)) (by rw [HV.out]; rfl) rfl⟩
            · refine wpOp_step rfl fun K hK => ?_
              go_simp
              exact hK _ _ ⟨x55, x56, x57, x58, _, x60, x61, x62, x63, x64, x65, x66, x67, x68, x69, x70, x71, x72, x73, x74, x75, x76, x77, x78, x79, x80, x81, x82, x83, x84, x85, x86, x87, x88, x89, x90, rfl, h.same 4 _ (.con (.int .i64 (k : Int))) (by rw [HV.out]; rfl) rfl⟩
            · obtain rfl : x58 = .slice (some ⟨b, off, none⟩) l.length c := h.get 3 (hw _ rfl ⟨3, .data⟩ (by simp) rfl) (.con (.slice (some ⟨b, off, none⟩) l.length c)) (by rw [HV.out]; rfl) _ rfl
              obtain rfl : x59 = .int .i64 (k : Int) := h.get 4 (hw _ rfl ⟨4, .data⟩ (by simp) rfl) (.con (.int .i64 (k : Int))) (by rw [HV.out]; rfl) _ rfl
              obtain ⟨v0, v1, g0, g1, e0, e1, e2⟩ := HC.out w' h.1
              refine wpOp_step rfl fun K hK => ?_
              go_simp
              exact hK _ _ ⟨x55, x56, x57, _, _, _, x61, x62, x63, x64, x65, x66, x67, x68, x69, x70, x71, x72, x73, x74, x75, x76, x77, x78, x79, x80, x81, x82, x83, x84, x85, x86, x87, x88, x89, x90, rfl, h.same 5 _ (.con (.pointer (some ⟨b, off + k * 3, none⟩))) (by rw [HV.out]; rfl) rfl⟩
            · obtain rfl : x60 = .pointer (some ⟨b, off + k * 3, none⟩) := h.get 5 (hw _ rfl ⟨5, .data⟩ (by simp) rfl) (.con (.pointer (some ⟨b, off + k * 3, none⟩))) (by rw [HV.out]; rfl) _ rfl
              refine wpOp_step rfl fun K hK => ?_
              go_simp
              exact hK _ _ ⟨x55, x56, x57, x58, x59, _, _, x62, x63, x64, x65, x66, x67, x68, x69, x70, x71, x72, x73, x74, x75, x76, x77, x78, x79, x80, x81, x82, x83, x84, x85, x86, x87, x88, x89, x90, rfl, h.same 6 _ (.con (.pointer (some ⟨b, off + k * 3, none⟩))) (by rw [HV.out]; rfl) rfl⟩
            · obtain rfl : x61 = .pointer (some ⟨b, off + k * 3, none⟩) := h.get 6 (hw _ rfl ⟨6, .data⟩ (by simp) rfl) (.con (.pointer (some ⟨b, off + k * 3, none⟩))) (by rw [HV.out]; rfl) _ rfl
              obtain ⟨v0, v1, g0, g1, e0, e1, e2⟩ := HC.out w' h.1
              refine wpOp_step rfl fun K hK => ?_
              go_simp
              exact hK _ _ ⟨x55, x56, x57, x58, x59, x60, _, _, x63, x64, x65, x66, x67, x68, x69, x70, x71, x72, x73, x74, x75, x76, x77, x78, x79, x80, x81, x82, x83, x84, x85, x86, x87, x88, x89, x90, rfl, h.same 7 _ (.con (.string x0)) (by rw [HV.out]; rfl) rfl⟩
            · refine wpOp_step rfl fun K hK => ?_
              go_simp
              exact hK _ _ ⟨x55, x56, x57, x58, x59, x60, x61, x62, _, x64, x65, x66, x67, x68, x69, x70, x71, x72, x73, x74, x75, x76, x77, x78, x79, x80, x81, x82, x83, x84, x85, x86, x87, x88, x89, x90, rfl, h.same 8 _ (.con (.pointer (some ⟨w.heap.size + 1, 0, none⟩))) (by rw [HV.out]; rfl) rfl⟩
            · obtain rfl : x63 = .pointer (some ⟨w.heap.size + 1, 0, none⟩) := h.get 8 (hw _ rfl ⟨8, .data⟩ (by simp) rfl) (.con (.pointer (some ⟨w.heap.size + 1, 0, none⟩))) (by rw [HV.out]; rfl) _ rfl
              obtain ⟨v0, v1, g0, g1, e0, e1, e2⟩ := HC.out w' h.1
              refine wpOp_step rfl fun K hK => ?_
              go_simp
              exact hK _ _ ⟨x55, x56, x57, x58, x59, x60, x61, x62, _, _, x65, x66, x67, x68, x69, x70, x71, x72, x73, x74, x75, x76, x77, x78, x79, x80, x81, x82, x83, x84, x85, x86, x87, x88, x89, x90, rfl, h.same 9 _ (.con (.string si)) (by rw [HV.out]; rfl) rfl⟩
            · obtain rfl : x62 = .string x0 := h.get 7 (hw _ rfl ⟨7, .data⟩ (by simp) rfl) (.con (.string x0)) (by rw [HV.out]; rfl) _ rfl
              obtain rfl : x64 = .string si := h.get 9 (hw _ rfl ⟨9, .data⟩ (by simp) rfl) (.con (.string si)) (by rw [HV.out]; rfl) _ rfl
              refine wpOp_step rfl fun K hK => ?_
              go_simp
              exact hK _ _ ⟨x55, x56, x57, x58, x59, x60, x61, _, x63, _, _, x66, x67, x68, x69, x70, x71, x72, x73, x74, x75, x76, x77, x78, x79, x80, x81, x82, x83, x84, x85, x86, x87, x88, x89, x90, rfl, h.same 10 _ (.con (.bool true)) (by rw [HV.out]; rfl) rfl⟩
            · obtain rfl : x65 = .bool true := h.get 10 (hw _ rfl ⟨10, .data⟩ (by simp) rfl) (.con (.bool true)) (by rw [HV.out]; rfl) _ rfl
              refine wpOp_step rfl fun K hK => ?_
              go_simp
              exact hK _ _ ⟨x55, x56, x57, x58, x59, x60, x61, x62, x63, x64, _, _, x67, x68, x69, x70, x71, x72, x73, x74, x75, x76, x77, x78, x79, x80, x81, x82, x83, x84, x85, x86, x87, x88, x89, x90, rfl, h.same 11 _ (.con (.bool true)) (by rw [HV.out]; rfl) rfl⟩
            · obtain rfl : x66 = .bool true := h.get 11 (hw _ rfl ⟨11, .guard⟩ (by simp) rfl) (.con (.bool true)) (by rw [HV.out]; rfl) _ rfl
              refine wpOp_step rfl fun K hK => ?_
              go_simp
              exact hK _ _ ⟨x55, x56, x57, x58, x59, x60, x61, x62, x63, x64, x65, _, _, x68, x69, x70, x71, x72, x73, x74, x75, x76, x77, x78, x79, x80, x81, x82, x83, x84, x85, x86, x87, x88, x89, x90, rfl, h.same 12 _ (.con (.pointer (some ⟨p, 0, none⟩))) (by rw [HV.out]; rfl) rfl⟩
            · obtain rfl : x66 = .bool true := h.get 11 (hw _ rfl ⟨11, .guard⟩ (by simp) rfl) (.con (.bool true)) (by rw [HV.out]; rfl) _ rfl
              obtain rfl : x67 = .pointer (some ⟨p, 0, none⟩) := h.get 12 (hw _ rfl ⟨12, .data⟩ (by simp) rfl) (.con (.pointer (some ⟨p, 0, none⟩))) (by rw [HV.out]; rfl) _ rfl
              refine wpOp_step rfl fun K hK => ?_
              go_simp
              exact hK _ _ ⟨x55, x56, x57, x58, x59, x60, x61, x62, x63, x64, x65, _, _, _, x69, x70, x71, x72, x73, x74, x75, x76, x77, x78, x79, x80, x81, x82, x83, x84, x85, x86, x87, x88, x89, x90, rfl, h.same 13 _ (.con (.pointer (some ⟨p, 0, none⟩))) (by rw [HV.out]; rfl) rfl⟩
            · obtain rfl : x66 = .bool true := h.get 11 (hw _ rfl ⟨11, .guard⟩ (by simp) rfl) (.con (.bool true)) (by rw [HV.out]; rfl) _ rfl
              obtain rfl : x68 = .pointer (some ⟨p, 0, none⟩) := h.get 13 (hw _ rfl ⟨13, .data⟩ (by simp) rfl) (.con (.pointer (some ⟨p, 0, none⟩))) (by rw [HV.out]; rfl) _ rfl
              refine wpOp_step rfl fun K hK => ?_
              go_simp
              exact hK _ _ ⟨x55, x56, x57, x58, x59, x60, x61, x62, x63, x64, x65, _, x67, _, _, x70, x71, x72, x73, x74, x75, x76, x77, x78, x79, x80, x81, x82, x83, x84, x85, x86, x87, x88, x89, x90, rfl, h.same 14 _ (.con (.pointer (some ⟨p, 1, none⟩))) (by rw [HV.out]; rfl) rfl⟩
            · obtain rfl : x66 = .bool true := h.get 11 (hw _ rfl ⟨11, .guard⟩ (by simp) rfl) (.con (.bool true)) (by rw [HV.out]; rfl) _ rfl
              obtain rfl : x69 = .pointer (some ⟨p, 1, none⟩) := h.get 14 (hw _ rfl ⟨14, .data⟩ (by simp) rfl) (.con (.pointer (some ⟨p, 1, none⟩))) (by rw [HV.out]; rfl) _ rfl
              obtain ⟨v0, v1, g0, g1, e0, e1, e2⟩ := HC.out w' h.1
              refine wpOp_step rfl fun K hK => ?_
              go_simp
              exact hK _ _ ⟨x55, x56, x57, x58, x59, x60, x61, x62, x63, x64, x65, _, x67, x68, _, _, x71, x72, x73, x74, x75, x76, x77, x78, x79, x80, x81, x82, x83, x84, x85, x86, x87, x88, x89, x90, rfl, h.same 15 _ (.con (.slice (some ⟨b, off, none⟩) l.length c)) (by rw [HV.out]; rfl) rfl⟩
            · obtain rfl : x66 = .bool true := h.get 11 (hw _ rfl ⟨11, .guard⟩ (by simp) rfl) (.con (.bool true)) (by rw [HV.out]; rfl) _ rfl
              refine wpOp_step rfl fun K hK => ?_
              go_simp
              exact hK _ _ ⟨x55, x56, x57, x58, x59, x60, x61, x62, x63, x64, x65, _, x67, x68, x69, x70, _, x72, x73, x74, x75, x76, x77, x78, x79, x80, x81, x82, x83, x84, x85, x86, x87, x88, x89, x90, rfl, h.same 16 _ (.con (.int .i64 (k : Int))) (by rw [HV.out]; rfl) rfl⟩
            · obtain rfl : x66 = .bool true := h.get 11 (hw _ rfl ⟨11, .guard⟩ (by simp) rfl) (.con (.bool true)) (by rw [HV.out]; rfl) _ rfl
              obtain rfl : x70 = .slice (some ⟨b, off, none⟩) l.length c := h.get 15 (hw _ rfl ⟨15, .data⟩ (by simp) rfl) (.con (.slice (some ⟨b, off, none⟩) l.length c)) (by rw [HV.out]; rfl) _ rfl
              obtain rfl : x71 = .int .i64 (k : Int) := h.get 16 (hw _ rfl ⟨16, .data⟩ (by simp) rfl) (.con (.int .i64 (k : Int))) (by rw [HV.out]; rfl) _ rfl
              obtain ⟨v0, v1, g0, g1, e0, e1, e2⟩ := HC.out w' h.1
              refine wpOp_step rfl fun K hK => ?_
              go_simp
              exact hK _ _ ⟨x55, x56, x57, x58, x59, x60, x61, x62, x63, x64, x65, _, x67, x68, x69, _, _, _, x73, x74, x75, x76, x77, x78, x79, x80, x81, x82, x83, x84, x85, x86, x87, x88, x89, x90, rfl, h.same 17 _ (.con (.pointer (some ⟨b, off + k * 3, none⟩))) (by rw [HV.out]; rfl) rfl⟩
            · obtain rfl : x66 = .bool true := h.get 11 (hw _ rfl ⟨11, .guard⟩ (by simp) rfl) (.con (.bool true)) (by rw [HV.out]; rfl) _ rfl
              obtain rfl : x72 = .pointer (some ⟨b, off + k * 3, none⟩) := h.get 17 (hw _ rfl ⟨17, .data⟩ (by simp) rfl) (.con (.pointer (some ⟨b, off + k * 3, none⟩))) (by rw [HV.out]; rfl) _ rfl
              refine wpOp_step rfl fun K hK => ?_
              go_simp
              exact hK _ _ ⟨x55, x56, x57, x58, x59, x60, x61, x62, x63, x64, x65, _, x67, x68, x69, x70, x71, _, _, x74, x75, x76, x77, x78, x79, x80, x81, x82, x83, x84, x85, x86, x87, x88, x89, x90, rfl, h.same 18 _ (.con (.pointer (some ⟨b, off + k * 3 + 1, none⟩))) (by rw [HV.out]; rfl) rfl⟩
            · obtain rfl : x66 = .bool true := h.get 11 (hw _ rfl ⟨11, .guard⟩ (by simp) rfl) (.con (.bool true)) (by rw [HV.out]; rfl) _ rfl
              obtain rfl : x73 = .pointer (some ⟨b, off + k * 3 + 1, none⟩) := h.get 18 (hw _ rfl ⟨18, .data⟩ (by simp) rfl) (.con (.pointer (some ⟨b, off + k * 3 + 1, none⟩))) (by rw [HV.out]; rfl) _ rfl
              obtain ⟨v0, v1, g0, g1, e0, e1, e2⟩ := HC.out w' h.1
              refine wpOp_step rfl fun K hK => ?_
              go_simp
              exact hK _ _ ⟨x55, x56, x57, x58, x59, x60, x61, x62, x63, x64, x65, _, x67, x68, x69, x70, x71, x72, _, _, x75, x76, x77, x78, x79, x80, x81, x82, x83, x84, x85, x86, x87, x88, x89, x90, rfl, h.same 19 _ (.con (.string x1)) (by rw [HV.out]; rfl) rfl⟩
            · obtain rfl : x66 = .bool true := h.get 11 (hw _ rfl ⟨11, .guard⟩ (by simp) rfl) (.con (.bool true)) (by rw [HV.out]; rfl) _ rfl
              refine wpOp_step rfl fun K hK => ?_
              go_simp
              exact hK _ _ ⟨x55, x56, x57, x58, x59, x60, x61, x62, x63, x64, x65, _, x67, x68, x69, x70, x71, x72, x73, x74, _, x76, x77, x78, x79, x80, x81, x82, x83, x84, x85, x86, x87, x88, x89, x90, rfl, h.same 20 _ (.con (.pointer (some ⟨w.heap.size + 1, 1, none⟩))) (by rw [HV.out]; rfl) rfl⟩
            · obtain rfl : x66 = .bool true := h.get 11 (hw _ rfl ⟨11, .guard⟩ (by simp) rfl) (.con (.bool true)) (by rw [HV.out]; rfl) _ rfl
              obtain rfl : x75 = .pointer (some ⟨w.heap.size + 1, 1, none⟩) := h.get 20 (hw _ rfl ⟨20, .data⟩ (by simp) rfl) (.con (.pointer (some ⟨w.heap.size + 1, 1, none⟩))) (by rw [HV.out]; rfl) _ rfl
              obtain ⟨v0, v1, g0, g1, e0, e1, e2⟩ := HC.out w' h.1
              refine wpOp_step rfl fun K hK => ?_
              go_simp
              exact hK _ _ ⟨x55, x56, x57, x58, x59, x60, x61, x62, x63, x64, x65, _, x67, x68, x69, x70, x71, x72, x73, x74, _, _, x77, x78, x79, x80, x81, x82, x83, x84, x85, x86, x87, x88, x89, x90, rfl, h.same 21 _ (.con (.string sg)) (by rw [HV.out]; rfl) rfl⟩
            · obtain rfl : x66 = .bool true := h.get 11 (hw _ rfl ⟨11, .guard⟩ (by simp) rfl) (.con (.bool true)) (by rw [HV.out]; rfl) _ rfl
              obtain rfl : x74 = .string x1 := h.get 19 (hw _ rfl ⟨19, .data⟩ (by simp) rfl) (.con (.string x1)) (by rw [HV.out]; rfl) _ rfl
              obtain rfl : x76 = .string sg := h.get 21 (hw _ rfl ⟨21, .data⟩ (by simp) rfl) (.con (.string sg)) (by rw [HV.out]; rfl) _ rfl
              refine wpOp_step rfl fun K hK => ?_
              go_simp
              exact hK _ _ ⟨x55, x56, x57, x58, x59, x60, x61, x62, x63, x64, x65, _, x67, x68, x69, x70, x71, x72, x73, _, x75, _, _, x78, x79, x80, x81, x82, x83, x84, x85, x86, x87, x88, x89, x90, rfl, h.same 22 _ (.con (.bool true)) (by rw [HV.out]; rfl) rfl⟩
            · obtain rfl : x66 = .bool true := h.get 11 (hw _ rfl ⟨11, .data⟩ (by simp) rfl) (.con (.bool true)) (by rw [HV.out]; rfl) _ rfl
              obtain rfl : x77 = .bool true := h.get 22 (hw _ rfl ⟨22, .data⟩ (by simp) rfl) (.con (.bool true)) (by rw [HV.out]; rfl) _ rfl
              refine wpOp_step rfl fun K hK => ?_
              go_simp
              exact hK _ _ ⟨x55, x56, x57, x58, x59, x60, x61, x62, x63, x64, x65, _, x67, x68, x69, x70, x71, x72, x73, x74, x75, x76, _, _, x79, x80, x81, x82, x83, x84, x85, x86, x87, x88, x89, x90, rfl, h.same 23 _ (.con (.bool true)) (by rw [HV.out]; rfl) rfl⟩
            · obtain rfl : x78 = .bool true := h.get 23 (hw _ rfl ⟨23, .data⟩ (by simp) rfl) (.con (.bool true)) (by rw [HV.out]; rfl) _ rfl
              refine wpOp_step rfl fun K hK => ?_
              go_simp
              exact hK _ _ ⟨x55, x56, x57, x58, x59, x60, x61, x62, x63, x64, x65, x66, x67, x68, x69, x70, x71, x72, x73, x74, x75, x76, x77, _, _, x80, x81, x82, x83, x84, x85, x86, x87, x88, x89, x90, rfl, h.same 24 _ (.con (.bool true)) (by rw [HV.out]; rfl) rfl⟩
            · obtain rfl : x79 = .bool true := h.get 24 (hw _ rfl ⟨24, .guard⟩ (by simp) rfl) (.con (.bool true)) (by rw [HV.out]; rfl) _ rfl
              refine wpOp_step rfl fun K hK => ?_
              go_simp
              exact hK _ _ ⟨x55, x56, x57, x58, x59, x60, x61, x62, x63, x64, x65, x66, x67, x68, x69, x70, x71, x72, x73, x74, x75, x76, x77, x78, _, _, x81, x82, x83, x84, x85, x86, x87, x88, x89, x90, rfl, h.same 25 _ (.con (.pointer (some ⟨p, 0, none⟩))) (by rw [HV.out]; rfl) rfl⟩
            · obtain rfl : x79 = .bool true := h.get 24 (hw _ rfl ⟨24, .guard⟩ (by simp) rfl) (.con (.bool true)) (by rw [HV.out]; rfl) _ rfl
              obtain rfl : x80 = .pointer (some ⟨p, 0, none⟩) := h.get 25 (hw _ rfl ⟨25, .data⟩ (by simp) rfl) (.con (.pointer (some ⟨p, 0, none⟩))) (by rw [HV.out]; rfl) _ rfl
              refine wpOp_step rfl fun K hK => ?_
              go_simp
              exact hK _ _ ⟨x55, x56, x57, x58, x59, x60, x61, x62, x63, x64, x65, x66, x67, x68, x69, x70, x71, x72, x73, x74, x75, x76, x77, x78, _, _, _, x82, x83, x84, x85, x86, x87, x88, x89, x90, rfl, h.same 26 _ (.con (.pointer (some ⟨p, 0, none⟩))) (by rw [HV.out]; rfl) rfl⟩
            · obtain rfl : x79 = .bool true := h.get 24 (hw _ rfl ⟨24, .guard⟩ (by simp) rfl) (.con (.bool true)) (by rw [HV.out]; rfl) _ rfl
              obtain rfl : x81 = .pointer (some ⟨p, 0, none⟩) := h.get 26 (hw _ rfl ⟨26, .data⟩ (by simp) rfl) (.con (.pointer (some ⟨p, 0, none⟩))) (by rw [HV.out]; rfl) _ rfl
              refine wpOp_step rfl fun K hK => ?_
              go_simp
              exact hK _ _ ⟨x55, x56, x57, x58, x59, x60, x61, x62, x63, x64, x65, x66, x67, x68, x69, x70, x71, x72, x73, x74, x75, x76, x77, x78, _, x80, _, _, x83, x84, x85, x86, x87, x88, x89, x90, rfl, h.same 27 _ (.con (.pointer (some ⟨p, 1, none⟩))) (by rw [HV.out]; rfl) rfl⟩
            · obtain rfl : x79 = .bool true := h.get 24 (hw _ rfl ⟨24, .guard⟩ (by simp) rfl) (.con (.bool true)) (by rw [HV.out]; rfl) _ rfl
              obtain rfl : x82 = .pointer (some ⟨p, 1, none⟩) := h.get 27 (hw _ rfl ⟨27, .data⟩ (by simp) rfl) (.con (.pointer (some ⟨p, 1, none⟩))) (by rw [HV.out]; rfl) _ rfl
              obtain ⟨v0, v1, g0, g1, e0, e1, e2⟩ := HC.out w' h.1
              refine wpOp_step rfl fun K hK => ?_
              go_simp
              exact hK _ _ ⟨x55, x56, x57, x58, x59, x60, x61, x62, x63, x64, x65, x66, x67, x68, x69, x70, x71, x72, x73, x74, x75, x76, x77, x78, _, x80, x81, _, _, x84, x85, x86, x87, x88, x89, x90, rfl, h.same 28 _ (.con (.slice (some ⟨b, off, none⟩) l.length c)) (by rw [HV.out]; rfl) rfl⟩
            · obtain rfl : x79 = .bool true := h.get 24 (hw _ rfl ⟨24, .guard⟩ (by simp) rfl) (.con (.bool true)) (by rw [HV.out]; rfl) _ rfl
              refine wpOp_step rfl fun K hK => ?_
              go_simp
              exact hK _ _ ⟨x55, x56, x57, x58, x59, x60, x61, x62, x63, x64, x65, x66, x67, x68, x69, x70, x71, x72, x73, x74, x75, x76, x77, x78, _, x80, x81, x82, x83, _, x85, x86, x87, x88, x89, x90, rfl, h.same 29 _ (.con (.int .i64 (k : Int))) (by rw [HV.out]; rfl) rfl⟩
            · obtain rfl : x79 = .bool true := h.get 24 (hw _ rfl ⟨24, .guard⟩ (by simp) rfl) (.con (.bool true)) (by rw [HV.out]; rfl) _ rfl
              obtain rfl : x83 = .slice (some ⟨b, off, none⟩) l.length c := h.get 28 (hw _ rfl ⟨28, .data⟩ (by simp) rfl) (.con (.slice (some ⟨b, off, none⟩) l.length c)) (by rw [HV.out]; rfl) _ rfl
              obtain rfl : x84 = .int .i64 (k : Int) := h.get 29 (hw _ rfl ⟨29, .data⟩ (by simp) rfl) (.con (.int .i64 (k : Int))) (by rw [HV.out]; rfl) _ rfl
              obtain ⟨v0, v1, g0, g1, e0, e1, e2⟩ := HC.out w' h.1
              refine wpOp_step rfl fun K hK => ?_
              go_simp
              exact hK _ _ ⟨x55, x56, x57, x58, x59, x60, x61, x62, x63, x64, x65, x66, x67, x68, x69, x70, x71, x72, x73, x74, x75, x76, x77, x78, _, x80, x81, x82, _, _, _, x86, x87, x88, x89, x90, rfl, h.same 30 _ (.con (.pointer (some ⟨b, off + k * 3, none⟩))) (by rw [HV.out]; rfl) rfl⟩
            · obtain rfl : x79 = .bool true := h.get 24 (hw _ rfl ⟨24, .guard⟩ (by simp) rfl) (.con (.bool true)) (by rw [HV.out]; rfl) _ rfl
              obtain rfl : x85 = .pointer (some ⟨b, off + k * 3, none⟩) := h.get 30 (hw _ rfl ⟨30, .data⟩ (by simp) rfl) (.con (.pointer (some ⟨b, off + k * 3, none⟩))) (by rw [HV.out]; rfl) _ rfl
              refine wpOp_step rfl fun K hK => ?_
              go_simp
              exact hK _ _ ⟨x55, x56, x57, x58, x59, x60, x61, x62, x63, x64, x65, x66, x67, x68, x69, x70, x71, x72, x73, x74, x75, x76, x77, x78, _, x80, x81, x82, x83, x84, _, _, x87, x88, x89, x90, rfl, h.same 31 _ (.con (.pointer (some ⟨b, off + k * 3 + 2, none⟩))) (by rw [HV.out]; rfl) rfl⟩
            · obtain rfl : x79 = .bool true := h.get 24 (hw _ rfl ⟨24, .guard⟩ (by simp) rfl) (.con (.bool true)) (by rw [HV.out]; rfl) _ rfl
              obtain rfl : x86 = .pointer (some ⟨b, off + k * 3 + 2, none⟩) := h.get 31 (hw _ rfl ⟨31, .data⟩ (by simp) rfl) (.con (.pointer (some ⟨b, off + k * 3 + 2, none⟩))) (by rw [HV.out]; rfl) _ rfl
              obtain ⟨v0, v1, g0, g1, e0, e1, e2⟩ := HC.out w' h.1
              refine wpOp_step rfl fun K hK => ?_
              go_simp
              exact hK _ _ ⟨x55, x56, x57, x58, x59, x60, x61, x62, x63, x64, x65, x66, x67, x68, x69, x70, x71, x72, x73, x74, x75, x76, x77, x78, _, x80, x81, x82, x83, x84, x85, _, _, x88, x89, x90, rfl, h.same 32 _ (.con (.string x2)) (by rw [HV.out]; rfl) rfl⟩
            · obtain rfl : x79 = .bool true := h.get 24 (hw _ rfl ⟨24, .guard⟩ (by simp) rfl) (.con (.bool true)) (by rw [HV.out]; rfl) _ rfl
              refine wpOp_step rfl fun K hK => ?_
              go_simp
              exact hK _ _ ⟨x55, x56, x57, x58, x59, x60, x61, x62, x63, x64, x65, x66, x67, x68, x69, x70, x71, x72, x73, x74, x75, x76, x77, x78, _, x80, x81, x82, x83, x84, x85, x86, x87, _, x89, x90, rfl, h.same 33 _ (.con (.string m)) (by rw [HV.out]; rfl) rfl⟩
            · obtain rfl : x79 = .bool true := h.get 24 (hw _ rfl ⟨24, .chain⟩ (by simp) rfl) (.con (.bool true)) (by rw [HV.out]; rfl) _ rfl
              obtain rfl : x88 = .string m := h.get 33 (hw _ rfl ⟨33, .data⟩ (by simp) rfl) (.con (.string m)) (by rw [HV.out]; rfl) _ rfl
              obtain ⟨v0, v1, g0, g1, e0, e1, e2⟩ := HC.out w' h.1
              refine wpOp_step rfl fun K hK => ?_
              go_simp
              refine (HDG.out w').mono ?_
              rintro e w2 ⟨rfl, hb2⟩
              exact hK _ _ ⟨x55, x56, x57, x58, x59, x60, x61, x62, x63, x64, x65, x66, x67, x68, x69, x70, x71, x72, x73, x74, x75, x76, x77, x78, _, x80, x81, x82, x83, x84, x85, x86, x87, _, _, x90, rfl, h.did hb2 34 _ (.con (.string D)) (by rw [HV.out]; rfl) rfl⟩
            · obtain rfl : x79 = .bool true := h.get 24 (hw _ rfl ⟨24, .guard⟩ (by simp) rfl) (.con (.bool true)) (by rw [HV.out]; rfl) _ rfl
              obtain rfl : x87 = .string x2 := h.get 32 (hw _ rfl ⟨32, .data⟩ (by simp) rfl) (.con (.string x2)) (by rw [HV.out]; rfl) _ rfl
              obtain rfl : x89 = .string D := h.get 34 (hw _ rfl ⟨34, .data⟩ (by simp) rfl) (.con (.string D)) (by rw [HV.out]; rfl) _ rfl
              refine wpOp_step rfl fun K hK => ?_
              go_simp
              exact hK _ _ ⟨x55, x56, x57, x58, x59, x60, x61, x62, x63, x64, x65, x66, x67, x68, x69, x70, x71, x72, x73, x74, x75, x76, x77, x78, _, x80, x81, x82, x83, x84, x85, x86, _, x88, _, _, rfl, h.same 35 _ (.con (.bool false)) (by rw [HV.out]; rfl) rfl⟩
            · omega
          case last =>
            rintro d a' w' hall ⟨x55, x56, x57, x58, x59, x60, x61, x62, x63, x64, x65, x66, x67, x68, x69, x70, x71, x72, x73, x74, x75, x76, x77, x78, x79, x80, x81, x82, x83, x84, x85, x86, x87, x88, x89, x90, rfl, h⟩
            have hle := h.1
            obtain rfl : x79 = .bool true := h.get 24 (hall _ (by omega)) (.con (.bool true)) (by rw [HV.out]; rfl) _ rfl
            obtain rfl : x90 = .bool false := h.get 35 (hall _ (by omega)) (.con (.bool false)) (by rw [HV.out]; rfl) _ rfl
            have HLE := Lib.hid hle
            clear h hall hle HV
            go_wp2
            go_roundw
            case rel =>
              refine ⟨k + 1, by omega, by go_num, fun j hj hj2 => ?_, HBR.out.trans (HLE.out.mono HBR.out.size)⟩
              by_cases e : j = k
              · subst e; rw [← HX.out]; exact fun h => HT2.out h.2.2
              · exact HNO.out j (by omega) hj2
            case measure => simp [intOf]; omega
        have d2 : (x2.toList == D.toList) = true := eq_yes t2
        have HT2 := Lib.hid t2
        have HANY := Lib.hid (show (l.any fun v => decide (v.1 = si ∧ v.2.1 = sg ∧ v.2.2 = D)) = true from List.any_eq_true.2 ⟨l[k], List.getElem_mem hlt, by rw [← HX.out]; exact decide_eq_true ⟨HT0.out, HT1.out, t2⟩⟩)
        clear t2
        go_upto_region 9 with fail
        clear v0 v1
        obtain ⟨V, hV⟩ : ∃ V : List MP, V = [.con (.pointer (some ⟨p, 0, none⟩)), .con (.pointer (some ⟨p, 0, none⟩)), .con (.pointer (some ⟨p, 1, none⟩)), .con (.slice (some ⟨b, off, none⟩) l.length c), .con (.int .i64 (k : Int)), .con (.pointer (some ⟨b, off + k * 3, none⟩)), .con (.pointer (some ⟨b, off + k * 3, none⟩)), .con (.string x0), .con (.pointer (some ⟨w.heap.size + 1, 0, none⟩)), .con (.string si), .con (.bool true), .con (.bool true), .con (.pointer (some ⟨p, 0, none⟩)), .con (.pointer (some ⟨p, 0, none⟩)), .con (.pointer (some ⟨p, 1, none⟩)), .con (.slice (some ⟨b, off, none⟩) l.length c), .con (.int .i64 (k : Int)), .con (.pointer (some ⟨b, off + k * 3, none⟩)), .con (.pointer (some ⟨b, off + k * 3 + 1, none⟩)), .con (.string x1), .con (.pointer (some ⟨w.heap.size + 1, 1, none⟩)), .con (.string sg), .con (.bool true), .con (.bool true), .con (.bool true), .con (.pointer (some ⟨p, 0, none⟩)), .con (.pointer (some ⟨p, 0, none⟩)), .con (.pointer (some ⟨p, 1, none⟩)), .con (.slice (some ⟨b, off, none⟩) l.length c), .con (.int .i64 (k : Int)), .con (.pointer (some ⟨b, off + k * 3, none⟩)), .con (.pointer (some ⟨b, off + k * 3 + 2, none⟩)), .con (.string x2), .con (.string m), .con (.string D), .con (.bool true)] := ⟨_, rfl⟩
        have HV := Lib.hid hV
        clear hV
        refine wp_region_inv 36 (fun d a' w' => ∃ x55 x56 x57 x58 x59 x60 x61 x62 x63 x64 x65 x66 x67 x68 x69 x70 x71 x72 x73 x74 x75 x76 x77 x78 x79 x80 x81 x82 x83 x84 x85 x86 x87 x88 x89 x90, a' = ⟨#[Value.pointer (some { block := p, off := 0 }), Value.agg #[Value.string ks, Value.string kp], Value.agg #[Value.string si, Value.string sg], Value.string m, undef, Value.pointer (some { block := w.heap.size, off := 0 }), Value.pointer (some { block := w.heap.size + 1, off := 0 }), undef, u8, Value.string ID, Value.int IntKind.i64 0, Value.int IntKind.i64 (k : Int), Value.tuple #[Value.string ID, Value.int IntKind.i64 0], Value.agg #[Value.string ks, Value.string kp], Value.tuple #[Value.string ID, Value.int IntKind.i64 0], Value.string ID, Value.int IntKind.i64 0, Value.int IntKind.i64 0, Value.bool false, Value.bool false, Value.string ID, Value.pointer (some { block := w.heap.size + 1, off := 0 }), Value.string si, Value.bool false, Value.bool false, Value.bool false, Value.pointer (some { block := w.heap.size + 1, off := 1 }), Value.string sg, Value.bool true, Value.bool false, Value.bool false, Value.pointer (some { block := p, off := 0 }), Value.pointer (some { block := p, off := 0 }), Value.pointer (some { block := p, off := 0 }), Value.bool false, undef, undef, undef, undef, undef, undef, undef, undef, undef, undef, undef, Value.int IntKind.i64 (k : Int), Value.pointer (some { block := p, off := 0 }), Value.pointer (some { block := p, off := 0 }), Value.pointer (some { block := p, off := 1 }), Value.slice (some { block := b, off := off }) l.length c, Value.int IntKind.i64 (l.length : Int), Value.bool true, u53, u54, x55, x56, x57, x58, x59, x60, x61, x62, x63, x64, x65, x66, x67, x68, x69, x70, x71, x72, x73, x74, x75, x76, x77, x78, x79, x80, x81, x82, x83, x84, x85, x86, x87, x88, x89, x90, u91], []⟩ ∧ RegI wr V d w' [x55, x56, x57, x58, x59, x60, x61, x62, x63, x64, x65, x66, x67, x68, x69, x70, x71, x72, x73, x74, x75, x76, x77, x78, x79, x80, x81, x82, x83, x84, x85, x86, x87, x88, x89, x90]) (by kernel_rfl) (by kernel_rfl) ?first ?step ?last
        case first => exact ⟨_, _, _, _, _, _, _, _, _, _, _, _, _, _, _, _, _, _, _, _, _, _, _, _, _, _, _, _, _, _, _, _, _, _, _, _, rfl, RegI.first _ _ _ (by rw [HV.out]; rfl)⟩
        case step =>
          rintro d a' w' ⟨x55, x56, x57, x58, x59, x60, x61, x62, x63, x64, x65, x66, x67, x68, x69, x70, x71, x72, x73, x74, x75, x76, x77, x78, x79, x80, x81, x82, x83, x84, x85, x86, x87, x88, x89, x90, rfl, h⟩ q hq hn hw
          rcases q with _ | _ | _ | _ | _ | _ | _ | _ | _ | _ | _ | _ | _ | _ | _ | _ | _ | _ | _ | _ | _ | _ | _ | _ | _ | _ | _ | _ | _ | _ | _ | _ | _ | _ | _ | _ | q
          · refine wpOp_step rfl fun K hK => ?_
            go_simp
            exact hK _ _ ⟨_, x56, x57, x58, x59, x60, x61, x62, x63, x64, x65, x66, x67, x68, x69, x70, x71, x72, x73, x74, x75, x76, x77, x78, x79, x80, x81, x82, x83, x84, x85, x86, x87, x88, x89, x90, rfl, h.same 0 _ (.con (.pointer (some ⟨p, 0, none⟩))) (by rw [HV.out]; rfl) rfl⟩
          · obtain rfl : x55 = .pointer (some ⟨p, 0, none⟩) := h.get 0 (hw _ rfl ⟨0, .data⟩ (by simp) rfl) (.con (.pointer (some ⟨p, 0, none⟩))) (by rw [HV.out]; rfl) _ rfl
            refine wpOp_step rfl fun K hK => ?_
            go_simp
            exact hK _ _ ⟨_, _, x57, x58, x59, x60, x61, x62, x63, x64, x65, x66, x67, x68, x69, x70, x71, x72, x73, x74, x75, x76, x77, x78, x79, x80, x81, x82, x83, x84, x85, x86, x87, x88, x89, x90, rfl, h.same 1 _ (.con (.pointer (some ⟨p, 0, none⟩))) (by rw [HV.out]; rfl) rfl⟩
          · obtain rfl : x56 = .pointer (some ⟨p, 0, none⟩) := h.get 1 (hw _ rfl ⟨1, .data⟩ (by simp) rfl) (.con (.pointer (some ⟨p, 0, none⟩))) (by rw [HV.out]; rfl) _ rfl
            refine wpOp_step rfl fun K hK => ?_
            go_simp
            exact hK _ _ ⟨x55, _, _, x58, x59, x60, x61, x62, x63, x64, x65, x66, x67, x68, x69, x70, x71, x72, x73, x74, x75, x76, x77, x78, x79, x80, x81, x82, x83, x84, x85, x86, x87, x88, x89, x90, rfl, h.same 2 _ (.con (.pointer (some ⟨p, 1, none⟩))) (by rw [HV.out]; rfl) rfl⟩
          · obtain rfl : x57 = .pointer (some ⟨p, 1, none⟩) := h.get 2 (hw _ rfl ⟨2, .data⟩ (by simp) rfl) (.con (.pointer (some ⟨p, 1, none⟩))) (by rw [HV.out]; rfl) _ rfl
            obtain ⟨v0, v1, g0, g1, e0, e1, e2⟩ := HC.out w' h.1
            refine wpOp_step rfl fun K hK => ?_
            go_simp
            exact hK _ _ ⟨x55, x56, _, _, x59, x60, x61, x62, x63, x64, x65, x66, x67, x68, x69, x70, x71, x72, x73, x74, x75, x76, x77, x78, x79, x80, x81, x82, x83, x84, x85, x86, x87, x88, x89, x90, rfl, h.same 3 _ (.con (.slice (some ⟨b, off, none⟩) l.length c)) (by rw [HV.out]; rfl) rfl⟩
          · refine wpOp_step rfl fun K hK => ?_
            go_simp
            exact hK _ _ ⟨x55, x56, x57, x58, _, x60, x61, x62, x63, x64, x65, x66, x67, x68, x69, x70, x71, x72, x73, x74, x75, x76, x77, x78, x79, x80, x81, x82, x83, x84, x85, x86, x87, x88, x89, x90, rfl, h.same 4 _ (.con (.int .i64 (k : Int))) (by rw [HV.out]; rfl) rfl⟩
          · obtain rfl : x58 = .slice (some ⟨b, off, none⟩) l.length c := h.get 3 (hw _ rfl ⟨3, .data⟩ (by simp) rfl) (.con (.slice (some ⟨b, off, none⟩) l.length c)) (by rw [HV.out]; rfl) _ rfl
            obtain rfl : x59 = .int .i64 (k : Int) := h.get 4 (hw _ rfl ⟨4, .data⟩ (by simp) rfl) (.con (.int .i64 (k : Int))) (by rw [HV.out]; rfl) _ rfl
            obtain ⟨v0, v1, g0, g1, e0, e1, e2⟩ := HC.out w' h.1
            refine wpOp_step rfl fun K hK => ?_
            go_simp
            exact hK _ _ ⟨x55, x56, x57, _, _, _, x61, x62, x63, x64, x65, x66, x67, x68, x69, x70, x71, x72, x73, x74, x75, x76, x77, x78, x79, x80, x81, x82, x83, x84, x85, x86, x87, x88, x89, x90, rfl, h.same 5 _ (.con (.pointer (some ⟨b, off + k * 3, none⟩))) (by rw [HV.out]; rfl) rfl⟩
          · obtain rfl : x60 = .pointer (some ⟨b, off + k * 3, none⟩) := h.get 5 (hw _ rfl ⟨5, .data⟩ (by simp) rfl) (.con (.pointer (some ⟨b, off + k * 3, none⟩))) (by rw [HV.out]; rfl) _ rfl
            refine wpOp_step rfl fun K hK => ?_
            go_simp
            exact hK _ _ ⟨x55, x56, x57, x58, x59, _, _, x62, x63, x64, x65, x66, x67, x68, x69, x70, x71, x72, x73, x74, x75, x76, x77, x78, x79, x80, x81, x82, x83, x84, x85, x86, x87, x88, x89, x90, rfl, h.same 6 _ (.con (.pointer (some ⟨b, off + k * 3, none⟩))) (by rw [HV.out]; rfl) rfl⟩
          · obtain rfl : x61 = .pointer (some ⟨b, off + k * 3, none⟩) := h.get 6 (hw _ rfl ⟨6, .data⟩ (by simp) rfl) (.con (.pointer (some ⟨b, off + k * 3, none⟩))) (by rw [HV.out]; rfl) _ rfl
            obtain ⟨v0, v1, g0, g1, e0, e1, e2⟩ := HC.out w' h.1
            refine wpOp_step rfl fun K hK => ?_
            go_simp
            exact hK _ _ ⟨x55, x56, x57, x58, x59, x60, _, _, x63, x64, x65, x66, x67, x68, x69, x70, x71, x72, x73, x74, x75, x76, x77, x78, x79, x80, x81, x82, x83, x84, x85, x86, x87, x88, x89, x90, rfl, h.same 7 _ (.con (.string x0)) (by rw [HV.out]; rfl) rfl⟩
          · refine wpOp_step rfl fun K hK => ?_
            go_simp
            exact hK _ _ ⟨x55, x56, x57, x58, x59, x60, x61, x62, _, x64, x65, x66, x67, x68, x69, x70, x71, x72, x73, x74, x75, x76, x77, x78, x79, x80, x81, x82, x83, x84, x85, x86, x87, x88, x89, x90, rfl, h.same 8 _ (.con (.pointer (some ⟨w.heap.size + 1, 0, none⟩))) (by rw [HV.out]; rfl) rfl⟩
          · obtain rfl : x63 = .pointer (some ⟨w.heap.size + 1, 0, none⟩) := h.get 8 (hw _ rfl ⟨8, .data⟩ (by simp) rfl) (.con (.pointer (some ⟨w.heap.size + 1, 0, none⟩))) (by rw [HV.out]; rfl) _ rfl
            obtain ⟨v0, v1, g0, g1, e0, e1, e2⟩ := HC.out w' h.1
            refine wpOp_step rfl fun K hK => ?_
            go_simp
            exact hK _ _ ⟨x55, x56, x57, x58, x59, x60, x61, x62, _, _, x65, x66, x67, x68, x69, x70, x71, x72, x73, x74, x75, x76, x77, x78, x79, x80, x81, x82, x83, x84, x85, x86, x87, x88, x89, x90, rfl, h.same 9 _ (.con (.string si)) (by rw [HV.out]; rfl) rfl⟩
          · obtain rfl : x62 = .string x0 := h.get 7 (hw _ rfl ⟨7, .data⟩ (by simp) rfl) (.con (.string x0)) (by rw [HV.out]; rfl) _ rfl
            obtain rfl : x64 = .string si := h.get 9 (hw _ rfl ⟨9, .data⟩ (by simp) rfl) (.con (.string si)) (by rw [HV.out]; rfl) _ rfl
            refine wpOp_step rfl fun K hK => ?_
            go_simp
            exact hK _ _ ⟨x55, x56, x57, x58, x59, x60, x61, _, x63, _, _, x66, x67, x68, x69, x70, x71, x72, x73, x74, x75, x76, x77, x78, x79, x80, x81, x82, x83, x84, x85, x86, x87, x88, x89, x90, rfl, h.same 10 _ (.con (.bool true)) (by rw [HV.out]; rfl) rfl⟩
          · obtain rfl : x65 = .bool true := h.get 10 (hw _ rfl ⟨10, .data⟩ (by simp) rfl) (.con (.bool true)) (by rw [HV.out]; rfl) _ rfl
            refine wpOp_step rfl fun K hK => ?_
            go_simp
            exact hK _ _ ⟨x55, x56, x57, x58, x59, x60, x61, x62, x63, x64, _, _, x67, x68, x69, x70, x71, x72, x73, x74, x75, x76, x77, x78, x79, x80, x81, x82, x83, x84, x85, x86, x87, x88, x89, x90, rfl, h.same 11 _ (.con (.bool true)) (by rw [HV.out]; rfl) rfl⟩
          · obtain rfl : x66 = .bool true := h.get 11 (hw _ rfl ⟨11, .guard⟩ (by simp) rfl) (.con (.bool true)) (by rw [HV.out]; rfl) _ rfl
            refine wpOp_step rfl fun K hK => ?_
            go_simp
            exact hK _ _ ⟨x55, x56, x57, x58, x59, x60, x61, x62, x63, x64, x65, _, _, x68, x69, x70, x71, x72, x73, x74, x75, x76, x77, x78, x79, x80, x81, x82, x83, x84, x85, x86, x87, x88, x89, x90, rfl, h.same 12 _ (.con (.pointer (some ⟨p, 0, none⟩))) (by rw [HV.out]; rfl) rfl⟩
          · obtain rfl : x66 = .bool true := h.get 11 (hw _ rfl ⟨11, .guard⟩ (by simp) rfl) (.con (.bool true)) (by rw [HV.out]; rfl) _ rfl
            obtain rfl : x67 = .pointer (some ⟨p, 0, none⟩) := h.get 12 (hw _ rfl ⟨12, .data⟩ (by simp) rfl) (.con (.pointer (some ⟨p, 0, none⟩))) (by rw [HV.out]; rfl) _ rfl
            refine wpOp_step rfl fun K hK => ?_
            go_simp
            exact hK _ _ ⟨x55, x56, x57, x58, x59, x60, x61, x62, x63, x64, x65, _, _, _, x69, x70, x71, x72, x73, x74, x75, x76, x77, x78, x79, x80, x81, x82, x83, x84, x85, x86, x87, x88, x89, x90, rfl, h.same 13 _ (.con (.pointer (some ⟨p, 0, none⟩))) (by rw [HV.out]; rfl) rfl⟩
          · obtain rfl : x66 = .bool true := h.get 11 (hw _ rfl ⟨11, .guard⟩ (by simp) rfl) (.con (.bool true)) (by rw [HV.out]; rfl) _ rfl
            obtain rfl : x68 = .pointer (some ⟨p, 0, none⟩) := h.get 13 (hw _ rfl ⟨13, .data⟩ (by simp) rfl) (.con (.pointer (some ⟨p, 0, none⟩))) (by rw [HV.out]; rfl) _ rfl
            refine wpOp_step rfl fun K hK => ?_
            go_simp
            exact hK _ _ ⟨x55, x56, x57, x58, x59, x60, x61, x62, x63, x64, x65, _, x67, _, _, x70, x71, x72, x73, x74, x75, x76, x77, x78, x79, x80, x81, x82, x83, x84, x85, x86, x87, x88, x89, x90, rfl, h.same 14 _ (.con (.pointer (some ⟨p, 1, none⟩))) (by rw [HV.out]; rfl) rfl⟩
          · obtain rfl : x66 = .bool true := h.get 11 (hw _ rfl ⟨11, .guard⟩ (by simp) rfl) (.con (.bool true)) (by rw [HV.out]; rfl) _ rfl
            obtain rfl : x69 = .pointer (some ⟨p, 1, none⟩) := h.get 14 (hw _ rfl ⟨14, .data⟩ (by simp) rfl) (.con (.pointer (some ⟨p, 1, none⟩))) (by rw [HV.out]; rfl) _ rfl
            obtain ⟨v0, v1, g0, g1, e0, e1, e2⟩ := HC.out w' h.1
            refine wpOp_step rfl fun K hK => ?_
            go_simp
            exact hK _ _ ⟨x55, x56, x57, x58, x59, x60, x61, x62, x63, x64, x65, _, x67, x68, _, _, x71, x72, x73, x74, x75, x76, x77, x78, x79, x80, x81, x82, x83, x84, x85, x86, x87, x88, x89, x90, rfl, h.same 15 _ (.con (.slice (some ⟨b, off, none⟩) l.length c)) (by rw [HV.out]; rfl) rfl⟩
          · obtain rfl : x66 = .bool true := h.get 11 (hw _ rfl ⟨11, .guard⟩ (by simp) rfl) (.con (.bool true)) (by rw [HV.out]; rfl) _ rfl
            refine wpOp_step rfl fun K hK => ?_
            go_simp
            exact hK _ _ ⟨x55, x56, x57, x58, x59, x60, x61, x62, x63, x64, x65, _, x67, x68, x69, x70, _, x72, x73, x74, x75, x76, x77, x78, x79, x80, x81, x82, x83, x84, x85, x86, x87, x88, x89, x90, rfl, h.same 16 _ (.con (.int .i64 (k : Int))) (by rw [HV.out]; rfl) rfl⟩
          · obtain rfl : x66 = .bool true := h.get 11 (hw _ rfl ⟨11, .guard⟩ (by simp) rfl) (.con (.bool true)) (by rw [HV.out]; rfl) _ rfl
            obtain rfl : x70 = .slice (some ⟨b, off, none⟩) l.length c := h.get 15 (hw _ rfl ⟨15, .data⟩ (by simp) rfl) (.con (.slice (some ⟨b, off, none⟩) l.length c)) (by rw [HV.out]; rfl) _ rfl
            obtain rfl : x71 = .int .i64 (k : Int) := h.get 16 (hw _ rfl ⟨16, .data⟩ (by simp) rfl) (.con (.int .i64 (k : Int))) (by rw [HV.out]; rfl) _ rfl
            obtain ⟨v0, v1, g0, g1, e0, e1, e2⟩ := HC.out w' h.1
            refine wpOp_step rfl fun K hK => ?_
            go_simp
            exact hK _ _ ⟨x55, x56, x57, x58, x59, x60, x61, x62, x63, x64, x65, _, x67, x68, x69, _, _, _, x73, x74, x75, x76, x77, x78, x79, x80, x81, x82, x83, x84, x85, x86, x87, x88, x89, x90, rfl, h.same 17 _ (.con (.pointer (some ⟨b, off + k * 3, none⟩))) (by rw [HV.out]; rfl) rfl⟩
          · obtain rfl : x66 = .bool true := h.get 11 (hw _ rfl ⟨11, .guard⟩ (by simp) rfl) (.con (.bool true)) (by rw [HV.out]; rfl) _ rfl
            obtain rfl : x72 = .pointer (some ⟨b, off + k * 3, none⟩) := h.get 17 (hw _ rfl ⟨17, .data⟩ (by simp) rfl) (.con (.pointer (some ⟨b, off + k * 3, none⟩))) (by rw [HV.out]; rfl) _ rfl
            refine wpOp_step rfl fun K hK => ?_
            go_simp
            exact hK _ _ ⟨x55, x56, x57, x58, x59, x60, x61, x62, x63, x64, x65, _, x67, x68, x69, x70, x71, _, _, x74, x75, x76, x77, x78, x79, x80, x81, x82, x83, x84, x85, x86, x87, x88, x89, x90, rfl, h.same 18 _ (.con (.pointer (some ⟨b, off + k * 3 + 1, none⟩))) (by rw [HV.out]; rfl) rfl⟩
          · obtain rfl : x66 = .bool true := h.get 11 (hw _ rfl ⟨11, .guard⟩ (by simp) rfl) (.con (.bool true)) (by rw [HV.out]; rfl) _ rfl
            obtain rfl : x73 = .pointer (some ⟨b, off + k * 3 + 1, none⟩) := h.get 18 (hw _ rfl ⟨18, .data⟩ (by simp) rfl) (.con (.pointer (some ⟨b, off + k * 3 + 1, none⟩))) (by rw [HV.out]; rfl) _ rfl
            obtain ⟨v0, v1, g0, g1, e0, e1, e2⟩ := HC.out w' h.1
            refine wpOp_step rfl fun K hK => ?_
            go_simp
            exact hK _ _ ⟨x55, x56, x57, x58, x59, x60, x61, x62, x63, x64, x65, _, x67, x68, x69, x70, x71, x72, _, _, x75, x76, x77, x78, x79, x80, x81, x82, x83, x84, x85, x86, x87, x88, x89, x90, rfl, h.same 19 _ (.con (.string x1)) (by rw [HV.out]; rfl) rfl⟩
          · obtain rfl : x66 = .bool true := h.get 11 (hw _ rfl ⟨11, .guard⟩ (by simp) rfl) (.con (.bool true)) (by rw [HV.out]; rfl) _ rfl
            refine wpOp_step rfl fun K hK => ?_
            go_simp
            exact hK _ _ ⟨x55, x56, x57, x58, x59, x60, x61, x62, x63, x64, x65, _, x67, x68, x69, x70, x71, x72, x73, x74, _, x76, x77, x78, x79, x80, x81, x82, x83, x84, x85, x86, x87, x88, x89, x90, rfl, h.same 20 _ (.con (.pointer (some ⟨w.heap.size + 1, 1, none⟩))) (by rw [HV.out]; rfl) rfl⟩
          · obtain rfl : x66 = .bool true := h.get 11 (hw _ rfl ⟨11, .guard⟩ (by simp) rfl) (.con (.bool true)) (by rw [HV.out]; rfl) _ rfl
            obtain rfl : x75 = .pointer (some ⟨w.heap.size + 1, 1, none⟩) := h.get 20 (hw _ rfl ⟨20, .data⟩ (by simp) rfl) (.con (.pointer (some ⟨w.heap.size + 1, 1, none⟩))) (by rw [HV.out]; rfl) _ rfl
            obtain ⟨v0, v1, g0, g1, e0, e1, e2⟩ := HC.out w' h.1
            refine wpOp_step rfl fun K hK => ?_
            go_simp
            exact hK _ _ ⟨x55, x56, x57, x58, x59, x60, x61, x62, x63, x64, x65, _, x67, x68, x69, x70, x71, x72, x73, x74, _, _, x77, x78, x79, x80, x81, x82, x83, x84, x85, x86, x87, x88, x89, x90, rfl, h.same 21 _ (.con (.string sg)) (by rw [HV.out]; rfl) rfl⟩
          · obtain rfl : x66 = .bool true := h.get 11 (hw _ rfl ⟨11, .guard⟩ (by simp) rfl) (.con (.bool true)) (by rw [HV.out]; rfl) _ rfl
            obtain rfl : x74 = .string x1 := h.get 19 (hw _ rfl ⟨19, .data⟩ (by simp) rfl) (.con (.string x1)) (by rw [HV.out]; rfl) _ rfl
            obtain rfl : x76 = .string sg := h.get 21 (hw _ rfl ⟨21, .data⟩ (by simp) rfl) (.con (.string sg)) (by rw [HV.out]; rfl) _ rfl
            refine wpOp_step rfl fun K hK => ?_
            go_simp
            exact hK _ _ ⟨x55, x56, x57, x58, x59, x60, x61, x62, x63, x64, x65, _, x67, x68, x69, x70, x71, x72, x73, _, x75, _, _, x78, x79, x80, x81, x82, x83, x84, x85, x86, x87, x88, x89, x90, rfl, h.same 22 _ (.con (.bool true)) (by rw [HV.out]; rfl) rfl⟩
          · obtain rfl : x66 = .bool true := h.get 11 (hw _ rfl ⟨11, .data⟩ (by simp) rfl) (.con (.bool true)) (by rw [HV.out]; rfl) _ rfl
            obtain rfl : x77 = .bool true := h.get 22 (hw _ rfl ⟨22, .data⟩ (by simp) rfl) (.con (.bool true)) (by rw [HV.out]; rfl) _ rfl
            refine wpOp_step rfl fun K hK => ?_
            go_simp
            exact hK _ _ ⟨x55, x56, x57, x58, x59, x60, x61, x62, x63, x64, x65, _, x67, x68, x69, x70, x71, x72, x73, x74, x75, x76, _, _, x79, x80, x81, x82, x83, x84, x85, x86, x87, x88, x89, x90, rfl, h.same 23 _ (.con (.bool true)) (by rw [HV.out]; rfl) rfl⟩
          · obtain rfl : x78 = .bool true := h.get 23 (hw _ rfl ⟨23, .data⟩ (by simp) rfl) (.con (.bool true)) (by rw [HV.out]; rfl) _ rfl
            refine wpOp_step rfl fun K hK => ?_
            go_simp
            exact hK _ _ ⟨x55, x56, x57, x58, x59, x60, x61, x62, x63, x64, x65, x66, x67, x68, x69, x70, x71, x72, x73, x74, x75, x76, x77, _, _, x80, x81, x82, x83, x84, x85, x86, x87, x88, x89, x90, rfl, h.same 24 _ (.con (.bool true)) (by rw [HV.out]; rfl) rfl⟩
          · obtain rfl : x79 = .bool true := h.get 24 (hw _ rfl ⟨24, .guard⟩ (by simp) rfl) (.con (.bool true)) (by rw [HV.out]; rfl) _ rfl
            refine wpOp_step rfl fun K hK => ?_
            go_simp
            exact hK _ _ ⟨x55, x56, x57, x58, x59, x60, x61, x62, x63, x64, x65, x66, x67, x68, x69, x70, x71, x72, x73, x74, x75, x76, x77, x78, _, _, x81, x82, x83, x84, x85, x86, x87, x88, x89, x90, rfl, h.same 25 _ (.con (.pointer (some ⟨p, 0, none⟩))) (by rw [HV.out]; rfl) rfl⟩
          · obtain rfl : x79 = .bool true := h.get 24 (hw _ rfl ⟨24, .guard⟩ (by simp) rfl) (.con (.bool true)) (by rw [HV.out]; rfl) _ rfl
            obtain rfl : x80 = .pointer (some ⟨p, 0, none⟩) := h.get 25 (hw _ rfl ⟨25, .data⟩ (by simp) rfl) (.con (.pointer (some ⟨p, 0, none⟩))) (by rw [HV.out]; rfl) _ rfl
            refine wpOp_step rfl fun K hK => ?_
            go_simp
            exact hK _ _ ⟨x55, x56, x57, x58, x59, x60, x61, x62, x63, x64, x65, x66, x67, x68, x69, x70, x71, x72, x73, x74, x75, x76, x77, x78, _, _, _, x82, x83, x84, x85, x86, x87, x88, x89, x90, rfl, h.same 26 _ (.con (.pointer (some ⟨p, 0, none⟩))) (by rw [HV.out]; rfl) rfl⟩
          · obtain rfl : x79 = .bool true := h.get 24 (hw _ rfl ⟨24, .guard⟩ (by simp) rfl) (.con (.bool true)) (by rw [HV.out]; rfl) _ rfl
            obtain rfl : x81 = .pointer (some ⟨p, 0, none⟩) := h.get 26 (hw _ rfl ⟨26, .data⟩ (by simp) rfl) (.con (.pointer (some ⟨p, 0, none⟩))) (by rw [HV.out]; rfl) _ rfl
            refine wpOp_step rfl fun K hK => ?_
            go_simp
            exact hK _ _ ⟨x55, x56, x57, x58, x59, x60, x61, x62, x63, x64, x65, x66, x67, x68, x69, x70, x71, x72, x73, x74, x75, x76, x77, x78, _, x80, _, _, x83, x84, x85, x86, x87, x88, x89, x90, rfl, h.same 27 _ (.con (.pointer (some ⟨p, 1, none⟩))) (by rw [HV.out]; rfl) rfl⟩
          · obtain rfl : x79 = .bool true := h.get 24 (hw _ rfl ⟨24, .guard⟩ (by simp) rfl) (.con (.bool true)) (by rw [HV.out]; rfl) _ rfl
            obtain rfl : x82 = .pointer (some ⟨p, 1, none⟩) := h.get 27 (hw _ rfl ⟨27, .data⟩ (by simp) rfl) (.con (.pointer (some ⟨p, 1, none⟩))) (by rw [HV.out]; rfl) _ rfl
            obtain ⟨v0, v1, g0, g1, e0, e1, e2⟩ := HC.out w' h.1
            refine wpOp_step rfl fun K hK => ?_
            go_simp
            exact hK _ _ ⟨x55, x56, x57, x58, x59, x60, x61, x62, x63, x64, x65, x66, x67, x68, x69, x70, x71, x72, x73, x74, x75, x76, x77, x78, _, x80, x81, _, _, x84, x85, x86, x87, x88, x89, x90, rfl, h.same 28 _ (.con (.slice (some ⟨b, off, none⟩) l.length c)) (by rw [HV.out]; rfl) rfl⟩
          · obtain rfl : x79 = .bool true := h.get 24 (hw _ rfl ⟨24, .guard⟩ (by simp) rfl) (.con (.bool true)) (by rw [HV.out]; rfl) _ rfl
            refine wpOp_step rfl fun K hK => ?_
            go_simp
            exact hK _ _ ⟨x55, x56, x57, x58, x59, x60, x61, x62, x63, x64, x65, x66, x67, x68, x69, x70, x71, x72, x73, x74, x75, x76, x77, x78, _, x80, x81, x82, x83, _, x85, x86, x87, x88, x89, x90, rfl, h.same 29 _ (.con (.int .i64 (k : Int))) (by rw [HV.out]; rfl) rfl⟩
          · obtain rfl : x79 = .bool true := h.get 24 (hw _ rfl ⟨24, .guard⟩ (by simp) rfl) (.con (.bool true)) (by rw [HV.out]; rfl) _ rfl
            obtain rfl : x83 = .slice (some ⟨b, off, none⟩) l.length c := h.get 28 (hw _ rfl ⟨28, .data⟩ (by simp) rfl) (.con (.slice (some ⟨b, off, none⟩) l.length c)) (by rw [HV.out]; rfl) _ rfl
            obtain rfl : x84 = .int .i64 (k : Int) := h.get 29 (hw _ rfl ⟨29, .data⟩ (by simp) rfl) (.con (.int .i64 (k : Int))) (by rw [HV.out]; rfl) _ rfl
            obtain ⟨v0, v1, g0, g1, e0, e1, e2⟩ := HC.out w' h.1
            refine wpOp_step rfl fun K hK => ?_
            go_simp
            exact hK _ _ ⟨x55, x56, x57, x58, x59, x60, x61, x62, x63, x64, x65, x66, x67, x68, x69, x70, x71, x72, x73, x74, x75, x76, x77, x78, _, x80, x81, x82, _, _, _, x86, x87, x88, x89, x90, rfl, h.same 30 _ (.con (.pointer (some ⟨b, off + k * 3, none⟩))) (by rw [HV.out]; rfl) rfl⟩
          · obtain rfl : x79 = .bool true := h.get 24 (hw _ rfl ⟨24, .guard⟩ (by simp) rfl) (.con (.bool true)) (by rw [HV.out]; rfl) _ rfl
            obtain rfl : x85 = .pointer (some ⟨b, off + k * 3, none⟩) := h.get 30 (hw _ rfl ⟨30, .data⟩ (by simp) rfl) (.con (.pointer (some ⟨b, off + k * 3, none⟩))) (by rw [HV.out]; rfl) _ rfl
            refine wpOp_step rfl fun K hK => ?_
            go_simp
            exact hK _ _ ⟨x55, x56, x57, x58, x59, x60, x61, x62, x63, x64, x65, x66, x67, x68, x69, x70, x71, x72, x73, x74, x75, x76, x77, x78, _, x80, x81, x82, x83, x84, _, _, x87, x88, x89, x90, rfl, h.same 31 _ (.con (.pointer (some ⟨b, off + k * 3 + 2, none⟩))) (by rw [HV.out]; rfl) rfl⟩
          · obtain rfl : x79 = .bool true := h.get 24 (hw _ rfl ⟨24, .guard⟩ (by simp) rfl) (.con (.bool true)) (by rw [HV.out]; rfl) _ rfl
            obtain rfl : x86 = .pointer (some ⟨b, off + k * 3 + 2, none⟩) := h.get 31 (hw _ rfl ⟨31, .data⟩ (by simp) rfl) (.con (.pointer (some ⟨b, off + k * 3 + 2, none⟩))) (by rw [HV.out]; rfl) _ rfl
            obtain ⟨v0, v1, g0, g1, e0, e1, e2⟩ := HC.out w' h.1
            refine wpOp_step rfl fun K hK => ?_
            go_simp
            exact hK _ _ ⟨x55, x56, x57, x58, x59, x60, x61, x62, x63, x64, x65, x66, x67, x68, x69, x70, x71, x72, x73, x74, x75, x76, x77, x78, _, x80, x81, x82, x83, x84, x85, _, _, x88, x89, x90, rfl, h.same 32 _ (.con (.string x2)) (by rw [HV.out]; rfl) rfl⟩
          · obtain rfl : x79 = .bool true := h.get 24 (hw _ rfl ⟨24, .guard⟩ (by simp) rfl) (.con (.bool true)) (by rw [HV.out]; rfl) _ rfl
            refine wpOp_step rfl fun K hK => ?_
            go_simp
            exact hK _ _ ⟨x55, x56, x57, x58, x59, x60, x61, x62, x63, x64, x65, x66, x67, x68, x69, x70, x71, x72, x73, x74, x75, x76, x77, x78, _, x80, x81, x82, x83, x84, x85, x86, x87, _, x89, x90, rfl, h.same 33 _ (.con (.string m)) (by rw [HV.out]; rfl) rfl⟩
          · obtain rfl : x79 = .bool true := h.get 24 (hw _ rfl ⟨24, .chain⟩ (by simp) rfl) (.con (.bool true)) (by rw [HV.out]; rfl) _ rfl
            obtain rfl : x88 = .string m := h.get 33 (hw _ rfl ⟨33, .data⟩ (by simp) rfl) (.con (.string m)) (by rw [HV.out]; rfl) _ rfl
            obtain ⟨v0, v1, g0, g1, e0, e1, e2⟩ := HC.out w' h.1
            refine wpOp_step rfl fun K hK => ?_
            go_simp
            refine (HDG.out w').mono ?_
            rintro e w2 ⟨rfl, hb2⟩
            exact hK _ _ ⟨x55, x56, x57, x58, x59, x60, x61, x62, x63, x64, x65, x66, x67, x68, x69, x70, x71, x72, x73, x74, x75, x76, x77, x78, _, x80, x81, x82, x83, x84, x85, x86, x87, _, _, x90, rfl, h.did hb2 34 _ (.con (.string D)) (by rw [HV.out]; rfl) rfl⟩
          · obtain rfl : x79 = .bool true := h.get 24 (hw _ rfl ⟨24, .guard⟩ (by simp) rfl) (.con (.bool true)) (by rw [HV.out]; rfl) _ rfl
            obtain rfl : x87 = .string x2 := h.get 32 (hw _ rfl ⟨32, .data⟩ (by simp) rfl) (.con (.string x2)) (by rw [HV.out]; rfl) _ rfl
            obtain rfl : x89 = .string D := h.get 34 (hw _ rfl ⟨34, .data⟩ (by simp) rfl) (.con (.string D)) (by rw [HV.out]; rfl) _ rfl
            refine wpOp_step rfl fun K hK => ?_
            go_simp
            exact hK _ _ ⟨x55, x56, x57, x58, x59, x60, x61, x62, x63, x64, x65, x66, x67, x68, x69, x70, x71, x72, x73, x74, x75, x76, x77, x78, _, x80, x81, x82, x83, x84, x85, x86, _, x88, _, _, rfl, h.same 35 _ (.con (.bool true)) (by rw [HV.out]; rfl) rfl⟩
          · omega
        case last =>
          rintro d a' w' hall ⟨x55, x56, x57, x58, x59, x60, x61, x62, x63, x64, x65, x66, x67, x68, x69, x70, x71, x72, x73, x74, x75, x76, x77, x78, x79, x80, x81, x82, x83, x84, x85, x86, x87, x88, x89, x90, rfl, h⟩
          have hle := h.1
          obtain rfl : x79 = .bool true := h.get 24 (hall _ (by omega)) (.con (.bool true)) (by rw [HV.out]; rfl) _ rfl
          obtain rfl : x90 = .bool true := h.get 35 (hall _ (by omega)) (.con (.bool true)) (by rw [HV.out]; rfl) _ rfl
          have HLE := Lib.hid hle
          clear h hall hle HV
          go_wp2
          go_ret
          exact ⟨ret_bool (by rw [HGD2.out, HANY.out]), HBX.out _ HLE.out⟩
      · have hke : k = l.length := by omega
        have m1 : ¬ ((k : Int) < (l.length : Int)) := by omega
        have HANY := Lib.hid (show (l.any fun v => decide (v.1 = si ∧ v.2.1 = sg ∧ v.2.2 = D)) = false from by
          rw [List.any_eq_false]
          intro v hv
          obtain ⟨j, hj, rfl⟩ := List.getElem_of_mem hv
          simpa using HNO.out j (by omega) hj)
        clear hke hlt hk
        go_wp2
        go_ret
        exact ⟨ret_bool (by rw [HGD2.out, HANY.out]), HBX.out _ (Below.refl _ _)⟩

/-- A verifier of the reference as it lies in memory. -/
def RVer (w : World) (x : Value) : Ver → Prop
  | .mac => ∃ p, x = .pointer (some ⟨p, 0, none⟩) ∧ w.heap[p]? = some (.cells #[.bool true, .slice none 0 0] 87 (0, 0))
  | .tab l => ∃ p a c, x = .pointer (some ⟨p, 0, none⟩) ∧ w.heap[p]? = some (.cells #[.bool false, .slice a l.length c] 87 (0, 0)) ∧ l.length ≤ 60 ∧ TrisAt w 0 w.heap.size a l
theorem RVer.below {w w' : World} {x : Value} {v : Ver} (h : RVer w x v) (hb : Below w.heap.size w w') : RVer w' x v := by
  cases v with
  | mac => obtain ⟨p, h1, h2⟩ := h; exact ⟨p, h1, by rw [hb.block _ (heap_lt h2)]; exact h2⟩
  | tab l => obtain ⟨p, a, c, h1, h2, h3, h4⟩ := h; exact ⟨p, a, c, h1, by rw [hb.block _ (heap_lt h2)]; exact h2, h3, h4.below hb (Nat.le_refl _) (Nat.le_refl _) hb.size⟩
theorem ref17Good (v : Ver) (x : Value) (k : Key2) (s : Sig2) (m : ByteArray) (w : World) (hV : RVer w x v) (h1 : k.1.size ≤ 300) (h2 : k.2.size ≤ 300) (h3 : s.2.size ≤ 9223372036854775807) (hm : m.size ≤ 1099511620000) :
    Calls Tryz.prog 17 #[x, .agg #[.string k.1, .string k.2], .agg #[.string s.1, .string s.2], .string m] w fun e w' => e = .returned (.bool (v.good k s m.data.toList)) ∧ Below w.heap.size w w' := by
  cases v with
  | mac => obtain ⟨p, rfl, hp⟩ := hV; exact ref17Good_mac p k s m w hp h1 h2 h3 hm
  | tab l => obtain ⟨p, a, c, rfl, hp, hl, hR⟩ := hV; exact ref17Good_tab l a c p k s m w hp h1 h2 h3 hm hl hR

set_option maxHeartbeats 1000000 in
set_option maxRecDepth 100000 in
theorem ref17Make (k : Key2) (m : ByteArray) (w : World) (h1 : k.1.size ≤ 300) (h2 : k.2.size ≤ 300) (hm : m.size ≤ 1099511620000) :
    Calls Tryz.prog 19 #[.agg #[.string k.1, .string k.2], .string m] w fun e w' => e = .returned (.tuple #[.agg #[.string (makeS k m.data.toList).1, .string (makeS k m.data.toList).2], .int .i64 (makeE k)]) ∧ Below w.heap.size w w' := by
  have HKI := Lib.hid (fun w => refId2 k w h1 h2)
  have HSU := Lib.hid (fun (w : World) (hk : ok2 k = true) => ref17Sum k m w (ok2_parts hk) hm)
  obtain ⟨ks, kp⟩ := k
  obtain ⟨W, hW⟩ : ∃ W, W = (w.alloc (.cells #[.string ks, .string kp] 24)).alloc (.cells #[.string { data := #[] }, .string { data := #[] }] 26) := ⟨_, rfl⟩
  have HBW := Lib.hid (show Below w.heap.size w W by rw [hW]; exact below_n2 w _ _)
  have HX0 := Lib.hid (show W.heap[w.heap.size]? = some (.cells #[.string ks, .string kp] 24 (0, 0)) by rw [hW, Below.heap_alloc _ _ _ (by simp)]; exact heap_alloc_new w _)
  have HX1 := Lib.hid (show W.rowIs (w.heap.size + 1) 26 2 (pick2 (.string { data := #[] }) (.string { data := #[] })) by
    have := rowIs_box2 (w.alloc (.cells #[.string ks, .string kp] 24)) (.string { data := #[] }) (.string { data := #[] }) 26
    rw [show (w.alloc (.cells #[.string ks, .string kp] 24)).heap.size = w.heap.size + 1 by simp] at this
    rw [hW]; exact this)
  have HW := Lib.hid hW
  obtain ⟨ID, hID⟩ : ∃ ID, ID = id2 (ks, kp) := ⟨_, rfl⟩
  obtain ⟨ok, hok⟩ : ∃ ok, ok = ok2 (ks, kp) := ⟨_, rfl⟩
  rw [← hID, ← hok] at HKI
  have HID := Lib.hid hID
  have HOK := Lib.hid hok
  obtain ⟨R, hR⟩ : ∃ R : ByteArray, R = ⟨(macHex kp.data.toList m.data.toList).toArray⟩ := ⟨_, rfl⟩
  have HRR := Lib.hid hR
  replace HSU := Lib.hid (show ∀ (w : World) (hk : ok2 (ks, kp) = true), Calls Tryz.prog 43 #[.agg #[.string ks, .string kp], .string m] w fun e w' => e = .returned (.string R) ∧ Below w.heap.size w w' from by rw [hR]; exact HSU.out)
  clear hW hID hok hR
  go_enter Tryz.func19, Tryz.ntmps19
  go_wp2_with fail
  rw [← HW.out]
  refine (HKI.out W).mono ?_
  rintro e w1 ⟨rfl, hb1⟩
  have HB1 := Lib.hid (HBW.out.trans (hb1.mono HBW.out.size))
  have hx0 := hb1.block _ (heap_lt HX0.out)
  rw [HX0.out] at hx0
  have hrow := below_row hb1 HX1.out HX1.out.lt
  have HR := Lib.hid hrow
  have k0 : w1.cell? ⟨w.heap.size, 0, none⟩ = some (.string ks) := box_cell hx0 rfl
  have k1 : w1.cell? ⟨w.heap.size, 1, none⟩ = some (.string kp) := box_cell hx0 rfl
  have t0 := hrow.cell (i := 0) (by decide); have t1 := hrow.cell (i := 1) (by decide)
  have s0 := hrow.frozen 0; have s1 := hrow.frozen 1
  simp only [pick2] at t0 t1
  have hz1 : w.heap.size + 1 < w1.heap.size := hrow.lt
  clear hb1 hx0 hrow
  cases ok
  · rw [if_neg (by simp)]
    go_wp2
    refine bodyPost_ret (results_row_tmp Tryz.results19 _ _ (w.heap.size + 1) 26 #[.string { data := #[] }, .string { data := #[] }] (0, 0) _ rfl (row2_heap (set2 _ _ HR.out)) Tryz.underlying26 rfl (by kernel_rfl) _ rfl) rfl ⟨?_, below2 _ _ HB1.out (by omega)⟩
    rw [makeS_no (fun h => by rw [← HOK.out] at h; cases h.1)]
    unfold makeE
    rw [← HOK.out]
    rfl
  rw [if_pos rfl]
  by_cases hsch : ks = schemeH
  · have hsc := scheme_yes hsch
    have HS := Lib.hid hsch
    have HSS := Lib.hid (fun w' => HSU.out w' HOK.out.symm)
    clear hsch HSU
    go_wp2_with fail
    refine (HSS.out w1).mono ?_
    clear HSS k0 k1 t0 t1 s0 s1
    rintro e w2 ⟨rfl, hb2⟩
    have HB2 := Lib.hid (HB1.out.trans (hb2.mono HB1.out.size))
    have hrow := below_row hb2 HR.out HR.out.lt
    have HR2 := Lib.hid hrow
    have t0 := hrow.cell (i := 0) (by decide); have t1 := hrow.cell (i := 1) (by decide)
    have s0 := hrow.frozen 0; have s1 := hrow.frozen 1
    simp only [pick2] at t0 t1
    clear hb2 hrow
    go_wp2
    refine bodyPost_ret (results_row_tmp Tryz.results19 _ _ (w.heap.size + 1) 26 #[.string ID, .string R] (0, 0) _ rfl (row2_heap (set2 _ _ HR2.out)) Tryz.underlying26 rfl (by kernel_rfl) _ rfl) rfl ⟨?_, below2 _ _ HB2.out (by omega)⟩
    rw [makeS_yes ⟨HOK.out.symm, HS.out⟩, HRR.out, ← HID.out]
    unfold makeE
    rw [← HOK.out, if_pos rfl, if_pos HS.out]
    rfl
  · have hsc := scheme_no hsch
    have HS := Lib.hid hsch
    clear hsch
    go_wp2
    refine bodyPost_ret (results_row_tmp Tryz.results19 _ _ (w.heap.size + 1) 26 #[.string { data := #[] }, .string { data := #[] }] (0, 0) _ rfl (row2_heap (set2 _ _ HR.out)) Tryz.underlying26 rfl (by kernel_rfl) _ rfl) rfl ⟨?_, below2 _ _ HB1.out (by omega)⟩
    rw [makeS_no (fun h => HS.out h.2)]
    unfold makeE
    rw [← HOK.out, if_pos rfl, if_neg HS.out]
    rfl

end Go.Proofs.YtaekmmnpdbmoeaaGreatDoor
