/- The contracts of legateref17.sum, of its verifier's Good, and of Make. Printed by genref17.py. -/
import Derived.Test.YtaekmmnpdbmoeaaGreatDoorJh26
import Derived.Test.YtaekmmnpdbmoeaaGreatDoorJk00
import Derived.Test.YtaekmmnpdbmoeaaGreatDoorJk02
import Derived.Test.YtaekmmnpdbmoeaaGreatDoorJh23
import Derived.Test.YtaekmmnpdbmoeaaGreatDoorJh13

namespace Go.Proofs.YtaekmmnpdbmoeaaGreatDoor
open Go.RowKit
theorem vq4 {V l : List MP} (h : Hid (V = l)) {j : Nat} {f : MP} (e : l[j]? = some f) : V[j]? = some f := by rw [h.out]; exact e
end Go.Proofs.YtaekmmnpdbmoeaaGreatDoor

namespace Go.Proofs.YtaekmmnpdbmoeaaGreatDoor
open Go.RowKit

theorem refId2 (k : Key2) (w : World) (h1 : k.1.size ≤ 300) (h2 : k.2.size ≤ 300) :
   Calls Tryz.prog 41 #[.agg #[.string k.1, .string k.2]] w fun e w' => e = .returned (.tuple #[.string (id2 k), .int .i64 (if ok2 k = true then 0 else 3)]) ∧ Below w.heap.size w w' := ref14ID k.1 k.2 w (by omega) (by omega)
theorem below_n1 (w : World) (o : Obj) : Below w.heap.size w (w.alloc o) := (Below.refl _ _).alloc (Nat.le_refl _) _

set_option maxHeartbeats 1000000 in
theorem ref17Sum (k : Key2) (m : ByteArray) (w : World) (hk : pubOk k.2.data.toList = true) (hm : m.size ≤ 1099511620000) :
   Calls Tryz.prog 43 #[.agg #[.string k.1, .string k.2], .string m] w fun e w' => e = .returned (.string ⟨(macHex k.2.data.toList m.data.toList).toArray⟩) ∧ Below w.heap.size w w' := by
 obtain ⟨ks, kp⟩ := k
 have hk : pubOk kp.data.toList = true := hk
 have HPZ := Lib.hid (pub_size hk)
 have HDP := Lib.hid (fun w' => ref01Decode kp w' (by have := pub_size hk; omega))
 rw [(pub_dec hk).1, (pub_dec hk).2] at HDP
 obtain ⟨PB, hPB⟩ : ∃ PB : ByteArray, PB = ⟨(hexDec kp.data.toList).toArray⟩ := ⟨_, rfl⟩
 rw [← hPB] at HDP
 have hPBl : PB.data.toList = hexDec kp.data.toList := by rw [hPB]
 have HPBZ := Lib.hid (show PB.size ≤ 1099511627000 by rw [← toList_length, hPBl, hexDec_length, toList_length]; have := HPZ.out; omega)
 have HMC := Lib.hid (fun w' => ref03Of PB m w' HPBZ.out hm)
 obtain ⟨MC, hMC⟩ : ∃ MC : ByteArray, MC = ⟨(macL PB.data.toList m.data.toList).toArray⟩ := ⟨_, rfl⟩
 rw [← hMC] at HMC
 have hMCl : MC.data.toList = macL (hexDec kp.data.toList) m.data.toList := by rw [hMC, ← hPBl]
 have HEN := Lib.hid (fun w' => ref01Encode MC w' (by rw [← toList_length, hMCl, macL_length]; omega))
 rw [hMCl, show hexEnc (macL (hexDec kp.data.toList) m.data.toList) = macHex kp.data.toList m.data.toList from rfl] at HEN
 obtain ⟨R, hR⟩ : ∃ R : ByteArray, R = ⟨(macHex kp.data.toList m.data.toList).toArray⟩ := ⟨_, rfl⟩
 rw [← hR] at HEN ⊢
 have HB0 := Lib.hid (below_n1 w (.cells #[.string ks, .string kp] 24))
 clear hk hPB hPBl hMC hMCl hR
 go_enter Tryz.func43, Tryz.ntmps43
 go_wp2_with fail
 refine (HDP.out _).mono ?_
 rintro e w1 ⟨rfl, hb1⟩
 have HB1 := Lib.hid (HB0.out.trans (hb1.mono HB0.out.size))
 clear hb1
 go_wp2_with fail
 refine (HMC.out _).mono ?_
 rintro e w2 ⟨rfl, hb2⟩
 have HB2 := Lib.hid (HB1.out.trans (hb2.mono HB1.out.size))
 clear hb2
 go_wp2_with fail
 refine (HEN.out _).mono ?_
 rintro e w3 ⟨rfl, hb3⟩
 have HB3 := Lib.hid (HB2.out.trans (hb3.mono HB2.out.size))
 clear hb3
 go_wp2
 go_ret
 exact ⟨rfl, HB3.out⟩

set_option maxHeartbeats 2000000 in
set_option maxRecDepth 100000 in
theorem ref17Good_mac (p : Nat) (k : Key2) (s : Sig2) (m : ByteArray) (w : World) (hp : w.heap[p]? = some (.cells #[.bool true, .slice none 0 0] 87 (0, 0))) (h1 : k.1.size ≤ 300) (h2 : k.2.size ≤ 300) (h3 : s.2.size ≤ 9223372036854775807) (hm : m.size ≤ 1099511620000) :
   Calls Tryz.prog 17 #[.pointer (some ⟨p, 0, none⟩), .agg #[.string k.1, .string k.2], .agg #[.string s.1, .string s.2], .string m] w fun e w' => e = .returned (.bool (Ver.mac.good k s m.data.toList)) ∧ Below w.heap.size w w' := by
 have HKI := Lib.hid (fun w => refId2 k w h1 h2)
 have HSU := Lib.hid (fun (w : World) (hk : ok2 k = true) => ref17Sum k m w (ok2_parts hk) hm)
 have HHX := Lib.hid (fun w => ref14Hex s.2 w h3)
 have HGD := Lib.hid (good_mac_ref k s m.data.toList)
 have hpl := heap_lt hp
 obtain ⟨ks, kp⟩ := k
 obtain ⟨si, sg⟩ := s
 obtain ⟨W, hW⟩ : ∃ W, W = (w.alloc (.cells #[.string ks, .string kp] 24)).alloc (.cells #[.string si, .string sg] 26) := ⟨_, rfl⟩
 have HBW := Lib.hid (show Below w.heap.size w W by rw [hW]; exact below_n2 w _ _)
 have hx0 : W.heap[w.heap.size]? = some (.cells #[.string ks, .string kp] 24 (0, 0)) := by
   rw [hW, Below.heap_alloc _ _ _ (by simp)]; exact heap_alloc_new w _
 have hx1 : W.heap[w.heap.size + 1]? = some (.cells #[.string si, .string sg] 26 (0, 0)) := by
   rw [hW]
   have := heap_alloc_new (w.alloc (.cells #[.string ks, .string kp] 24)) (.cells #[.string si, .string sg] 26)
   simpa using this
 have HS := Lib.hid (show ∀ w' : World, Below W.heap.size W w' → w'.cell? ⟨w.heap.size, 0, none⟩ = some (.string ks) ∧ w'.cell? ⟨w.heap.size, 1, none⟩ = some (.string kp) ∧ w'.cell? ⟨w.heap.size + 1, 0, none⟩ = some (.string si) ∧ w'.cell? ⟨w.heap.size + 1, 1, none⟩ = some (.string sg) from fun w' h => by
   have y0 := (h.block _ (heap_lt hx0)).trans hx0
   have y1 := (h.block _ (heap_lt hx1)).trans hx1
   exact ⟨box_cell y0 rfl, box_cell y0 rfl, box_cell y1 rfl, box_cell y1 rfl⟩)
 have HW := Lib.hid hW
 clear hW hx0 hx1
 have HP := Lib.hid (show ∀ w' : World, Below w.heap.size w w' → w'.cell? ⟨p, 0, none⟩ = some (.bool true) ∧ w'.cell? ⟨p, 1, none⟩ = some (.slice none 0 0) from fun w' h => by
   have y := (h.block p hpl).trans hp
   exact ⟨box_cell y rfl, box_cell y rfl⟩)
 clear hp
 obtain ⟨R, hR⟩ : ∃ R : ByteArray, R = ⟨(macHex kp.data.toList m.data.toList).toArray⟩ := ⟨_, rfl⟩
 replace HGD := Lib.hid (show Ver.mac.good (ks, kp) (si, sg) m.data.toList = (ok2 (ks, kp) && (decide (id2 (ks, kp) = si) && (pubOk sg.data.toList && (decide (ks = schemeH) && decide (sg = R))))) from by rw [hR]; exact HGD.out)
 replace HSU := Lib.hid (show ∀ (w : World) (hk : ok2 (ks, kp) = true), Calls Tryz.prog 43 #[.agg #[.string ks, .string kp], .string m] w fun e w' => e = .returned (.string R) ∧ Below w.heap.size w w' from by rw [hR]; exact HSU.out)
 clear hR
 obtain ⟨GG, hGG⟩ : ∃ GG, GG = Ver.mac.good (ks, kp) (si, sg) m.data.toList := ⟨_, rfl⟩
 rw [← hGG] at HGD ⊢
 obtain ⟨ID, hID⟩ : ∃ ID, ID = id2 (ks, kp) := ⟨_, rfl⟩
 obtain ⟨ok, hok⟩ : ∃ ok, ok = ok2 (ks, kp) := ⟨_, rfl⟩
 obtain ⟨pb, hpb⟩ : ∃ pb, pb = pubOk sg.data.toList := ⟨_, rfl⟩
 replace HKI := Lib.hid (show ∀ w, Calls Tryz.prog 41 #[.agg #[.string ks, .string kp]] w fun e w' => e = .returned (.tuple #[.string ID, .int .i64 (if ok = true then 0 else 3)]) ∧ Below w.heap.size w w' from by rw [hID, hok]; exact HKI.out)
 replace HHX := Lib.hid (show ∀ w, Calls Tryz.prog 42 #[.string sg] w fun e w' => e = .returned (.bool pb) ∧ w = w' from by rw [hpb]; exact HHX.out)
 rw [← hID, ← hpb, ← hok] at HGD
 have HOK := Lib.hid hok
 clear hID hpb hok hGG
 obtain ⟨q0, q1, q2, q3⟩ := HS.out W (Below.refl _ _)
 go_enter Tryz.func17, Tryz.ntmps17
 go_wp2_with fail
 rw [← HW.out]
 refine (HKI.out W).mono ?_
 clear HKI q0 q1 q2 q3
 rintro e w1 ⟨rfl, hb1⟩
 have HB1 := Lib.hid (HBW.out.trans (hb1.mono HBW.out.size))
 have HS1 := Lib.hid (show ∀ w' : World, Below w1.heap.size w1 w' → w'.cell? ⟨w.heap.size, 0, none⟩ = some (.string ks) ∧ w'.cell? ⟨w.heap.size, 1, none⟩ = some (.string kp) ∧ w'.cell? ⟨w.heap.size + 1, 0, none⟩ = some (.string si) ∧ w'.cell? ⟨w.heap.size + 1, 1, none⟩ = some (.string sg) from fun w' h => HS.out w' (hb1.trans (h.mono hb1.size)))
 clear hb1 HS
 obtain ⟨q0, q1, q2, q3⟩ := HS1.out w1 (Below.refl _ _)
 cases ok
 · rw [if_neg (by simp)]
   go_wp2
   go_ret
   exact ⟨ret_bool (by rw [HGD.out]; rfl), HB1.out⟩
 rw [if_pos rfl]
 by_cases hid : ID = si
 case neg =>
   have hd : (ID.toList == si.toList) = false := eq_no hid
   have HD := Lib.hid hid
   clear hid
   go_wp2
   go_ret
   exact ⟨ret_bool (by rw [HGD.out, decide_eq_false HD.out]; rfl), HB1.out⟩
 have hd : (ID.toList == si.toList) = true := eq_yes hid
 have HD := Lib.hid hid
 clear hid
 cases pb
 · go_wp2_with fail
   refine (HHX.out _).mono ?_
   rintro e w2 ⟨rfl, rfl⟩
   go_wp2
   go_ret
   exact ⟨ret_bool (by rw [HGD.out]; simp), HB1.out⟩
 · go_wp2_with fail
   refine (HHX.out _).mono ?_
   rintro e w2 ⟨rfl, rfl⟩
   have HGD2 := Lib.hid HGD.out
   rw [decide_eq_true HD.out, Bool.true_and, Bool.true_and, Bool.true_and] at HGD2
   clear HGD HHX
   -- the key may be, the ID is its, the digits may be
   obtain ⟨v0, v1⟩ := HP.out w1 HB1.out
   by_cases hsch : ks = schemeH
   · have hsc := scheme_yes hsch
     have HSS := Lib.hid (fun w' => HSU.out w' HOK.out.symm)
     have HSC := Lib.hid hsch
     clear hsch HSU
     obtain ⟨rb, hrr⟩ : ∃ rb : Bool, (sg.toList == R.toList) = rb := ⟨_, rfl⟩
     have HR := Lib.hid (show decide (sg = R) = rb by rw [← hrr, beq_ba])
     go_upto_region 5 with fail
     obtain ⟨V, hV⟩ : ∃ V : List MP, V = [.con (.pointer (some ⟨w.heap.size, 0, none⟩)), .con (.string ks), .con (.bool true), .con (.bool true), .con (.pointer (some ⟨w.heap.size + 1, 1, none⟩)), .con (.string sg), .con (.agg #[.string ks, .string kp]), .con (.string m), .con (.string R), .con (.bool rb), .con (.bool rb)] := ⟨_, rfl⟩
     have HV := Lib.hid hV
     clear hV
     refine wp_region_inv 11 (fun d a' w' => ∃ XJ XK XL XM XN XO XP XQ XR XS XT, a' = ⟨#[.pointer (some ⟨p, 0, none⟩), .agg #[.string ks, .string kp], .agg #[.string si, .string sg], .string m, undef, .pointer (some ⟨w.heap.size, 0, none⟩), .pointer (some ⟨w.heap.size + 1, 0, none⟩), undef, .bool false, .string ID, .int .i64 0, undef, .tuple #[.string ID, .int .i64 0], .agg #[.string ks, .string kp], .tuple #[.string ID, .int .i64 0], .string ID, .int .i64 0, .int .i64 0, .bool false, .bool false, .string ID, .pointer (some ⟨w.heap.size + 1, 0, none⟩), .string si, .bool false, .bool false, .bool false, .pointer (some ⟨w.heap.size + 1, 1, none⟩), .string sg, .bool true, .bool false, .bool false, .pointer (some ⟨p, 0, none⟩), .pointer (some ⟨p, 0, none⟩), .pointer (some ⟨p, 0, none⟩), .bool true, XJ, XK, XL, XM, XN, XO, XP, XQ, XR, XS, XT, undef, undef, undef, undef, undef, undef, undef, undef, undef, undef, undef, undef, undef, undef, undef, undef, undef, undef, undef, undef, undef, undef, undef, undef, undef, undef, undef, undef, undef, undef, undef, undef, undef, undef, undef, undef, undef, undef, undef, undef, undef, undef, undef, undef, undef, undef], []⟩ ∧ RegI w1 V d w' [XJ, XK, XL, XM, XN, XO, XP, XQ, XR, XS, XT]) (by kernel_rfl) (by kernel_rfl) ?first ?step ?last
     case first => exact ⟨_, _, _, _, _, _, _, _, _, _, _, rfl, RegI.first _ _ _ (by rw [HV.out]; rfl)⟩
     case step =>
       rintro d a' w' ⟨XJ, XK, XL, XM, XN, XO, XP, XQ, XR, XS, XT, rfl, h⟩ q hq hn hw
       rcases q with _ | _ | _ | _ | _ | _ | _ | _ | _ | _ | _ | q
       · refine wpOp_step rfl fun K hK => ?_
         go_simp
         exact hK _ _ ⟨_, XK, XL, XM, XN, XO, XP, XQ, XR, XS, XT, rfl, h.same 0 _ (.con (.pointer (some ⟨w.heap.size, 0, none⟩))) (vq4 HV rfl) rfl⟩
       · obtain rfl : XJ = .pointer (some ⟨w.heap.size, 0, none⟩) := h.get 0 (hw _ rfl ⟨0, .data⟩ (by simp) rfl) (.con (.pointer (some ⟨w.heap.size, 0, none⟩))) (vq4 HV rfl) _ rfl
         obtain ⟨q0, q1, q2, q3⟩ := HS1.out w' h.1
         refine wpOp_step rfl fun K hK => ?_
         go_simp
         exact hK _ _ ⟨_, _, XL, XM, XN, XO, XP, XQ, XR, XS, XT, rfl, h.same 1 _ (.con (.string ks)) (vq4 HV rfl) rfl⟩
       · obtain rfl : XK = .string ks := h.get 1 (hw _ rfl ⟨1, .data⟩ (by simp) rfl) (.con (.string ks)) (vq4 HV rfl) _ rfl
         refine wpOp_step rfl fun K hK => ?_
         go_simp
         exact hK _ _ ⟨XJ, _, _, XM, XN, XO, XP, XQ, XR, XS, XT, rfl, h.same 2 _ (.con (.bool true)) (vq4 HV rfl) rfl⟩
       · obtain rfl : XL = .bool true := h.get 2 (hw _ rfl ⟨2, .data⟩ (by simp) rfl) (.con (.bool true)) (vq4 HV rfl) _ rfl
         refine wpOp_step rfl fun K hK => ?_
         go_simp
         exact hK _ _ ⟨XJ, XK, _, _, XN, XO, XP, XQ, XR, XS, XT, rfl, h.same 3 _ (.con (.bool true)) (vq4 HV rfl) rfl⟩
       · obtain rfl : XM = .bool true := h.get 3 (hw _ rfl ⟨3, .guard⟩ (by simp) rfl) (.con (.bool true)) (vq4 HV rfl) _ rfl
         refine wpOp_step rfl fun K hK => ?_
         go_simp
         exact hK _ _ ⟨XJ, XK, XL, _, _, XO, XP, XQ, XR, XS, XT, rfl, h.same 4 _ (.con (.pointer (some ⟨w.heap.size + 1, 1, none⟩))) (vq4 HV rfl) rfl⟩
       · obtain rfl : XM = .bool true := h.get 3 (hw _ rfl ⟨3, .guard⟩ (by simp) rfl) (.con (.bool true)) (vq4 HV rfl) _ rfl
         obtain rfl : XN = .pointer (some ⟨w.heap.size + 1, 1, none⟩) := h.get 4 (hw _ rfl ⟨4, .data⟩ (by simp) rfl) (.con (.pointer (some ⟨w.heap.size + 1, 1, none⟩))) (vq4 HV rfl) _ rfl
         obtain ⟨q0, q1, q2, q3⟩ := HS1.out w' h.1
         refine wpOp_step rfl fun K hK => ?_
         go_simp
         exact hK _ _ ⟨XJ, XK, XL, _, _, _, XP, XQ, XR, XS, XT, rfl, h.same 5 _ (.con (.string sg)) (vq4 HV rfl) rfl⟩
       · obtain rfl : XM = .bool true := h.get 3 (hw _ rfl ⟨3, .guard⟩ (by simp) rfl) (.con (.bool true)) (vq4 HV rfl) _ rfl
         obtain ⟨q0, q1, q2, q3⟩ := HS1.out w' h.1
         refine wpOp_step rfl fun K hK => ?_
         go_simp
         exact hK _ _ ⟨XJ, XK, XL, _, XN, XO, _, XQ, XR, XS, XT, rfl, h.same 6 _ (.con (.agg #[.string ks, .string kp])) (vq4 HV rfl) rfl⟩
       · obtain rfl : XM = .bool true := h.get 3 (hw _ rfl ⟨3, .guard⟩ (by simp) rfl) (.con (.bool true)) (vq4 HV rfl) _ rfl
         refine wpOp_step rfl fun K hK => ?_
         go_simp
         exact hK _ _ ⟨XJ, XK, XL, _, XN, XO, XP, _, XR, XS, XT, rfl, h.same 7 _ (.con (.string m)) (vq4 HV rfl) rfl⟩
       · obtain rfl : XM = .bool true := h.get 3 (hw _ rfl ⟨3, .chain⟩ (by simp) rfl) (.con (.bool true)) (vq4 HV rfl) _ rfl
         obtain rfl : XP = .agg #[.string ks, .string kp] := h.get 6 (hw _ rfl ⟨6, .data⟩ (by simp) rfl) (.con (.agg #[.string ks, .string kp])) (vq4 HV rfl) _ rfl
         obtain rfl : XQ = .string m := h.get 7 (hw _ rfl ⟨7, .data⟩ (by simp) rfl) (.con (.string m)) (vq4 HV rfl) _ rfl
         obtain ⟨q0, q1, q2, q3⟩ := HS1.out w' h.1
         refine wpOp_step rfl fun K hK => ?_
         go_simp
         refine (HSS.out w').mono ?_
         rintro e w2 ⟨rfl, hb2⟩
         exact hK _ _ ⟨XJ, XK, XL, _, XN, XO, _, _, _, XS, XT, rfl, h.did hb2 8 _ (.con (.string R)) (vq4 HV rfl) rfl⟩
       · obtain rfl : XM = .bool true := h.get 3 (hw _ rfl ⟨3, .guard⟩ (by simp) rfl) (.con (.bool true)) (vq4 HV rfl) _ rfl
         obtain rfl : XO = .string sg := h.get 5 (hw _ rfl ⟨5, .data⟩ (by simp) rfl) (.con (.string sg)) (vq4 HV rfl) _ rfl
         obtain rfl : XR = .string R := h.get 8 (hw _ rfl ⟨8, .data⟩ (by simp) rfl) (.con (.string R)) (vq4 HV rfl) _ rfl
         refine wpOp_step rfl fun K hK => ?_
         go_simp
         exact hK _ _ ⟨XJ, XK, XL, _, XN, _, XP, XQ, _, _, XT, rfl, h.same 9 _ (.con (.bool rb)) (vq4 HV rfl) rfl⟩
       · obtain rfl : XM = .bool true := h.get 3 (hw _ rfl ⟨3, .data⟩ (by simp) rfl) (.con (.bool true)) (vq4 HV rfl) _ rfl
         obtain rfl : XS = .bool rb := h.get 9 (hw _ rfl ⟨9, .data⟩ (by simp) rfl) (.con (.bool rb)) (vq4 HV rfl) _ rfl
         refine wpOp_step rfl fun K hK => ?_
         go_simp
         exact hK _ _ ⟨XJ, XK, XL, _, XN, XO, XP, XQ, XR, _, _, rfl, h.same 10 _ (.con (.bool rb)) (vq4 HV rfl) rfl⟩
       · omega
     case last =>
       rintro d a' w' hall ⟨XJ, XK, XL, XM, XN, XO, XP, XQ, XR, XS, XT, rfl, h⟩
       have hle := h.1
       obtain rfl : XT = .bool rb := h.get 10 (hall _ (by omega)) (.con (.bool rb)) (vq4 HV rfl) _ rfl
       have HLE := Lib.hid hle
       clear h hall hle HV
       go_wp2
       go_ret
       exact ⟨ret_bool (by rw [HGD2.out, decide_eq_true HSC.out, HR.out]; rfl), HB1.out.trans (HLE.out.mono HB1.out.size)⟩
   · have hsc := scheme_no hsch
     have HSC := Lib.hid hsch
     clear hsch HSU
     go_upto_region 5 with fail
     obtain ⟨V, hV⟩ : ∃ V : List MP, V = [.con (.pointer (some ⟨w.heap.size, 0, none⟩)), .con (.string ks), .con (.bool false), .con (.bool false), .any, .any, .any, .any, .any, .any, .con (.bool false)] := ⟨_, rfl⟩
     have HV := Lib.hid hV
     clear hV
     refine wp_region_inv 11 (fun d a' w' => ∃ XJ XK XL XM XN XO XP XQ XR XS XT, a' = ⟨#[.pointer (some ⟨p, 0, none⟩), .agg #[.string ks, .string kp], .agg #[.string si, .string sg], .string m, undef, .pointer (some ⟨w.heap.size, 0, none⟩), .pointer (some ⟨w.heap.size + 1, 0, none⟩), undef, .bool false, .string ID, .int .i64 0, undef, .tuple #[.string ID, .int .i64 0], .agg #[.string ks, .string kp], .tuple #[.string ID, .int .i64 0], .string ID, .int .i64 0, .int .i64 0, .bool false, .bool false, .string ID, .pointer (some ⟨w.heap.size + 1, 0, none⟩), .string si, .bool false, .bool false, .bool false, .pointer (some ⟨w.heap.size + 1, 1, none⟩), .string sg, .bool true, .bool false, .bool false, .pointer (some ⟨p, 0, none⟩), .pointer (some ⟨p, 0, none⟩), .pointer (some ⟨p, 0, none⟩), .bool true, XJ, XK, XL, XM, XN, XO, XP, XQ, XR, XS, XT, undef, undef, undef, undef, undef, undef, undef, undef, undef, undef, undef, undef, undef, undef, undef, undef, undef, undef, undef, undef, undef, undef, undef, undef, undef, undef, undef, undef, undef, undef, undef, undef, undef, undef, undef, undef, undef, undef, undef, undef, undef, undef, undef, undef, undef, undef], []⟩ ∧ RegI w1 V d w' [XJ, XK, XL, XM, XN, XO, XP, XQ, XR, XS, XT]) (by kernel_rfl) (by kernel_rfl) ?first ?step ?last
     case first => exact ⟨_, _, _, _, _, _, _, _, _, _, _, rfl, RegI.first _ _ _ (by rw [HV.out]; rfl)⟩
     case step =>
       rintro d a' w' ⟨XJ, XK, XL, XM, XN, XO, XP, XQ, XR, XS, XT, rfl, h⟩ q hq hn hw
       rcases q with _ | _ | _ | _ | _ | _ | _ | _ | _ | _ | _ | q
       · refine wpOp_step rfl fun K hK => ?_
         go_simp
         exact hK _ _ ⟨_, XK, XL, XM, XN, XO, XP, XQ, XR, XS, XT, rfl, h.same 0 _ (.con (.pointer (some ⟨w.heap.size, 0, none⟩))) (vq4 HV rfl) rfl⟩
       · obtain rfl : XJ = .pointer (some ⟨w.heap.size, 0, none⟩) := h.get 0 (hw _ rfl ⟨0, .data⟩ (by simp) rfl) (.con (.pointer (some ⟨w.heap.size, 0, none⟩))) (vq4 HV rfl) _ rfl
         obtain ⟨q0, q1, q2, q3⟩ := HS1.out w' h.1
         refine wpOp_step rfl fun K hK => ?_
         go_simp
         exact hK _ _ ⟨_, _, XL, XM, XN, XO, XP, XQ, XR, XS, XT, rfl, h.same 1 _ (.con (.string ks)) (vq4 HV rfl) rfl⟩
       · obtain rfl : XK = .string ks := h.get 1 (hw _ rfl ⟨1, .data⟩ (by simp) rfl) (.con (.string ks)) (vq4 HV rfl) _ rfl
         refine wpOp_step rfl fun K hK => ?_
         go_simp
         exact hK _ _ ⟨XJ, _, _, XM, XN, XO, XP, XQ, XR, XS, XT, rfl, h.same 2 _ (.con (.bool false)) (vq4 HV rfl) rfl⟩
       · obtain rfl : XL = .bool false := h.get 2 (hw _ rfl ⟨2, .data⟩ (by simp) rfl) (.con (.bool false)) (vq4 HV rfl) _ rfl
         refine wpOp_step rfl fun K hK => ?_
         go_simp
         exact hK _ _ ⟨XJ, XK, _, _, XN, XO, XP, XQ, XR, XS, XT, rfl, h.same 3 _ (.con (.bool false)) (vq4 HV rfl) rfl⟩
       · obtain rfl : XM = .bool false := h.get 3 (hw _ rfl ⟨3, .guard⟩ (by simp) rfl) (.con (.bool false)) (vq4 HV rfl) _ rfl
         refine wpOp_step rfl fun K hK => ?_
         go_simp
         exact hK _ _ ⟨XJ, XK, XL, _, _, XO, XP, XQ, XR, XS, XT, rfl, h.same 4 _ .any (vq4 HV rfl) trivial⟩
       · obtain rfl : XM = .bool false := h.get 3 (hw _ rfl ⟨3, .guard⟩ (by simp) rfl) (.con (.bool false)) (vq4 HV rfl) _ rfl
         refine wpOp_step rfl fun K hK => ?_
         go_simp
         exact hK _ _ ⟨XJ, XK, XL, _, XN, _, XP, XQ, XR, XS, XT, rfl, h.same 5 _ .any (vq4 HV rfl) trivial⟩
       · obtain rfl : XM = .bool false := h.get 3 (hw _ rfl ⟨3, .guard⟩ (by simp) rfl) (.con (.bool false)) (vq4 HV rfl) _ rfl
         refine wpOp_step rfl fun K hK => ?_
         go_simp
         exact hK _ _ ⟨XJ, XK, XL, _, XN, XO, _, XQ, XR, XS, XT, rfl, h.same 6 _ .any (vq4 HV rfl) trivial⟩
       · obtain rfl : XM = .bool false := h.get 3 (hw _ rfl ⟨3, .guard⟩ (by simp) rfl) (.con (.bool false)) (vq4 HV rfl) _ rfl
         refine wpOp_step rfl fun K hK => ?_
         go_simp
         exact hK _ _ ⟨XJ, XK, XL, _, XN, XO, XP, _, XR, XS, XT, rfl, h.same 7 _ .any (vq4 HV rfl) trivial⟩
       · obtain rfl : XM = .bool false := h.get 3 (hw _ rfl ⟨3, .chain⟩ (by simp) rfl) (.con (.bool false)) (vq4 HV rfl) _ rfl
         refine wpOp_step rfl fun K hK => ?_
         go_simp
         exact hK _ _ ⟨XJ, XK, XL, _, XN, XO, XP, XQ, _, XS, XT, rfl, h.same 8 _ .any (vq4 HV rfl) trivial⟩
       · obtain rfl : XM = .bool false := h.get 3 (hw _ rfl ⟨3, .guard⟩ (by simp) rfl) (.con (.bool false)) (vq4 HV rfl) _ rfl
         refine wpOp_step rfl fun K hK => ?_
         go_simp
         exact hK _ _ ⟨XJ, XK, XL, _, XN, XO, XP, XQ, XR, _, XT, rfl, h.same 9 _ .any (vq4 HV rfl) trivial⟩
       · obtain rfl : XM = .bool false := h.get 3 (hw _ rfl ⟨3, .data⟩ (by simp) rfl) (.con (.bool false)) (vq4 HV rfl) _ rfl
         refine wpOp_step rfl fun K hK => ?_
         go_simp
         exact hK _ _ ⟨XJ, XK, XL, _, XN, XO, XP, XQ, XR, XS, _, rfl, h.same 10 _ (.con (.bool false)) (vq4 HV rfl) rfl⟩
       · omega
     case last =>
       rintro d a' w' hall ⟨XJ, XK, XL, XM, XN, XO, XP, XQ, XR, XS, XT, rfl, h⟩
       have hle := h.1
       obtain rfl : XT = .bool false := h.get 10 (hall _ (by omega)) (.con (.bool false)) (vq4 HV rfl) _ rfl
       have HLE := Lib.hid hle
       clear h hall hle HV
       go_wp2
       go_ret
       exact ⟨ret_bool (by rw [HGD2.out, decide_eq_false HSC.out]; rfl), HB1.out.trans (HLE.out.mono HB1.out.size)⟩

set_option maxHeartbeats 4000000 in
set_option maxRecDepth 100000 in
theorem ref17Good_tab (l : List Ver3) (a : Option Addr) (c p : Nat) (k : Key2) (s : Sig2) (m : ByteArray) (w : World) (hp : w.heap[p]? = some (.cells #[.bool false, .slice a l.length c] 87 (0, 0))) (h1 : k.1.size ≤ 300) (h2 : k.2.size ≤ 300) (h3 : s.2.size ≤ 9223372036854775807) (hm : m.size ≤ 1099511620000) (hl : l.length ≤ 60) (hR : TrisAt w 0 w.heap.size a l) :
   Calls Tryz.prog 17 #[.pointer (some ⟨p, 0, none⟩), .agg #[.string k.1, .string k.2], .agg #[.string s.1, .string s.2], .string m] w fun e w' => e = .returned (.bool ((Ver.tab l).good k s m.data.toList)) ∧ Below w.heap.size w w' := by
 have HKI := Lib.hid (fun w => refId2 k w h1 h2)
 have HDG := Lib.hid (fun w => refDigest m w (by omega))
 have HHX := Lib.hid (fun w => ref14Hex s.2 w h3)
 have HGD := Lib.hid (good_tab_ref l k s m.data.toList)
 have hpl := heap_lt hp
 have HRT := Lib.hid hR
 obtain ⟨ks, kp⟩ := k
 obtain ⟨si, sg⟩ := s
 obtain ⟨W, hW⟩ : ∃ W, W = (w.alloc (.cells #[.string ks, .string kp] 24)).alloc (.cells #[.string si, .string sg] 26) := ⟨_, rfl⟩
 have HBW := Lib.hid (show Below w.heap.size w W by rw [hW]; exact below_n2 w _ _)
 have hx0 : W.heap[w.heap.size]? = some (.cells #[.string ks, .string kp] 24 (0, 0)) := by
   rw [hW, Below.heap_alloc _ _ _ (by simp)]; exact heap_alloc_new w _
 have hx1 : W.heap[w.heap.size + 1]? = some (.cells #[.string si, .string sg] 26 (0, 0)) := by
   rw [hW]
   have := heap_alloc_new (w.alloc (.cells #[.string ks, .string kp] 24)) (.cells #[.string si, .string sg] 26)
   simpa using this
 have HS := Lib.hid (show ∀ w' : World, Below W.heap.size W w' → w'.cell? ⟨w.heap.size, 0, none⟩ = some (.string ks) ∧ w'.cell? ⟨w.heap.size, 1, none⟩ = some (.string kp) ∧ w'.cell? ⟨w.heap.size + 1, 0, none⟩ = some (.string si) ∧ w'.cell? ⟨w.heap.size + 1, 1, none⟩ = some (.string sg) from fun w' h => by
   have y0 := (h.block _ (heap_lt hx0)).trans hx0
   have y1 := (h.block _ (heap_lt hx1)).trans hx1
   exact ⟨box_cell y0 rfl, box_cell y0 rfl, box_cell y1 rfl, box_cell y1 rfl⟩)
 have HW := Lib.hid hW
 clear hW hx0 hx1
 have HP := Lib.hid (show ∀ w' : World, Below w.heap.size w w' → w'.cell? ⟨p, 0, none⟩ = some (.bool false) ∧ w'.cell? ⟨p, 1, none⟩ = some (.slice a l.length c) from fun w' h => by
   have y := (h.block p hpl).trans hp
   exact ⟨box_cell y rfl, box_cell y rfl⟩)
 clear hp hR
 obtain ⟨D, hD⟩ : ∃ D : ByteArray, D = ⟨(shaHex m.data.toList).toArray⟩ := ⟨_, rfl⟩
 replace HGD := Lib.hid (show (Ver.tab l).good (ks, kp) (si, sg) m.data.toList = (ok2 (ks, kp) && (decide (id2 (ks, kp) = si) && (pubOk sg.data.toList && l.any fun v => decide (v.1 = si ∧ v.2.1 = sg ∧ v.2.2 = D)))) from by rw [hD]; exact HGD.out)
 rw [← hD] at HDG
 obtain ⟨GG, hGG⟩ : ∃ GG, GG = (Ver.tab l).good (ks, kp) (si, sg) m.data.toList := ⟨_, rfl⟩
 rw [← hGG] at HGD ⊢
 clear hD
 obtain ⟨ID, hID⟩ : ∃ ID, ID = id2 (ks, kp) := ⟨_, rfl⟩
 obtain ⟨ok, hok⟩ : ∃ ok, ok = ok2 (ks, kp) := ⟨_, rfl⟩
 obtain ⟨pb, hpb⟩ : ∃ pb, pb = pubOk sg.data.toList := ⟨_, rfl⟩
 replace HKI := Lib.hid (show ∀ w, Calls Tryz.prog 41 #[.agg #[.string ks, .string kp]] w fun e w' => e = .returned (.tuple #[.string ID, .int .i64 (if ok = true then 0 else 3)]) ∧ Below w.heap.size w w' from by rw [hID, hok]; exact HKI.out)
 replace HHX := Lib.hid (show ∀ w, Calls Tryz.prog 42 #[.string sg] w fun e w' => e = .returned (.bool pb) ∧ w = w' from by rw [hpb]; exact HHX.out)
 rw [← hID, ← hpb, ← hok] at HGD
 have HOK := Lib.hid hok
 clear hID hpb hok hGG
 obtain ⟨q0, q1, q2, q3⟩ := HS.out W (Below.refl _ _)
 go_enter Tryz.func17, Tryz.ntmps17
 go_wp2_with fail
 rw [← HW.out]
 refine (HKI.out W).mono ?_
 clear HKI q0 q1 q2 q3
 rintro e w1 ⟨rfl, hb1⟩
 have HB1 := Lib.hid (HBW.out.trans (hb1.mono HBW.out.size))
 have HS1 := Lib.hid (show ∀ w' : World, Below w1.heap.size w1 w' → w'.cell? ⟨w.heap.size, 0, none⟩ = some (.string ks) ∧ w'.cell? ⟨w.heap.size, 1, none⟩ = some (.string kp) ∧ w'.cell? ⟨w.heap.size + 1, 0, none⟩ = some (.string si) ∧ w'.cell? ⟨w.heap.size + 1, 1, none⟩ = some (.string sg) from fun w' h => HS.out w' (hb1.trans (h.mono hb1.size)))
 clear hb1 HS
 obtain ⟨q0, q1, q2, q3⟩ := HS1.out w1 (Below.refl _ _)
 cases ok
 · rw [if_neg (by simp)]
   go_wp2
   go_ret
   exact ⟨ret_bool (by rw [HGD.out]; rfl), HB1.out⟩
 rw [if_pos rfl]
 by_cases hid : ID = si
 case neg =>
   have hd : (ID.toList == si.toList) = false := eq_no hid
   have HD := Lib.hid hid
   clear hid
   go_wp2
   go_ret
   exact ⟨ret_bool (by rw [HGD.out, decide_eq_false HD.out]; rfl), HB1.out⟩
 have hd : (ID.toList == si.toList) = true := eq_yes hid
 have HD := Lib.hid hid
 clear hid
 cases pb
 · go_wp2_with fail
   refine (HHX.out _).mono ?_
   rintro e w2 ⟨rfl, rfl⟩
   go_wp2
   go_ret
   exact ⟨ret_bool (by rw [HGD.out]; simp), HB1.out⟩
 · go_wp2_with fail
   refine (HHX.out _).mono ?_
   rintro e w2 ⟨rfl, rfl⟩
   have HGD2 := Lib.hid HGD.out
   rw [decide_eq_true HD.out, Bool.true_and, Bool.true_and, Bool.true_and] at HGD2
   clear HGD HHX
   -- the key may be, the ID is its, the digits may be
   obtain ⟨v0, v1⟩ := HP.out w1 HB1.out
   have HHD := Lib.hid hd
   go_wp2_with fail
   clear q0 q1 q2 q3 v0 v1 hd
   go_loopw [11] (fun i wr => ∃ k : Nat, k ≤ l.length ∧ i = .int .i64 k ∧ (∀ j (hj : j < k) (hj2 : j < l.length), ¬ (l[j].1 = si ∧ l[j].2.1 = sg ∧ l[j].2.2 = D)) ∧ Below w1.heap.size w1 wr) (fun i _ => l.length - (intOf i).toNat)
   case atStart => exact ⟨0, Nat.zero_le _, rfl, (fun j hj => by omega), Below.refl _ _⟩
   case round =>
     obtain ⟨k, hk, rfl, hno, hbr⟩ := hrel
     have HNO := Lib.hid hno
     have HBR := Lib.hid hbr
     have HBX := Lib.hid (show ∀ w' : World, Below wr.heap.size wr w' → Below w.heap.size w w' from fun w' h => HB1.out.trans ((hbr.trans (h.mono hbr.size)).mono HB1.out.size))
     clear hno hbr
     obtain ⟨v0, v1⟩ := HP.out wr (HBX.out wr (Below.refl _ _))
     by_cases hlt : k < l.length
     · have m1 : (k : Int) < (l.length : Int) := by omega
       have m0 : (0 : Int) ≤ (k : Int) := by omega
       obtain ⟨b, off, ha, _, hb, e0, e1, e2⟩ := HRT.out.at k hlt
       subst ha
       obtain ⟨x, hx⟩ : ∃ x, x = l[k] := ⟨_, rfl⟩
       rw [← hx] at e0 e1 e2
       have HX := Lib.hid hx
       clear hx
       obtain ⟨x0, x1, x2⟩ := x
       have HC := Lib.hid (show ∀ w' : World, Below wr.heap.size wr w' → w'.cell? ⟨p, 0, none⟩ = some (.bool false) ∧ w'.cell? ⟨p, 1, none⟩ = some (.slice (some ⟨b, off, none⟩) l.length c) ∧ w'.cell? ⟨w.heap.size + 1, 0, none⟩ = some (.string si) ∧ w'.cell? ⟨w.heap.size + 1, 1, none⟩ = some (.string sg) ∧ w'.cell? ⟨b, off + k * 3, none⟩ = some (.string x0) ∧ w'.cell? ⟨b, off + k * 3 + 1, none⟩ = some (.string x1) ∧ w'.cell? ⟨b, off + k * 3 + 2, none⟩ = some (.string x2) from fun w' h => by
         have hw := HBX.out w' h
         have hs := HS1.out w' (HBR.out.trans (h.mono HBR.out.size))
         exact ⟨(HP.out w' hw).1, (HP.out w' hw).2, hs.2.2.1, hs.2.2.2, (World.cell?_of_block (w := w) (hw.block b hb)).trans e0, (World.cell?_of_block (w := w) (hw.block b hb)).trans e1, (World.cell?_of_block (w := w) (hw.block b hb)).trans e2⟩)
       clear e0 e1 e2 hb
       by_cases t0 : x0 = si
       case neg =>
         have d0 : (x0.toList == si.toList) = false := eq_no t0
         have HT0 := Lib.hid t0
         clear t0
         go_upto_region 9 with fail
         clear v0 v1
         obtain ⟨V, hV⟩ : ∃ V : List MP, V = [.con (.pointer (some ⟨p, 0, none⟩)), .con (.pointer (some ⟨p, 0, none⟩)), .con (.pointer (some ⟨p, 1, none⟩)), .con (.slice (some ⟨b, off, none⟩) l.length c), .con (.int .i64 (k : Int)), .con (.pointer (some ⟨b, off + k * 3, none⟩)), .con (.pointer (some ⟨b, off + k * 3, none⟩)), .con (.string x0), .con (.pointer (some ⟨w.heap.size + 1, 0, none⟩)), .con (.string si), .con (.bool false), .con (.bool false), .any, .any, .any, .any, .any, .any, .any, .any, .any, .any, .any, .con (.bool false), .con (.bool false), .any, .any, .any, .any, .any, .any, .any, .any, .any, .any, .any] := ⟨_, rfl⟩
         have HV := Lib.hid hV
         clear hV
         refine wp_region_inv 36 (fun d a' w' => ∃ Xd Xe Xf Xg Xh Xi Xj Xk Xl Xm Xn Xo Xp Xq Xr Xs Xt Xu Xv Xw Xx Xy Xz XA XB XC XD XE XF XG XH XI XJ XK XL XM, a' = ⟨#[.pointer (some ⟨p, 0, none⟩), .agg #[.string ks, .string kp], .agg #[.string si, .string sg], .string m, undef, .pointer (some ⟨w.heap.size, 0, none⟩), .pointer (some ⟨w.heap.size + 1, 0, none⟩), undef, u8, .string ID, .int .i64 0, .int .i64 (k : Int), .tuple #[.string ID, .int .i64 0], .agg #[.string ks, .string kp], .tuple #[.string ID, .int .i64 0], .string ID, .int .i64 0, .int .i64 0, .bool false, .bool false, .string ID, .pointer (some ⟨w.heap.size + 1, 0, none⟩), .string si, .bool false, .bool false, .bool false, .pointer (some ⟨w.heap.size + 1, 1, none⟩), .string sg, .bool true, .bool false, .bool false, .pointer (some ⟨p, 0, none⟩), .pointer (some ⟨p, 0, none⟩), .pointer (some ⟨p, 0, none⟩), .bool false, undef, undef, undef, undef, undef, undef, undef, undef, undef, undef, undef, .int .i64 (k : Int), .pointer (some ⟨p, 0, none⟩), .pointer (some ⟨p, 0, none⟩), .pointer (some ⟨p, 1, none⟩), .slice (some ⟨b, off, none⟩) l.length c, .int .i64 (l.length : Int), .bool true, u53, u54, Xd, Xe, Xf, Xg, Xh, Xi, Xj, Xk, Xl, Xm, Xn, Xo, Xp, Xq, Xr, Xs, Xt, Xu, Xv, Xw, Xx, Xy, Xz, XA, XB, XC, XD, XE, XF, XG, XH, XI, XJ, XK, XL, XM, u91], []⟩ ∧ RegI wr V d w' [Xd, Xe, Xf, Xg, Xh, Xi, Xj, Xk, Xl, Xm, Xn, Xo, Xp, Xq, Xr, Xs, Xt, Xu, Xv, Xw, Xx, Xy, Xz, XA, XB, XC, XD, XE, XF, XG, XH, XI, XJ, XK, XL, XM]) (by kernel_rfl) (by kernel_rfl) ?first ?step ?last
         case first => exact ⟨_, _, _, _, _, _, _, _, _, _, _, _, _, _, _, _, _, _, _, _, _, _, _, _, _, _, _, _, _, _, _, _, _, _, _, _, rfl, RegI.first _ _ _ (by rw [HV.out]; rfl)⟩
         case step =>
           rintro d a' w' ⟨Xd, Xe, Xf, Xg, Xh, Xi, Xj, Xk, Xl, Xm, Xn, Xo, Xp, Xq, Xr, Xs, Xt, Xu, Xv, Xw, Xx, Xy, Xz, XA, XB, XC, XD, XE, XF, XG, XH, XI, XJ, XK, XL, XM, rfl, h⟩ q hq hn hw
           rcases q with _ | _ | _ | _ | _ | _ | _ | _ | _ | _ | _ | _ | _ | _ | _ | _ | _ | _ | _ | _ | _ | _ | _ | _ | _ | _ | _ | _ | _ | _ | _ | _ | _ | _ | _ | _ | q
           · refine wpOp_step rfl fun K hK => ?_
             go_simp
             exact hK _ _ ⟨_, Xe, Xf, Xg, Xh, Xi, Xj, Xk, Xl, Xm, Xn, Xo, Xp, Xq, Xr, Xs, Xt, Xu, Xv, Xw, Xx, Xy, Xz, XA, XB, XC, XD, XE, XF, XG, XH, XI, XJ, XK, XL, XM, rfl, h.same 0 _ (.con (.pointer (some ⟨p, 0, none⟩))) (vq4 HV rfl) rfl⟩
           · obtain rfl : Xd = .pointer (some ⟨p, 0, none⟩) := h.get 0 (hw _ rfl ⟨0, .data⟩ (by simp) rfl) (.con (.pointer (some ⟨p, 0, none⟩))) (vq4 HV rfl) _ rfl
             refine wpOp_step rfl fun K hK => ?_
             go_simp
             exact hK _ _ ⟨_, _, Xf, Xg, Xh, Xi, Xj, Xk, Xl, Xm, Xn, Xo, Xp, Xq, Xr, Xs, Xt, Xu, Xv, Xw, Xx, Xy, Xz, XA, XB, XC, XD, XE, XF, XG, XH, XI, XJ, XK, XL, XM, rfl, h.same 1 _ (.con (.pointer (some ⟨p, 0, none⟩))) (vq4 HV rfl) rfl⟩
           · obtain rfl : Xe = .pointer (some ⟨p, 0, none⟩) := h.get 1 (hw _ rfl ⟨1, .data⟩ (by simp) rfl) (.con (.pointer (some ⟨p, 0, none⟩))) (vq4 HV rfl) _ rfl
             refine wpOp_step rfl fun K hK => ?_
             go_simp
             exact hK _ _ ⟨Xd, _, _, Xg, Xh, Xi, Xj, Xk, Xl, Xm, Xn, Xo, Xp, Xq, Xr, Xs, Xt, Xu, Xv, Xw, Xx, Xy, Xz, XA, XB, XC, XD, XE, XF, XG, XH, XI, XJ, XK, XL, XM, rfl, h.same 2 _ (.con (.pointer (some ⟨p, 1, none⟩))) (vq4 HV rfl) rfl⟩
           · obtain rfl : Xf = .pointer (some ⟨p, 1, none⟩) := h.get 2 (hw _ rfl ⟨2, .data⟩ (by simp) rfl) (.con (.pointer (some ⟨p, 1, none⟩))) (vq4 HV rfl) _ rfl
             obtain ⟨v0, v1, g0, g1, e0, e1, e2⟩ := HC.out w' h.1
             refine wpOp_step rfl fun K hK => ?_
             go_simp
             exact hK _ _ ⟨Xd, Xe, _, _, Xh, Xi, Xj, Xk, Xl, Xm, Xn, Xo, Xp, Xq, Xr, Xs, Xt, Xu, Xv, Xw, Xx, Xy, Xz, XA, XB, XC, XD, XE, XF, XG, XH, XI, XJ, XK, XL, XM, rfl, h.same 3 _ (.con (.slice (some ⟨b, off, none⟩) l.length c)) (vq4 HV rfl) rfl⟩
           · refine wpOp_step rfl fun K hK => ?_
             go_simp
             exact hK _ _ ⟨Xd, Xe, Xf, Xg, _, Xi, Xj, Xk, Xl, Xm, Xn, Xo, Xp, Xq, Xr, Xs, Xt, Xu, Xv, Xw, Xx, Xy, Xz, XA, XB, XC, XD, XE, XF, XG, XH, XI, XJ, XK, XL, XM, rfl, h.same 4 _ (.con (.int .i64 (k : Int))) (vq4 HV rfl) rfl⟩
           · obtain rfl : Xg = .slice (some ⟨b, off, none⟩) l.length c := h.get 3 (hw _ rfl ⟨3, .data⟩ (by simp) rfl) (.con (.slice (some ⟨b, off, none⟩) l.length c)) (vq4 HV rfl) _ rfl
             obtain rfl : Xh = .int .i64 (k : Int) := h.get 4 (hw _ rfl ⟨4, .data⟩ (by simp) rfl) (.con (.int .i64 (k : Int))) (vq4 HV rfl) _ rfl
             obtain ⟨v0, v1, g0, g1, e0, e1, e2⟩ := HC.out w' h.1
             refine wpOp_step rfl fun K hK => ?_
             go_simp
             exact hK _ _ ⟨Xd, Xe, Xf, _, _, _, Xj, Xk, Xl, Xm, Xn, Xo, Xp, Xq, Xr, Xs, Xt, Xu, Xv, Xw, Xx, Xy, Xz, XA, XB, XC, XD, XE, XF, XG, XH, XI, XJ, XK, XL, XM, rfl, h.same 5 _ (.con (.pointer (some ⟨b, off + k * 3, none⟩))) (vq4 HV rfl) rfl⟩
           · obtain rfl : Xi = .pointer (some ⟨b, off + k * 3, none⟩) := h.get 5 (hw _ rfl ⟨5, .data⟩ (by simp) rfl) (.con (.pointer (some ⟨b, off + k * 3, none⟩))) (vq4 HV rfl) _ rfl
             refine wpOp_step rfl fun K hK => ?_
             go_simp
             exact hK _ _ ⟨Xd, Xe, Xf, Xg, Xh, _, _, Xk, Xl, Xm, Xn, Xo, Xp, Xq, Xr, Xs, Xt, Xu, Xv, Xw, Xx, Xy, Xz, XA, XB, XC, XD, XE, XF, XG, XH, XI, XJ, XK, XL, XM, rfl, h.same 6 _ (.con (.pointer (some ⟨b, off + k * 3, none⟩))) (vq4 HV rfl) rfl⟩
           · obtain rfl : Xj = .pointer (some ⟨b, off + k * 3, none⟩) := h.get 6 (hw _ rfl ⟨6, .data⟩ (by simp) rfl) (.con (.pointer (some ⟨b, off + k * 3, none⟩))) (vq4 HV rfl) _ rfl
             obtain ⟨v0, v1, g0, g1, e0, e1, e2⟩ := HC.out w' h.1
             refine wpOp_step rfl fun K hK => ?_
             go_simp
             exact hK _ _ ⟨Xd, Xe, Xf, Xg, Xh, Xi, _, _, Xl, Xm, Xn, Xo, Xp, Xq, Xr, Xs, Xt, Xu, Xv, Xw, Xx, Xy, Xz, XA, XB, XC, XD, XE, XF, XG, XH, XI, XJ, XK, XL, XM, rfl, h.same 7 _ (.con (.string x0)) (vq4 HV rfl) rfl⟩
           · refine wpOp_step rfl fun K hK => ?_
             go_simp
             exact hK _ _ ⟨Xd, Xe, Xf, Xg, Xh, Xi, Xj, Xk, _, Xm, Xn, Xo, Xp, Xq, Xr, Xs, Xt, Xu, Xv, Xw, Xx, Xy, Xz, XA, XB, XC, XD, XE, XF, XG, XH, XI, XJ, XK, XL, XM, rfl, h.same 8 _ (.con (.pointer (some ⟨w.heap.size + 1, 0, none⟩))) (vq4 HV rfl) rfl⟩
           · obtain rfl : Xl = .pointer (some ⟨w.heap.size + 1, 0, none⟩) := h.get 8 (hw _ rfl ⟨8, .data⟩ (by simp) rfl) (.con (.pointer (some ⟨w.heap.size + 1, 0, none⟩))) (vq4 HV rfl) _ rfl
             obtain ⟨v0, v1, g0, g1, e0, e1, e2⟩ := HC.out w' h.1
             refine wpOp_step rfl fun K hK => ?_
             go_simp
             exact hK _ _ ⟨Xd, Xe, Xf, Xg, Xh, Xi, Xj, Xk, _, _, Xn, Xo, Xp, Xq, Xr, Xs, Xt, Xu, Xv, Xw, Xx, Xy, Xz, XA, XB, XC, XD, XE, XF, XG, XH, XI, XJ, XK, XL, XM, rfl, h.same 9 _ (.con (.string si)) (vq4 HV rfl) rfl⟩
           · obtain rfl : Xk = .string x0 := h.get 7 (hw _ rfl ⟨7, .data⟩ (by simp) rfl) (.con (.string x0)) (vq4 HV rfl) _ rfl
             obtain rfl : Xm = .string si := h.get 9 (hw _ rfl ⟨9, .data⟩ (by simp) rfl) (.con (.string si)) (vq4 HV rfl) _ rfl
             refine wpOp_step rfl fun K hK => ?_
             go_simp
             exact hK _ _ ⟨Xd, Xe, Xf, Xg, Xh, Xi, Xj, _, Xl, _, _, Xo, Xp, Xq, Xr, Xs, Xt, Xu, Xv, Xw, Xx, Xy, Xz, XA, XB, XC, XD, XE, XF, XG, XH, XI, XJ, XK, XL, XM, rfl, h.same 10 _ (.con (.bool false)) (vq4 HV rfl) rfl⟩
           · obtain rfl : Xn = .bool false := h.get 10 (hw _ rfl ⟨10, .data⟩ (by simp) rfl) (.con (.bool false)) (vq4 HV rfl) _ rfl
             refine wpOp_step rfl fun K hK => ?_
             go_simp
             exact hK _ _ ⟨Xd, Xe, Xf, Xg, Xh, Xi, Xj, Xk, Xl, Xm, _, _, Xp, Xq, Xr, Xs, Xt, Xu, Xv, Xw, Xx, Xy, Xz, XA, XB, XC, XD, XE, XF, XG, XH, XI, XJ, XK, XL, XM, rfl, h.same 11 _ (.con (.bool false)) (vq4 HV rfl) rfl⟩
           · obtain rfl : Xo = .bool false := h.get 11 (hw _ rfl ⟨11, .guard⟩ (by simp) rfl) (.con (.bool false)) (vq4 HV rfl) _ rfl
             refine wpOp_step rfl fun K hK => ?_
             go_simp
             exact hK _ _ ⟨Xd, Xe, Xf, Xg, Xh, Xi, Xj, Xk, Xl, Xm, Xn, _, _, Xq, Xr, Xs, Xt, Xu, Xv, Xw, Xx, Xy, Xz, XA, XB, XC, XD, XE, XF, XG, XH, XI, XJ, XK, XL, XM, rfl, h.same 12 _ .any (vq4 HV rfl) trivial⟩
           · obtain rfl : Xo = .bool false := h.get 11 (hw _ rfl ⟨11, .guard⟩ (by simp) rfl) (.con (.bool false)) (vq4 HV rfl) _ rfl
             refine wpOp_step rfl fun K hK => ?_
             go_simp
             exact hK _ _ ⟨Xd, Xe, Xf, Xg, Xh, Xi, Xj, Xk, Xl, Xm, Xn, _, Xp, _, Xr, Xs, Xt, Xu, Xv, Xw, Xx, Xy, Xz, XA, XB, XC, XD, XE, XF, XG, XH, XI, XJ, XK, XL, XM, rfl, h.same 13 _ .any (vq4 HV rfl) trivial⟩
           · obtain rfl : Xo = .bool false := h.get 11 (hw _ rfl ⟨11, .guard⟩ (by simp) rfl) (.con (.bool false)) (vq4 HV rfl) _ rfl
             refine wpOp_step rfl fun K hK => ?_
             go_simp
             exact hK _ _ ⟨Xd, Xe, Xf, Xg, Xh, Xi, Xj, Xk, Xl, Xm, Xn, _, Xp, Xq, _, Xs, Xt, Xu, Xv, Xw, Xx, Xy, Xz, XA, XB, XC, XD, XE, XF, XG, XH, XI, XJ, XK, XL, XM, rfl, h.same 14 _ .any (vq4 HV rfl) trivial⟩
           · obtain rfl : Xo = .bool false := h.get 11 (hw _ rfl ⟨11, .guard⟩ (by simp) rfl) (.con (.bool false)) (vq4 HV rfl) _ rfl
             refine wpOp_step rfl fun K hK => ?_
             go_simp
             exact hK _ _ ⟨Xd, Xe, Xf, Xg, Xh, Xi, Xj, Xk, Xl, Xm, Xn, _, Xp, Xq, Xr, _, Xt, Xu, Xv, Xw, Xx, Xy, Xz, XA, XB, XC, XD, XE, XF, XG, XH, XI, XJ, XK, XL, XM, rfl, h.same 15 _ .any (vq4 HV rfl) trivial⟩
           · obtain rfl : Xo = .bool false := h.get 11 (hw _ rfl ⟨11, .guard⟩ (by simp) rfl) (.con (.bool false)) (vq4 HV rfl) _ rfl
             refine wpOp_step rfl fun K hK => ?_
             go_simp
             exact hK _ _ ⟨Xd, Xe, Xf, Xg, Xh, Xi, Xj, Xk, Xl, Xm, Xn, _, Xp, Xq, Xr, Xs, _, Xu, Xv, Xw, Xx, Xy, Xz, XA, XB, XC, XD, XE, XF, XG, XH, XI, XJ, XK, XL, XM, rfl, h.same 16 _ .any (vq4 HV rfl) trivial⟩
           · obtain rfl : Xo = .bool false := h.get 11 (hw _ rfl ⟨11, .guard⟩ (by simp) rfl) (.con (.bool false)) (vq4 HV rfl) _ rfl
             refine wpOp_step rfl fun K hK => ?_
             go_simp
             exact hK _ _ ⟨Xd, Xe, Xf, Xg, Xh, Xi, Xj, Xk, Xl, Xm, Xn, _, Xp, Xq, Xr, Xs, Xt, _, Xv, Xw, Xx, Xy, Xz, XA, XB, XC, XD, XE, XF, XG, XH, XI, XJ, XK, XL, XM, rfl, h.same 17 _ .any (vq4 HV rfl) trivial⟩
           · obtain rfl : Xo = .bool false := h.get 11 (hw _ rfl ⟨11, .guard⟩ (by simp) rfl) (.con (.bool false)) (vq4 HV rfl) _ rfl
             refine wpOp_step rfl fun K hK => ?_
             go_simp
             exact hK _ _ ⟨Xd, Xe, Xf, Xg, Xh, Xi, Xj, Xk, Xl, Xm, Xn, _, Xp, Xq, Xr, Xs, Xt, Xu, _, Xw, Xx, Xy, Xz, XA, XB, XC, XD, XE, XF, XG, XH, XI, XJ, XK, XL, XM, rfl, h.same 18 _ .any (vq4 HV rfl) trivial⟩
           · obtain rfl : Xo = .bool false := h.get 11 (hw _ rfl ⟨11, .guard⟩ (by simp) rfl) (.con (.bool false)) (vq4 HV rfl) _ rfl
             refine wpOp_step rfl fun K hK => ?_
             go_simp
             exact hK _ _ ⟨Xd, Xe, Xf, Xg, Xh, Xi, Xj, Xk, Xl, Xm, Xn, _, Xp, Xq, Xr, Xs, Xt, Xu, Xv, _, Xx, Xy, Xz, XA, XB, XC, XD, XE, XF, XG, XH, XI, XJ, XK, XL, XM, rfl, h.same 19 _ .any (vq4 HV rfl) trivial⟩
           · obtain rfl : Xo = .bool false := h.get 11 (hw _ rfl ⟨11, .guard⟩ (by simp) rfl) (.con (.bool false)) (vq4 HV rfl) _ rfl
             refine wpOp_step rfl fun K hK => ?_
             go_simp
             exact hK _ _ ⟨Xd, Xe, Xf, Xg, Xh, Xi, Xj, Xk, Xl, Xm, Xn, _, Xp, Xq, Xr, Xs, Xt, Xu, Xv, Xw, _, Xy, Xz, XA, XB, XC, XD, XE, XF, XG, XH, XI, XJ, XK, XL, XM, rfl, h.same 20 _ .any (vq4 HV rfl) trivial⟩
           · obtain rfl : Xo = .bool false := h.get 11 (hw _ rfl ⟨11, .guard⟩ (by simp) rfl) (.con (.bool false)) (vq4 HV rfl) _ rfl
             refine wpOp_step rfl fun K hK => ?_
             go_simp
             exact hK _ _ ⟨Xd, Xe, Xf, Xg, Xh, Xi, Xj, Xk, Xl, Xm, Xn, _, Xp, Xq, Xr, Xs, Xt, Xu, Xv, Xw, Xx, _, Xz, XA, XB, XC, XD, XE, XF, XG, XH, XI, XJ, XK, XL, XM, rfl, h.same 21 _ .any (vq4 HV rfl) trivial⟩
           · obtain rfl : Xo = .bool false := h.get 11 (hw _ rfl ⟨11, .guard⟩ (by simp) rfl) (.con (.bool false)) (vq4 HV rfl) _ rfl
             refine wpOp_step rfl fun K hK => ?_
             go_simp
             exact hK _ _ ⟨Xd, Xe, Xf, Xg, Xh, Xi, Xj, Xk, Xl, Xm, Xn, _, Xp, Xq, Xr, Xs, Xt, Xu, Xv, Xw, Xx, Xy, _, XA, XB, XC, XD, XE, XF, XG, XH, XI, XJ, XK, XL, XM, rfl, h.same 22 _ .any (vq4 HV rfl) trivial⟩
           · obtain rfl : Xo = .bool false := h.get 11 (hw _ rfl ⟨11, .data⟩ (by simp) rfl) (.con (.bool false)) (vq4 HV rfl) _ rfl
             refine wpOp_step rfl fun K hK => ?_
             go_simp
             exact hK _ _ ⟨Xd, Xe, Xf, Xg, Xh, Xi, Xj, Xk, Xl, Xm, Xn, _, Xp, Xq, Xr, Xs, Xt, Xu, Xv, Xw, Xx, Xy, Xz, _, XB, XC, XD, XE, XF, XG, XH, XI, XJ, XK, XL, XM, rfl, h.same 23 _ (.con (.bool false)) (vq4 HV rfl) rfl⟩
           · obtain rfl : XA = .bool false := h.get 23 (hw _ rfl ⟨23, .data⟩ (by simp) rfl) (.con (.bool false)) (vq4 HV rfl) _ rfl
             refine wpOp_step rfl fun K hK => ?_
             go_simp
             exact hK _ _ ⟨Xd, Xe, Xf, Xg, Xh, Xi, Xj, Xk, Xl, Xm, Xn, Xo, Xp, Xq, Xr, Xs, Xt, Xu, Xv, Xw, Xx, Xy, Xz, _, _, XC, XD, XE, XF, XG, XH, XI, XJ, XK, XL, XM, rfl, h.same 24 _ (.con (.bool false)) (vq4 HV rfl) rfl⟩
           · obtain rfl : XB = .bool false := h.get 24 (hw _ rfl ⟨24, .guard⟩ (by simp) rfl) (.con (.bool false)) (vq4 HV rfl) _ rfl
             refine wpOp_step rfl fun K hK => ?_
             go_simp
             exact hK _ _ ⟨Xd, Xe, Xf, Xg, Xh, Xi, Xj, Xk, Xl, Xm, Xn, Xo, Xp, Xq, Xr, Xs, Xt, Xu, Xv, Xw, Xx, Xy, Xz, XA, _, _, XD, XE, XF, XG, XH, XI, XJ, XK, XL, XM, rfl, h.same 25 _ .any (vq4 HV rfl) trivial⟩
           · obtain rfl : XB = .bool false := h.get 24 (hw _ rfl ⟨24, .guard⟩ (by simp) rfl) (.con (.bool false)) (vq4 HV rfl) _ rfl
             refine wpOp_step rfl fun K hK => ?_
             go_simp
             exact hK _ _ ⟨Xd, Xe, Xf, Xg, Xh, Xi, Xj, Xk, Xl, Xm, Xn, Xo, Xp, Xq, Xr, Xs, Xt, Xu, Xv, Xw, Xx, Xy, Xz, XA, _, XC, _, XE, XF, XG, XH, XI, XJ, XK, XL, XM, rfl, h.same 26 _ .any (vq4 HV rfl) trivial⟩
           · obtain rfl : XB = .bool false := h.get 24 (hw _ rfl ⟨24, .guard⟩ (by simp) rfl) (.con (.bool false)) (vq4 HV rfl) _ rfl
             refine wpOp_step rfl fun K hK => ?_
             go_simp
             exact hK _ _ ⟨Xd, Xe, Xf, Xg, Xh, Xi, Xj, Xk, Xl, Xm, Xn, Xo, Xp, Xq, Xr, Xs, Xt, Xu, Xv, Xw, Xx, Xy, Xz, XA, _, XC, XD, _, XF, XG, XH, XI, XJ, XK, XL, XM, rfl, h.same 27 _ .any (vq4 HV rfl) trivial⟩
           · obtain rfl : XB = .bool false := h.get 24 (hw _ rfl ⟨24, .guard⟩ (by simp) rfl) (.con (.bool false)) (vq4 HV rfl) _ rfl
             refine wpOp_step rfl fun K hK => ?_
             go_simp
             exact hK _ _ ⟨Xd, Xe, Xf, Xg, Xh, Xi, Xj, Xk, Xl, Xm, Xn, Xo, Xp, Xq, Xr, Xs, Xt, Xu, Xv, Xw, Xx, Xy, Xz, XA, _, XC, XD, XE, _, XG, XH, XI, XJ, XK, XL, XM, rfl, h.same 28 _ .any (vq4 HV rfl) trivial⟩
           · obtain rfl : XB = .bool false := h.get 24 (hw _ rfl ⟨24, .guard⟩ (by simp) rfl) (.con (.bool false)) (vq4 HV rfl) _ rfl
             refine wpOp_step rfl fun K hK => ?_
             go_simp
             exact hK _ _ ⟨Xd, Xe, Xf, Xg, Xh, Xi, Xj, Xk, Xl, Xm, Xn, Xo, Xp, Xq, Xr, Xs, Xt, Xu, Xv, Xw, Xx, Xy, Xz, XA, _, XC, XD, XE, XF, _, XH, XI, XJ, XK, XL, XM, rfl, h.same 29 _ .any (vq4 HV rfl) trivial⟩
           · obtain rfl : XB = .bool false := h.get 24 (hw _ rfl ⟨24, .guard⟩ (by simp) rfl) (.con (.bool false)) (vq4 HV rfl) _ rfl
             refine wpOp_step rfl fun K hK => ?_
             go_simp
             exact hK _ _ ⟨Xd, Xe, Xf, Xg, Xh, Xi, Xj, Xk, Xl, Xm, Xn, Xo, Xp, Xq, Xr, Xs, Xt, Xu, Xv, Xw, Xx, Xy, Xz, XA, _, XC, XD, XE, XF, XG, _, XI, XJ, XK, XL, XM, rfl, h.same 30 _ .any (vq4 HV rfl) trivial⟩
           · obtain rfl : XB = .bool false := h.get 24 (hw _ rfl ⟨24, .guard⟩ (by simp) rfl) (.con (.bool false)) (vq4 HV rfl) _ rfl
             refine wpOp_step rfl fun K hK => ?_
             go_simp
             exact hK _ _ ⟨Xd, Xe, Xf, Xg, Xh, Xi, Xj, Xk, Xl, Xm, Xn, Xo, Xp, Xq, Xr, Xs, Xt, Xu, Xv, Xw, Xx, Xy, Xz, XA, _, XC, XD, XE, XF, XG, XH, _, XJ, XK, XL, XM, rfl, h.same 31 _ .any (vq4 HV rfl) trivial⟩
           · obtain rfl : XB = .bool false := h.get 24 (hw _ rfl ⟨24, .guard⟩ (by simp) rfl) (.con (.bool false)) (vq4 HV rfl) _ rfl
             refine wpOp_step rfl fun K hK => ?_
             go_simp
             exact hK _ _ ⟨Xd, Xe, Xf, Xg, Xh, Xi, Xj, Xk, Xl, Xm, Xn, Xo, Xp, Xq, Xr, Xs, Xt, Xu, Xv, Xw, Xx, Xy, Xz, XA, _, XC, XD, XE, XF, XG, XH, XI, _, XK, XL, XM, rfl, h.same 32 _ .any (vq4 HV rfl) trivial⟩
           · obtain rfl : XB = .bool false := h.get 24 (hw _ rfl ⟨24, .guard⟩ (by simp) rfl) (.con (.bool false)) (vq4 HV rfl) _ rfl
             refine wpOp_step rfl fun K hK => ?_
             go_simp
             exact hK _ _ ⟨Xd, Xe, Xf, Xg, Xh, Xi, Xj, Xk, Xl, Xm, Xn, Xo, Xp, Xq, Xr, Xs, Xt, Xu, Xv, Xw, Xx, Xy, Xz, XA, _, XC, XD, XE, XF, XG, XH, XI, XJ, _, XL, XM, rfl, h.same 33 _ .any (vq4 HV rfl) trivial⟩
           · obtain rfl : XB = .bool false := h.get 24 (hw _ rfl ⟨24, .chain⟩ (by simp) rfl) (.con (.bool false)) (vq4 HV rfl) _ rfl
             refine wpOp_step rfl fun K hK => ?_
             go_simp
             exact hK _ _ ⟨Xd, Xe, Xf, Xg, Xh, Xi, Xj, Xk, Xl, Xm, Xn, Xo, Xp, Xq, Xr, Xs, Xt, Xu, Xv, Xw, Xx, Xy, Xz, XA, _, XC, XD, XE, XF, XG, XH, XI, XJ, XK, _, XM, rfl, h.same 34 _ .any (vq4 HV rfl) trivial⟩
           · obtain rfl : XB = .bool false := h.get 24 (hw _ rfl ⟨24, .guard⟩ (by simp) rfl) (.con (.bool false)) (vq4 HV rfl) _ rfl
             refine wpOp_step rfl fun K hK => ?_
             go_simp
             exact hK _ _ ⟨Xd, Xe, Xf, Xg, Xh, Xi, Xj, Xk, Xl, Xm, Xn, Xo, Xp, Xq, Xr, Xs, Xt, Xu, Xv, Xw, Xx, Xy, Xz, XA, _, XC, XD, XE, XF, XG, XH, XI, XJ, XK, XL, _, rfl, h.same 35 _ .any (vq4 HV rfl) trivial⟩
           · omega
         case last =>
           rintro d a' w' hall ⟨Xd, Xe, Xf, Xg, Xh, Xi, Xj, Xk, Xl, Xm, Xn, Xo, Xp, Xq, Xr, Xs, Xt, Xu, Xv, Xw, Xx, Xy, Xz, XA, XB, XC, XD, XE, XF, XG, XH, XI, XJ, XK, XL, XM, rfl, h⟩
           have hle := h.1
           obtain rfl : XB = .bool false := h.get 24 (hall _ (by omega)) (.con (.bool false)) (vq4 HV rfl) _ rfl
           have HLE := Lib.hid hle
           clear h hall hle HV
           go_wp2
           go_roundw
           case rel =>
             refine ⟨k + 1, by omega, by go_num, fun j hj hj2 => ?_, HBR.out.trans (HLE.out.mono HBR.out.size)⟩
             by_cases e : j = k
             · subst e; rw [← HX.out]; exact fun h => HT0.out h.1
             · exact HNO.out j (by omega) hj2
           case measure => simp [intOf]; omega
       have d0 : (x0.toList == si.toList) = true := eq_yes t0
       have HT0 := Lib.hid t0
       clear t0
       by_cases t1 : x1 = sg
       case neg =>
         have d1 : (x1.toList == sg.toList) = false := eq_no t1
         have HT1 := Lib.hid t1
         clear t1
         go_upto_region 9 with fail
         clear v0 v1
         obtain ⟨V, hV⟩ : ∃ V : List MP, V = [.con (.pointer (some ⟨p, 0, none⟩)), .con (.pointer (some ⟨p, 0, none⟩)), .con (.pointer (some ⟨p, 1, none⟩)), .con (.slice (some ⟨b, off, none⟩) l.length c), .con (.int .i64 (k : Int)), .con (.pointer (some ⟨b, off + k * 3, none⟩)), .con (.pointer (some ⟨b, off + k * 3, none⟩)), .con (.string x0), .con (.pointer (some ⟨w.heap.size + 1, 0, none⟩)), .con (.string si), .con (.bool true), .con (.bool true), .con (.pointer (some ⟨p, 0, none⟩)), .con (.pointer (some ⟨p, 0, none⟩)), .con (.pointer (some ⟨p, 1, none⟩)), .con (.slice (some ⟨b, off, none⟩) l.length c), .con (.int .i64 (k : Int)), .con (.pointer (some ⟨b, off + k * 3, none⟩)), .con (.pointer (some ⟨b, off + k * 3 + 1, none⟩)), .con (.string x1), .con (.pointer (some ⟨w.heap.size + 1, 1, none⟩)), .con (.string sg), .con (.bool false), .con (.bool false), .con (.bool false), .any, .any, .any, .any, .any, .any, .any, .any, .any, .any, .any] := ⟨_, rfl⟩
         have HV := Lib.hid hV
         clear hV
         refine wp_region_inv 36 (fun d a' w' => ∃ Xd Xe Xf Xg Xh Xi Xj Xk Xl Xm Xn Xo Xp Xq Xr Xs Xt Xu Xv Xw Xx Xy Xz XA XB XC XD XE XF XG XH XI XJ XK XL XM, a' = ⟨#[.pointer (some ⟨p, 0, none⟩), .agg #[.string ks, .string kp], .agg #[.string si, .string sg], .string m, undef, .pointer (some ⟨w.heap.size, 0, none⟩), .pointer (some ⟨w.heap.size + 1, 0, none⟩), undef, u8, .string ID, .int .i64 0, .int .i64 (k : Int), .tuple #[.string ID, .int .i64 0], .agg #[.string ks, .string kp], .tuple #[.string ID, .int .i64 0], .string ID, .int .i64 0, .int .i64 0, .bool false, .bool false, .string ID, .pointer (some ⟨w.heap.size + 1, 0, none⟩), .string si, .bool false, .bool false, .bool false, .pointer (some ⟨w.heap.size + 1, 1, none⟩), .string sg, .bool true, .bool false, .bool false, .pointer (some ⟨p, 0, none⟩), .pointer (some ⟨p, 0, none⟩), .pointer (some ⟨p, 0, none⟩), .bool false, undef, undef, undef, undef, undef, undef, undef, undef, undef, undef, undef, .int .i64 (k : Int), .pointer (some ⟨p, 0, none⟩), .pointer (some ⟨p, 0, none⟩), .pointer (some ⟨p, 1, none⟩), .slice (some ⟨b, off, none⟩) l.length c, .int .i64 (l.length : Int), .bool true, u53, u54, Xd, Xe, Xf, Xg, Xh, Xi, Xj, Xk, Xl, Xm, Xn, Xo, Xp, Xq, Xr, Xs, Xt, Xu, Xv, Xw, Xx, Xy, Xz, XA, XB, XC, XD, XE, XF, XG, XH, XI, XJ, XK, XL, XM, u91], []⟩ ∧ RegI wr V d w' [Xd, Xe, Xf, Xg, Xh, Xi, Xj, Xk, Xl, Xm, Xn, Xo, Xp, Xq, Xr, Xs, Xt, Xu, Xv, Xw, Xx, Xy, Xz, XA, XB, XC, XD, XE, XF, XG, XH, XI, XJ, XK, XL, XM]) (by kernel_rfl) (by kernel_rfl) ?first ?step ?last
         case first => exact ⟨_, _, _, _, _, _, _, _, _, _, _, _, _, _, _, _, _, _, _, _, _, _, _, _, _, _, _, _, _, _, _, _, _, _, _, _, rfl, RegI.first _ _ _ (by rw [HV.out]; rfl)⟩
         case step =>
           rintro d a' w' ⟨Xd, Xe, Xf, Xg, Xh, Xi, Xj, Xk, Xl, Xm, Xn, Xo, Xp, Xq, Xr, Xs, Xt, Xu, Xv, Xw, Xx, Xy, Xz, XA, XB, XC, XD, XE, XF, XG, XH, XI, XJ, XK, XL, XM, rfl, h⟩ q hq hn hw
           rcases q with _ | _ | _ | _ | _ | _ | _ | _ | _ | _ | _ | _ | _ | _ | _ | _ | _ | _ | _ | _ | _ | _ | _ | _ | _ | _ | _ | _ | _ | _ | _ | _ | _ | _ | _ | _ | q
           · refine wpOp_step rfl fun K hK => ?_
             go_simp
             exact hK _ _ ⟨_, Xe, Xf, Xg, Xh, Xi, Xj, Xk, Xl, Xm, Xn, Xo, Xp, Xq, Xr, Xs, Xt, Xu, Xv, Xw, Xx, Xy, Xz, XA, XB, XC, XD, XE, XF, XG, XH, XI, XJ, XK, XL, XM, rfl, h.same 0 _ (.con (.pointer (some ⟨p, 0, none⟩))) (vq4 HV rfl) rfl⟩
           · obtain rfl : Xd = .pointer (some ⟨p, 0, none⟩) := h.get 0 (hw _ rfl ⟨0, .data⟩ (by simp) rfl) (.con (.pointer (some ⟨p, 0, none⟩))) (vq4 HV rfl) _ rfl
             refine wpOp_step rfl fun K hK => ?_
             go_simp
             exact hK _ _ ⟨_, _, Xf, Xg, Xh, Xi, Xj, Xk, Xl, Xm, Xn, Xo, Xp, Xq, Xr, Xs, Xt, Xu, Xv, Xw, Xx, Xy, Xz, XA, XB, XC, XD, XE, XF, XG, XH, XI, XJ, XK, XL, XM, rfl, h.same 1 _ (.con (.pointer (some ⟨p, 0, none⟩))) (vq4 HV rfl) rfl⟩
           · obtain rfl : Xe = .pointer (some ⟨p, 0, none⟩) := h.get 1 (hw _ rfl ⟨1, .data⟩ (by simp) rfl) (.con (.pointer (some ⟨p, 0, none⟩))) (vq4 HV rfl) _ rfl
             refine wpOp_step rfl fun K hK => ?_
             go_simp
             exact hK _ _ ⟨Xd, _, _, Xg, Xh, Xi, Xj, Xk, Xl, Xm, Xn, Xo, Xp, Xq, Xr, Xs, Xt, Xu, Xv, Xw, Xx, Xy, Xz, XA, XB, XC, XD, XE, XF, XG, XH, XI, XJ, XK, XL, XM, rfl, h.same 2 _ (.con (.pointer (some ⟨p, 1, none⟩))) (vq4 HV rfl) rfl⟩
           · obtain rfl : Xf = .pointer (some ⟨p, 1, none⟩) := h.get 2 (hw _ rfl ⟨2, .data⟩ (by simp) rfl) (.con (.pointer (some ⟨p, 1, none⟩))) (vq4 HV rfl) _ rfl
             obtain ⟨v0, v1, g0, g1, e0, e1, e2⟩ := HC.out w' h.1
             refine wpOp_step rfl fun K hK => ?_
             go_simp
             exact hK _ _ ⟨Xd, Xe, _, _, Xh, Xi, Xj, Xk, Xl, Xm, Xn, Xo, Xp, Xq, Xr, Xs, Xt, Xu, Xv, Xw, Xx, Xy, Xz, XA, XB, XC, XD, XE, XF, XG, XH, XI, XJ, XK, XL, XM, rfl, h.same 3 _ (.con (.slice (some ⟨b, off, none⟩) l.length c)) (vq4 HV rfl) rfl⟩
           · refine wpOp_step rfl fun K hK => ?_
             go_simp
             exact hK _ _ ⟨Xd, Xe, Xf, Xg, _, Xi, Xj, Xk, Xl, Xm, Xn, Xo, Xp, Xq, Xr, Xs, Xt, Xu, Xv, Xw, Xx, Xy, Xz, XA, XB, XC, XD, XE, XF, XG, XH, XI, XJ, XK, XL, XM, rfl, h.same 4 _ (.con (.int .i64 (k : Int))) (vq4 HV rfl) rfl⟩
           · obtain rfl : Xg = .slice (some ⟨b, off, none⟩) l.length c := h.get 3 (hw _ rfl ⟨3, .data⟩ (by simp) rfl) (.con (.slice (some ⟨b, off, none⟩) l.length c)) (vq4 HV rfl) _ rfl
             obtain rfl : Xh = .int .i64 (k : Int) := h.get 4 (hw _ rfl ⟨4, .data⟩ (by simp) rfl) (.con (.int .i64 (k : Int))) (vq4 HV rfl) _ rfl
             obtain ⟨v0, v1, g0, g1, e0, e1, e2⟩ := HC.out w' h.1
             refine wpOp_step rfl fun K hK => ?_
             go_simp
             exact hK _ _ ⟨Xd, Xe, Xf, _, _, _, Xj, Xk, Xl, Xm, Xn, Xo, Xp, Xq, Xr, Xs, Xt, Xu, Xv, Xw, Xx, Xy, Xz, XA, XB, XC, XD, XE, XF, XG, XH, XI, XJ, XK, XL, XM, rfl, h.same 5 _ (.con (.pointer (some ⟨b, off + k * 3, none⟩))) (vq4 HV rfl) rfl⟩
           · obtain rfl : Xi = .pointer (some ⟨b, off + k * 3, none⟩) := h.get 5 (hw _ rfl ⟨5, .data⟩ (by simp) rfl) (.con (.pointer (some ⟨b, off + k * 3, none⟩))) (vq4 HV rfl) _ rfl
             refine wpOp_step rfl fun K hK => ?_
             go_simp
             exact hK _ _ ⟨Xd, Xe, Xf, Xg, Xh, _, _, Xk, Xl, Xm, Xn, Xo, Xp, Xq, Xr, Xs, Xt, Xu, Xv, Xw, Xx, Xy, Xz, XA, XB, XC, XD, XE, XF, XG, XH, XI, XJ, XK, XL, XM, rfl, h.same 6 _ (.con (.pointer (some ⟨b, off + k * 3, none⟩))) (vq4 HV rfl) rfl⟩
           · obtain rfl : Xj = .pointer (some ⟨b, off + k * 3, none⟩) := h.get 6 (hw _ rfl ⟨6, .data⟩ (by simp) rfl) (.con (.pointer (some ⟨b, off + k * 3, none⟩))) (vq4 HV rfl) _ rfl
             obtain ⟨v0, v1, g0, g1, e0, e1, e2⟩ := HC.out w' h.1
             refine wpOp_step rfl fun K hK => ?_
             go_simp
             exact hK _ _ ⟨Xd, Xe, Xf, Xg, Xh, Xi, _, _, Xl, Xm, Xn, Xo, Xp, Xq, Xr, Xs, Xt, Xu, Xv, Xw, Xx, Xy, Xz, XA, XB, XC, XD, XE, XF, XG, XH, XI, XJ, XK, XL, XM, rfl, h.same 7 _ (.con (.string x0)) (vq4 HV rfl) rfl⟩
           · refine wpOp_step rfl fun K hK => ?_
             go_simp
             exact hK _ _ ⟨Xd, Xe, Xf, Xg, Xh, Xi, Xj, Xk, _, Xm, Xn, Xo, Xp, Xq, Xr, Xs, Xt, Xu, Xv, Xw, Xx, Xy, Xz, XA, XB, XC, XD, XE, XF, XG, XH, XI, XJ, XK, XL, XM, rfl, h.same 8 _ (.con (.pointer (some ⟨w.heap.size + 1, 0, none⟩))) (vq4 HV rfl) rfl⟩
           · obtain rfl : Xl = .pointer (some ⟨w.heap.size + 1, 0, none⟩) := h.get 8 (hw _ rfl ⟨8, .data⟩ (by simp) rfl) (.con (.pointer (some ⟨w.heap.size + 1, 0, none⟩))) (vq4 HV rfl) _ rfl
             obtain ⟨v0, v1, g0, g1, e0, e1, e2⟩ := HC.out w' h.1
             refine wpOp_step rfl fun K hK => ?_
             go_simp
             exact hK _ _ ⟨Xd, Xe, Xf, Xg, Xh, Xi, Xj, Xk, _, _, Xn, Xo, Xp, Xq, Xr, Xs, Xt, Xu, Xv, Xw, Xx, Xy, Xz, XA, XB, XC, XD, XE, XF, XG, XH, XI, XJ, XK, XL, XM, rfl, h.same 9 _ (.con (.string si)) (vq4 HV rfl) rfl⟩
           · obtain rfl : Xk = .string x0 := h.get 7 (hw _ rfl ⟨7, .data⟩ (by simp) rfl) (.con (.string x0)) (vq4 HV rfl) _ rfl
             obtain rfl : Xm = .string si := h.get 9 (hw _ rfl ⟨9, .data⟩ (by simp) rfl) (.con (.string si)) (vq4 HV rfl) _ rfl
             refine wpOp_step rfl fun K hK => ?_
             go_simp
             exact hK _ _ ⟨Xd, Xe, Xf, Xg, Xh, Xi, Xj, _, Xl, _, _, Xo, Xp, Xq, Xr, Xs, Xt, Xu, Xv, Xw, Xx, Xy, Xz, XA, XB, XC, XD, XE, XF, XG, XH, XI, XJ, XK, XL, XM, rfl, h.same 10 _ (.con (.bool true)) (vq4 HV rfl) rfl⟩
           · obtain rfl : Xn = .bool true := h.get 10 (hw _ rfl ⟨10, .data⟩ (by simp) rfl) (.con (.bool true)) (vq4 HV rfl) _ rfl
             refine wpOp_step rfl fun K hK => ?_
             go_simp
             exact hK _ _ ⟨Xd, Xe, Xf, Xg, Xh, Xi, Xj, Xk, Xl, Xm, _, _, Xp, Xq, Xr, Xs, Xt, Xu, Xv, Xw, Xx, Xy, Xz, XA, XB, XC, XD, XE, XF, XG, XH, XI, XJ, XK, XL, XM, rfl, h.same 11 _ (.con (.bool true)) (vq4 HV rfl) rfl⟩
           · obtain rfl : Xo = .bool true := h.get 11 (hw _ rfl ⟨11, .guard⟩ (by simp) rfl) (.con (.bool true)) (vq4 HV rfl) _ rfl
             refine wpOp_step rfl fun K hK => ?_
             go_simp
             exact hK _ _ ⟨Xd, Xe, Xf, Xg, Xh, Xi, Xj, Xk, Xl, Xm, Xn, _, _, Xq, Xr, Xs, Xt, Xu, Xv, Xw, Xx, Xy, Xz, XA, XB, XC, XD, XE, XF, XG, XH, XI, XJ, XK, XL, XM, rfl, h.same 12 _ (.con (.pointer (some ⟨p, 0, none⟩))) (vq4 HV rfl) rfl⟩
           · obtain rfl : Xo = .bool true := h.get 11 (hw _ rfl ⟨11, .guard⟩ (by simp) rfl) (.con (.bool true)) (vq4 HV rfl) _ rfl
             obtain rfl : Xp = .pointer (some ⟨p, 0, none⟩) := h.get 12 (hw _ rfl ⟨12, .data⟩ (by simp) rfl) (.con (.pointer (some ⟨p, 0, none⟩))) (vq4 HV rfl) _ rfl
             refine wpOp_step rfl fun K hK => ?_
             go_simp
             exact hK _ _ ⟨Xd, Xe, Xf, Xg, Xh, Xi, Xj, Xk, Xl, Xm, Xn, _, _, _, Xr, Xs, Xt, Xu, Xv, Xw, Xx, Xy, Xz, XA, XB, XC, XD, XE, XF, XG, XH, XI, XJ, XK, XL, XM, rfl, h.same 13 _ (.con (.pointer (some ⟨p, 0, none⟩))) (vq4 HV rfl) rfl⟩
           · obtain rfl : Xo = .bool true := h.get 11 (hw _ rfl ⟨11, .guard⟩ (by simp) rfl) (.con (.bool true)) (vq4 HV rfl) _ rfl
             obtain rfl : Xq = .pointer (some ⟨p, 0, none⟩) := h.get 13 (hw _ rfl ⟨13, .data⟩ (by simp) rfl) (.con (.pointer (some ⟨p, 0, none⟩))) (vq4 HV rfl) _ rfl
             refine wpOp_step rfl fun K hK => ?_
             go_simp
             exact hK _ _ ⟨Xd, Xe, Xf, Xg, Xh, Xi, Xj, Xk, Xl, Xm, Xn, _, Xp, _, _, Xs, Xt, Xu, Xv, Xw, Xx, Xy, Xz, XA, XB, XC, XD, XE, XF, XG, XH, XI, XJ, XK, XL, XM, rfl, h.same 14 _ (.con (.pointer (some ⟨p, 1, none⟩))) (vq4 HV rfl) rfl⟩
           · obtain rfl : Xo = .bool true := h.get 11 (hw _ rfl ⟨11, .guard⟩ (by simp) rfl) (.con (.bool true)) (vq4 HV rfl) _ rfl
             obtain rfl : Xr = .pointer (some ⟨p, 1, none⟩) := h.get 14 (hw _ rfl ⟨14, .data⟩ (by simp) rfl) (.con (.pointer (some ⟨p, 1, none⟩))) (vq4 HV rfl) _ rfl
             obtain ⟨v0, v1, g0, g1, e0, e1, e2⟩ := HC.out w' h.1
             refine wpOp_step rfl fun K hK => ?_
             go_simp
             exact hK _ _ ⟨Xd, Xe, Xf, Xg, Xh, Xi, Xj, Xk, Xl, Xm, Xn, _, Xp, Xq, _, _, Xt, Xu, Xv, Xw, Xx, Xy, Xz, XA, XB, XC, XD, XE, XF, XG, XH, XI, XJ, XK, XL, XM, rfl, h.same 15 _ (.con (.slice (some ⟨b, off, none⟩) l.length c)) (vq4 HV rfl) rfl⟩
           · obtain rfl : Xo = .bool true := h.get 11 (hw _ rfl ⟨11, .guard⟩ (by simp) rfl) (.con (.bool true)) (vq4 HV rfl) _ rfl
             refine wpOp_step rfl fun K hK => ?_
             go_simp
             exact hK _ _ ⟨Xd, Xe, Xf, Xg, Xh, Xi, Xj, Xk, Xl, Xm, Xn, _, Xp, Xq, Xr, Xs, _, Xu, Xv, Xw, Xx, Xy, Xz, XA, XB, XC, XD, XE, XF, XG, XH, XI, XJ, XK, XL, XM, rfl, h.same 16 _ (.con (.int .i64 (k : Int))) (vq4 HV rfl) rfl⟩
           · obtain rfl : Xo = .bool true := h.get 11 (hw _ rfl ⟨11, .guard⟩ (by simp) rfl) (.con (.bool true)) (vq4 HV rfl) _ rfl
             obtain rfl : Xs = .slice (some ⟨b, off, none⟩) l.length c := h.get 15 (hw _ rfl ⟨15, .data⟩ (by simp) rfl) (.con (.slice (some ⟨b, off, none⟩) l.length c)) (vq4 HV rfl) _ rfl
             obtain rfl : Xt = .int .i64 (k : Int) := h.get 16 (hw _ rfl ⟨16, .data⟩ (by simp) rfl) (.con (.int .i64 (k : Int))) (vq4 HV rfl) _ rfl
             obtain ⟨v0, v1, g0, g1, e0, e1, e2⟩ := HC.out w' h.1
             refine wpOp_step rfl fun K hK => ?_
             go_simp
             exact hK _ _ ⟨Xd, Xe, Xf, Xg, Xh, Xi, Xj, Xk, Xl, Xm, Xn, _, Xp, Xq, Xr, _, _, _, Xv, Xw, Xx, Xy, Xz, XA, XB, XC, XD, XE, XF, XG, XH, XI, XJ, XK, XL, XM, rfl, h.same 17 _ (.con (.pointer (some ⟨b, off + k * 3, none⟩))) (vq4 HV rfl) rfl⟩
           · obtain rfl : Xo = .bool true := h.get 11 (hw _ rfl ⟨11, .guard⟩ (by simp) rfl) (.con (.bool true)) (vq4 HV rfl) _ rfl
             obtain rfl : Xu = .pointer (some ⟨b, off + k * 3, none⟩) := h.get 17 (hw _ rfl ⟨17, .data⟩ (by simp) rfl) (.con (.pointer (some ⟨b, off + k * 3, none⟩))) (vq4 HV rfl) _ rfl
             refine wpOp_step rfl fun K hK => ?_
             go_simp
             exact hK _ _ ⟨Xd, Xe, Xf, Xg, Xh, Xi, Xj, Xk, Xl, Xm, Xn, _, Xp, Xq, Xr, Xs, Xt, _, _, Xw, Xx, Xy, Xz, XA, XB, XC, XD, XE, XF, XG, XH, XI, XJ, XK, XL, XM, rfl, h.same 18 _ (.con (.pointer (some ⟨b, off + k * 3 + 1, none⟩))) (vq4 HV rfl) rfl⟩
           · obtain rfl : Xo = .bool true := h.get 11 (hw _ rfl ⟨11, .guard⟩ (by simp) rfl) (.con (.bool true)) (vq4 HV rfl) _ rfl
             obtain rfl : Xv = .pointer (some ⟨b, off + k * 3 + 1, none⟩) := h.get 18 (hw _ rfl ⟨18, .data⟩ (by simp) rfl) (.con (.pointer (some ⟨b, off + k * 3 + 1, none⟩))) (vq4 HV rfl) _ rfl
             obtain ⟨v0, v1, g0, g1, e0, e1, e2⟩ := HC.out w' h.1
             refine wpOp_step rfl fun K hK => ?_
             go_simp
             exact hK _ _ ⟨Xd, Xe, Xf, Xg, Xh, Xi, Xj, Xk, Xl, Xm, Xn, _, Xp, Xq, Xr, Xs, Xt, Xu, _, _, Xx, Xy, Xz, XA, XB, XC, XD, XE, XF, XG, XH, XI, XJ, XK, XL, XM, rfl, h.same 19 _ (.con (.string x1)) (vq4 HV rfl) rfl⟩
           · obtain rfl : Xo = .bool true := h.get 11 (hw _ rfl ⟨11, .guard⟩ (by simp) rfl) (.con (.bool true)) (vq4 HV rfl) _ rfl
             refine wpOp_step rfl fun K hK => ?_
             go_simp
             exact hK _ _ ⟨Xd, Xe, Xf, Xg, Xh, Xi, Xj, Xk, Xl, Xm, Xn, _, Xp, Xq, Xr, Xs, Xt, Xu, Xv, Xw, _, Xy, Xz, XA, XB, XC, XD, XE, XF, XG, XH, XI, XJ, XK, XL, XM, rfl, h.same 20 _ (.con (.pointer (some ⟨w.heap.size + 1, 1, none⟩))) (vq4 HV rfl) rfl⟩
           · obtain rfl : Xo = .bool true := h.get 11 (hw _ rfl ⟨11, .guard⟩ (by simp) rfl) (.con (.bool true)) (vq4 HV rfl) _ rfl
             obtain rfl : Xx = .pointer (some ⟨w.heap.size + 1, 1, none⟩) := h.get 20 (hw _ rfl ⟨20, .data⟩ (by simp) rfl) (.con (.pointer (some ⟨w.heap.size + 1, 1, none⟩))) (vq4 HV rfl) _ rfl
             obtain ⟨v0, v1, g0, g1, e0, e1, e2⟩ := HC.out w' h.1
             refine wpOp_step rfl fun K hK => ?_
             go_simp
             exact hK _ _ ⟨Xd, Xe, Xf, Xg, Xh, Xi, Xj, Xk, Xl, Xm, Xn, _, Xp, Xq, Xr, Xs, Xt, Xu, Xv, Xw, _, _, Xz, XA, XB, XC, XD, XE, XF, XG, XH, XI, XJ, XK, XL, XM, rfl, h.same 21 _ (.con (.string sg)) (vq4 HV rfl) rfl⟩
           · obtain rfl : Xo = .bool true := h.get 11 (hw _ rfl ⟨11, .guard⟩ (by simp) rfl) (.con (.bool true)) (vq4 HV rfl) _ rfl
             obtain rfl : Xw = .string x1 := h.get 19 (hw _ rfl ⟨19, .data⟩ (by simp) rfl) (.con (.string x1)) (vq4 HV rfl) _ rfl
             obtain rfl : Xy = .string sg := h.get 21 (hw _ rfl ⟨21, .data⟩ (by simp) rfl) (.con (.string sg)) (vq4 HV rfl) _ rfl
             refine wpOp_step rfl fun K hK => ?_
             go_simp
             exact hK _ _ ⟨Xd, Xe, Xf, Xg, Xh, Xi, Xj, Xk, Xl, Xm, Xn, _, Xp, Xq, Xr, Xs, Xt, Xu, Xv, _, Xx, _, _, XA, XB, XC, XD, XE, XF, XG, XH, XI, XJ, XK, XL, XM, rfl, h.same 22 _ (.con (.bool false)) (vq4 HV rfl) rfl⟩
           · obtain rfl : Xo = .bool true := h.get 11 (hw _ rfl ⟨11, .data⟩ (by simp) rfl) (.con (.bool true)) (vq4 HV rfl) _ rfl
             obtain rfl : Xz = .bool false := h.get 22 (hw _ rfl ⟨22, .data⟩ (by simp) rfl) (.con (.bool false)) (vq4 HV rfl) _ rfl
             refine wpOp_step rfl fun K hK => ?_
             go_simp
             exact hK _ _ ⟨Xd, Xe, Xf, Xg, Xh, Xi, Xj, Xk, Xl, Xm, Xn, _, Xp, Xq, Xr, Xs, Xt, Xu, Xv, Xw, Xx, Xy, _, _, XB, XC, XD, XE, XF, XG, XH, XI, XJ, XK, XL, XM, rfl, h.same 23 _ (.con (.bool false)) (vq4 HV rfl) rfl⟩
           · obtain rfl : XA = .bool false := h.get 23 (hw _ rfl ⟨23, .data⟩ (by simp) rfl) (.con (.bool false)) (vq4 HV rfl) _ rfl
             refine wpOp_step rfl fun K hK => ?_
             go_simp
             exact hK _ _ ⟨Xd, Xe, Xf, Xg, Xh, Xi, Xj, Xk, Xl, Xm, Xn, Xo, Xp, Xq, Xr, Xs, Xt, Xu, Xv, Xw, Xx, Xy, Xz, _, _, XC, XD, XE, XF, XG, XH, XI, XJ, XK, XL, XM, rfl, h.same 24 _ (.con (.bool false)) (vq4 HV rfl) rfl⟩
           · obtain rfl : XB = .bool false := h.get 24 (hw _ rfl ⟨24, .guard⟩ (by simp) rfl) (.con (.bool false)) (vq4 HV rfl) _ rfl
             refine wpOp_step rfl fun K hK => ?_
             go_simp
             exact hK _ _ ⟨Xd, Xe, Xf, Xg, Xh, Xi, Xj, Xk, Xl, Xm, Xn, Xo, Xp, Xq, Xr, Xs, Xt, Xu, Xv, Xw, Xx, Xy, Xz, XA, _, _, XD, XE, XF, XG, XH, XI, XJ, XK, XL, XM, rfl, h.same 25 _ .any (vq4 HV rfl) trivial⟩
           · obtain rfl : XB = .bool false := h.get 24 (hw _ rfl ⟨24, .guard⟩ (by simp) rfl) (.con (.bool false)) (vq4 HV rfl) _ rfl
             refine wpOp_step rfl fun K hK => ?_
             go_simp
             exact hK _ _ ⟨Xd, Xe, Xf, Xg, Xh, Xi, Xj, Xk, Xl, Xm, Xn, Xo, Xp, Xq, Xr, Xs, Xt, Xu, Xv, Xw, Xx, Xy, Xz, XA, _, XC, _, XE, XF, XG, XH, XI, XJ, XK, XL, XM, rfl, h.same 26 _ .any (vq4 HV rfl) trivial⟩
           · obtain rfl : XB = .bool false := h.get 24 (hw _ rfl ⟨24, .guard⟩ (by simp) rfl) (.con (.bool false)) (vq4 HV rfl) _ rfl
             refine wpOp_step rfl fun K hK => ?_
             go_simp
             exact hK _ _ ⟨Xd, Xe, Xf, Xg, Xh, Xi, Xj, Xk, Xl, Xm, Xn, Xo, Xp, Xq, Xr, Xs, Xt, Xu, Xv, Xw, Xx, Xy, Xz, XA, _, XC, XD, _, XF, XG, XH, XI, XJ, XK, XL, XM, rfl, h.same 27 _ .any (vq4 HV rfl) trivial⟩
           · obtain rfl : XB = .bool false := h.get 24 (hw _ rfl ⟨24, .guard⟩ (by simp) rfl) (.con (.bool false)) (vq4 HV rfl) _ rfl
             refine wpOp_step rfl fun K hK => ?_
             go_simp
             exact hK _ _ ⟨Xd, Xe, Xf, Xg, Xh, Xi, Xj, Xk, Xl, Xm, Xn, Xo, Xp, Xq, Xr, Xs, Xt, Xu, Xv, Xw, Xx, Xy, Xz, XA, _, XC, XD, XE, _, XG, XH, XI, XJ, XK, XL, XM, rfl, h.same 28 _ .any (vq4 HV rfl) trivial⟩
           · obtain rfl : XB = .bool false := h.get 24 (hw _ rfl ⟨24, .guard⟩ (by simp) rfl) (.con (.bool false)) (vq4 HV rfl) _ rfl
             refine wpOp_step rfl fun K hK => ?_
             go_simp
             exact hK _ _ ⟨Xd, Xe, Xf, Xg, Xh, Xi, Xj, Xk, Xl, Xm, Xn, Xo, Xp, Xq, Xr, Xs, Xt, Xu, Xv, Xw, Xx, Xy, Xz, XA, _, XC, XD, XE, XF, _, XH, XI, XJ, XK, XL, XM, rfl, h.same 29 _ .any (vq4 HV rfl) trivial⟩
           · obtain rfl : XB = .bool false := h.get 24 (hw _ rfl ⟨24, .guard⟩ (by simp) rfl) (.con (.bool false)) (vq4 HV rfl) _ rfl
             refine wpOp_step rfl fun K hK => ?_
             go_simp
             exact hK _ _ ⟨Xd, Xe, Xf, Xg, Xh, Xi, Xj, Xk, Xl, Xm, Xn, Xo, Xp, Xq, Xr, Xs, Xt, Xu, Xv, Xw, Xx, Xy, Xz, XA, _, XC, XD, XE, XF, XG, _, XI, XJ, XK, XL, XM, rfl, h.same 30 _ .any (vq4 HV rfl) trivial⟩
           · obtain rfl : XB = .bool false := h.get 24 (hw _ rfl ⟨24, .guard⟩ (by simp) rfl) (.con (.bool false)) (vq4 HV rfl) _ rfl
             refine wpOp_step rfl fun K hK => ?_
             go_simp
             exact hK _ _ ⟨Xd, Xe, Xf, Xg, Xh, Xi, Xj, Xk, Xl, Xm, Xn, Xo, Xp, Xq, Xr, Xs, Xt, Xu, Xv, Xw, Xx, Xy, Xz, XA, _, XC, XD, XE, XF, XG, XH, _, XJ, XK, XL, XM, rfl, h.same 31 _ .any (vq4 HV rfl) trivial⟩
           · obtain rfl : XB = .bool false := h.get 24 (hw _ rfl ⟨24, .guard⟩ (by simp) rfl) (.con (.bool false)) (vq4 HV rfl) _ rfl
             refine wpOp_step rfl fun K hK => ?_
             go_simp
             exact hK _ _ ⟨Xd, Xe, Xf, Xg, Xh, Xi, Xj, Xk, Xl, Xm, Xn, Xo, Xp, Xq, Xr, Xs, Xt, Xu, Xv, Xw, Xx, Xy, Xz, XA, _, XC, XD, XE, XF, XG, XH, XI, _, XK, XL, XM, rfl, h.same 32 _ .any (vq4 HV rfl) trivial⟩
           · obtain rfl : XB = .bool false := h.get 24 (hw _ rfl ⟨24, .guard⟩ (by simp) rfl) (.con (.bool false)) (vq4 HV rfl) _ rfl
             refine wpOp_step rfl fun K hK => ?_
             go_simp
             exact hK _ _ ⟨Xd, Xe, Xf, Xg, Xh, Xi, Xj, Xk, Xl, Xm, Xn, Xo, Xp, Xq, Xr, Xs, Xt, Xu, Xv, Xw, Xx, Xy, Xz, XA, _, XC, XD, XE, XF, XG, XH, XI, XJ, _, XL, XM, rfl, h.same 33 _ .any (vq4 HV rfl) trivial⟩
           · obtain rfl : XB = .bool false := h.get 24 (hw _ rfl ⟨24, .chain⟩ (by simp) rfl) (.con (.bool false)) (vq4 HV rfl) _ rfl
             refine wpOp_step rfl fun K hK => ?_
             go_simp
             exact hK _ _ ⟨Xd, Xe, Xf, Xg, Xh, Xi, Xj, Xk, Xl, Xm, Xn, Xo, Xp, Xq, Xr, Xs, Xt, Xu, Xv, Xw, Xx, Xy, Xz, XA, _, XC, XD, XE, XF, XG, XH, XI, XJ, XK, _, XM, rfl, h.same 34 _ .any (vq4 HV rfl) trivial⟩
           · obtain rfl : XB = .bool false := h.get 24 (hw _ rfl ⟨24, .guard⟩ (by simp) rfl) (.con (.bool false)) (vq4 HV rfl) _ rfl
             refine wpOp_step rfl fun K hK => ?_
             go_simp
             exact hK _ _ ⟨Xd, Xe, Xf, Xg, Xh, Xi, Xj, Xk, Xl, Xm, Xn, Xo, Xp, Xq, Xr, Xs, Xt, Xu, Xv, Xw, Xx, Xy, Xz, XA, _, XC, XD, XE, XF, XG, XH, XI, XJ, XK, XL, _, rfl, h.same 35 _ .any (vq4 HV rfl) trivial⟩
           · omega
         case last =>
           rintro d a' w' hall ⟨Xd, Xe, Xf, Xg, Xh, Xi, Xj, Xk, Xl, Xm, Xn, Xo, Xp, Xq, Xr, Xs, Xt, Xu, Xv, Xw, Xx, Xy, Xz, XA, XB, XC, XD, XE, XF, XG, XH, XI, XJ, XK, XL, XM, rfl, h⟩
           have hle := h.1
           obtain rfl : XB = .bool false := h.get 24 (hall _ (by omega)) (.con (.bool false)) (vq4 HV rfl) _ rfl
           have HLE := Lib.hid hle
           clear h hall hle HV
           go_wp2
           go_roundw
           case rel =>
             refine ⟨k + 1, by omega, by go_num, fun j hj hj2 => ?_, HBR.out.trans (HLE.out.mono HBR.out.size)⟩
             by_cases e : j = k
             · subst e; rw [← HX.out]; exact fun h => HT1.out h.2.1
             · exact HNO.out j (by omega) hj2
           case measure => simp [intOf]; omega
       have d1 : (x1.toList == sg.toList) = true := eq_yes t1
       have HT1 := Lib.hid t1
       clear t1
       obtain ⟨db, d2⟩ : ∃ db : Bool, (x2.toList == D.toList) = db := ⟨_, rfl⟩
       have HT2 := Lib.hid (show decide (x2 = D) = db by rw [← d2, beq_ba])
       have HKL := Lib.hid hlt
       go_upto_region 9 with fail
       clear v0 v1
       obtain ⟨V, hV⟩ : ∃ V : List MP, V = [.con (.pointer (some ⟨p, 0, none⟩)), .con (.pointer (some ⟨p, 0, none⟩)), .con (.pointer (some ⟨p, 1, none⟩)), .con (.slice (some ⟨b, off, none⟩) l.length c), .con (.int .i64 (k : Int)), .con (.pointer (some ⟨b, off + k * 3, none⟩)), .con (.pointer (some ⟨b, off + k * 3, none⟩)), .con (.string x0), .con (.pointer (some ⟨w.heap.size + 1, 0, none⟩)), .con (.string si), .con (.bool true), .con (.bool true), .con (.pointer (some ⟨p, 0, none⟩)), .con (.pointer (some ⟨p, 0, none⟩)), .con (.pointer (some ⟨p, 1, none⟩)), .con (.slice (some ⟨b, off, none⟩) l.length c), .con (.int .i64 (k : Int)), .con (.pointer (some ⟨b, off + k * 3, none⟩)), .con (.pointer (some ⟨b, off + k * 3 + 1, none⟩)), .con (.string x1), .con (.pointer (some ⟨w.heap.size + 1, 1, none⟩)), .con (.string sg), .con (.bool true), .con (.bool true), .con (.bool true), .con (.pointer (some ⟨p, 0, none⟩)), .con (.pointer (some ⟨p, 0, none⟩)), .con (.pointer (some ⟨p, 1, none⟩)), .con (.slice (some ⟨b, off, none⟩) l.length c), .con (.int .i64 (k : Int)), .con (.pointer (some ⟨b, off + k * 3, none⟩)), .con (.pointer (some ⟨b, off + k * 3 + 2, none⟩)), .con (.string x2), .con (.string m), .con (.string D), .con (.bool db)] := ⟨_, rfl⟩
       have HV := Lib.hid hV
       clear hV
       refine wp_region_inv 36 (fun d a' w' => ∃ Xd Xe Xf Xg Xh Xi Xj Xk Xl Xm Xn Xo Xp Xq Xr Xs Xt Xu Xv Xw Xx Xy Xz XA XB XC XD XE XF XG XH XI XJ XK XL XM, a' = ⟨#[.pointer (some ⟨p, 0, none⟩), .agg #[.string ks, .string kp], .agg #[.string si, .string sg], .string m, undef, .pointer (some ⟨w.heap.size, 0, none⟩), .pointer (some ⟨w.heap.size + 1, 0, none⟩), undef, u8, .string ID, .int .i64 0, .int .i64 (k : Int), .tuple #[.string ID, .int .i64 0], .agg #[.string ks, .string kp], .tuple #[.string ID, .int .i64 0], .string ID, .int .i64 0, .int .i64 0, .bool false, .bool false, .string ID, .pointer (some ⟨w.heap.size + 1, 0, none⟩), .string si, .bool false, .bool false, .bool false, .pointer (some ⟨w.heap.size + 1, 1, none⟩), .string sg, .bool true, .bool false, .bool false, .pointer (some ⟨p, 0, none⟩), .pointer (some ⟨p, 0, none⟩), .pointer (some ⟨p, 0, none⟩), .bool false, undef, undef, undef, undef, undef, undef, undef, undef, undef, undef, undef, .int .i64 (k : Int), .pointer (some ⟨p, 0, none⟩), .pointer (some ⟨p, 0, none⟩), .pointer (some ⟨p, 1, none⟩), .slice (some ⟨b, off, none⟩) l.length c, .int .i64 (l.length : Int), .bool true, u53, u54, Xd, Xe, Xf, Xg, Xh, Xi, Xj, Xk, Xl, Xm, Xn, Xo, Xp, Xq, Xr, Xs, Xt, Xu, Xv, Xw, Xx, Xy, Xz, XA, XB, XC, XD, XE, XF, XG, XH, XI, XJ, XK, XL, XM, u91], []⟩ ∧ RegI wr V d w' [Xd, Xe, Xf, Xg, Xh, Xi, Xj, Xk, Xl, Xm, Xn, Xo, Xp, Xq, Xr, Xs, Xt, Xu, Xv, Xw, Xx, Xy, Xz, XA, XB, XC, XD, XE, XF, XG, XH, XI, XJ, XK, XL, XM]) (by kernel_rfl) (by kernel_rfl) ?first ?step ?last
       case first => exact ⟨_, _, _, _, _, _, _, _, _, _, _, _, _, _, _, _, _, _, _, _, _, _, _, _, _, _, _, _, _, _, _, _, _, _, _, _, rfl, RegI.first _ _ _ (by rw [HV.out]; rfl)⟩
       case step =>
         rintro d a' w' ⟨Xd, Xe, Xf, Xg, Xh, Xi, Xj, Xk, Xl, Xm, Xn, Xo, Xp, Xq, Xr, Xs, Xt, Xu, Xv, Xw, Xx, Xy, Xz, XA, XB, XC, XD, XE, XF, XG, XH, XI, XJ, XK, XL, XM, rfl, h⟩ q hq hn hw
         rcases q with _ | _ | _ | _ | _ | _ | _ | _ | _ | _ | _ | _ | _ | _ | _ | _ | _ | _ | _ | _ | _ | _ | _ | _ | _ | _ | _ | _ | _ | _ | _ | _ | _ | _ | _ | _ | q
         · refine wpOp_step rfl fun K hK => ?_
           go_simp
           exact hK _ _ ⟨_, Xe, Xf, Xg, Xh, Xi, Xj, Xk, Xl, Xm, Xn, Xo, Xp, Xq, Xr, Xs, Xt, Xu, Xv, Xw, Xx, Xy, Xz, XA, XB, XC, XD, XE, XF, XG, XH, XI, XJ, XK, XL, XM, rfl, h.same 0 _ (.con (.pointer (some ⟨p, 0, none⟩))) (vq4 HV rfl) rfl⟩
         · obtain rfl : Xd = .pointer (some ⟨p, 0, none⟩) := h.get 0 (hw _ rfl ⟨0, .data⟩ (by simp) rfl) (.con (.pointer (some ⟨p, 0, none⟩))) (vq4 HV rfl) _ rfl
           refine wpOp_step rfl fun K hK => ?_
           go_simp
           exact hK _ _ ⟨_, _, Xf, Xg, Xh, Xi, Xj, Xk, Xl, Xm, Xn, Xo, Xp, Xq, Xr, Xs, Xt, Xu, Xv, Xw, Xx, Xy, Xz, XA, XB, XC, XD, XE, XF, XG, XH, XI, XJ, XK, XL, XM, rfl, h.same 1 _ (.con (.pointer (some ⟨p, 0, none⟩))) (vq4 HV rfl) rfl⟩
         · obtain rfl : Xe = .pointer (some ⟨p, 0, none⟩) := h.get 1 (hw _ rfl ⟨1, .data⟩ (by simp) rfl) (.con (.pointer (some ⟨p, 0, none⟩))) (vq4 HV rfl) _ rfl
           refine wpOp_step rfl fun K hK => ?_
           go_simp
           exact hK _ _ ⟨Xd, _, _, Xg, Xh, Xi, Xj, Xk, Xl, Xm, Xn, Xo, Xp, Xq, Xr, Xs, Xt, Xu, Xv, Xw, Xx, Xy, Xz, XA, XB, XC, XD, XE, XF, XG, XH, XI, XJ, XK, XL, XM, rfl, h.same 2 _ (.con (.pointer (some ⟨p, 1, none⟩))) (vq4 HV rfl) rfl⟩
         · obtain rfl : Xf = .pointer (some ⟨p, 1, none⟩) := h.get 2 (hw _ rfl ⟨2, .data⟩ (by simp) rfl) (.con (.pointer (some ⟨p, 1, none⟩))) (vq4 HV rfl) _ rfl
           obtain ⟨v0, v1, g0, g1, e0, e1, e2⟩ := HC.out w' h.1
           refine wpOp_step rfl fun K hK => ?_
           go_simp
           exact hK _ _ ⟨Xd, Xe, _, _, Xh, Xi, Xj, Xk, Xl, Xm, Xn, Xo, Xp, Xq, Xr, Xs, Xt, Xu, Xv, Xw, Xx, Xy, Xz, XA, XB, XC, XD, XE, XF, XG, XH, XI, XJ, XK, XL, XM, rfl, h.same 3 _ (.con (.slice (some ⟨b, off, none⟩) l.length c)) (vq4 HV rfl) rfl⟩
         · refine wpOp_step rfl fun K hK => ?_
           go_simp
           exact hK _ _ ⟨Xd, Xe, Xf, Xg, _, Xi, Xj, Xk, Xl, Xm, Xn, Xo, Xp, Xq, Xr, Xs, Xt, Xu, Xv, Xw, Xx, Xy, Xz, XA, XB, XC, XD, XE, XF, XG, XH, XI, XJ, XK, XL, XM, rfl, h.same 4 _ (.con (.int .i64 (k : Int))) (vq4 HV rfl) rfl⟩
         · obtain rfl : Xg = .slice (some ⟨b, off, none⟩) l.length c := h.get 3 (hw _ rfl ⟨3, .data⟩ (by simp) rfl) (.con (.slice (some ⟨b, off, none⟩) l.length c)) (vq4 HV rfl) _ rfl
           obtain rfl : Xh = .int .i64 (k : Int) := h.get 4 (hw _ rfl ⟨4, .data⟩ (by simp) rfl) (.con (.int .i64 (k : Int))) (vq4 HV rfl) _ rfl
           obtain ⟨v0, v1, g0, g1, e0, e1, e2⟩ := HC.out w' h.1
           refine wpOp_step rfl fun K hK => ?_
           go_simp
           exact hK _ _ ⟨Xd, Xe, Xf, _, _, _, Xj, Xk, Xl, Xm, Xn, Xo, Xp, Xq, Xr, Xs, Xt, Xu, Xv, Xw, Xx, Xy, Xz, XA, XB, XC, XD, XE, XF, XG, XH, XI, XJ, XK, XL, XM, rfl, h.same 5 _ (.con (.pointer (some ⟨b, off + k * 3, none⟩))) (vq4 HV rfl) rfl⟩
         · obtain rfl : Xi = .pointer (some ⟨b, off + k * 3, none⟩) := h.get 5 (hw _ rfl ⟨5, .data⟩ (by simp) rfl) (.con (.pointer (some ⟨b, off + k * 3, none⟩))) (vq4 HV rfl) _ rfl
           refine wpOp_step rfl fun K hK => ?_
           go_simp
           exact hK _ _ ⟨Xd, Xe, Xf, Xg, Xh, _, _, Xk, Xl, Xm, Xn, Xo, Xp, Xq, Xr, Xs, Xt, Xu, Xv, Xw, Xx, Xy, Xz, XA, XB, XC, XD, XE, XF, XG, XH, XI, XJ, XK, XL, XM, rfl, h.same 6 _ (.con (.pointer (some ⟨b, off + k * 3, none⟩))) (vq4 HV rfl) rfl⟩
         · obtain rfl : Xj = .pointer (some ⟨b, off + k * 3, none⟩) := h.get 6 (hw _ rfl ⟨6, .data⟩ (by simp) rfl) (.con (.pointer (some ⟨b, off + k * 3, none⟩))) (vq4 HV rfl) _ rfl
           obtain ⟨v0, v1, g0, g1, e0, e1, e2⟩ := HC.out w' h.1
           refine wpOp_step rfl fun K hK => ?_
           go_simp
           exact hK _ _ ⟨Xd, Xe, Xf, Xg, Xh, Xi, _, _, Xl, Xm, Xn, Xo, Xp, Xq, Xr, Xs, Xt, Xu, Xv, Xw, Xx, Xy, Xz, XA, XB, XC, XD, XE, XF, XG, XH, XI, XJ, XK, XL, XM, rfl, h.same 7 _ (.con (.string x0)) (vq4 HV rfl) rfl⟩
         · refine wpOp_step rfl fun K hK => ?_
           go_simp
           exact hK _ _ ⟨Xd, Xe, Xf, Xg, Xh, Xi, Xj, Xk, _, Xm, Xn, Xo, Xp, Xq, Xr, Xs, Xt, Xu, Xv, Xw, Xx, Xy, Xz, XA, XB, XC, XD, XE, XF, XG, XH, XI, XJ, XK, XL, XM, rfl, h.same 8 _ (.con (.pointer (some ⟨w.heap.size + 1, 0, none⟩))) (vq4 HV rfl) rfl⟩
         · obtain rfl : Xl = .pointer (some ⟨w.heap.size + 1, 0, none⟩) := h.get 8 (hw _ rfl ⟨8, .data⟩ (by simp) rfl) (.con (.pointer (some ⟨w.heap.size + 1, 0, none⟩))) (vq4 HV rfl) _ rfl
           obtain ⟨v0, v1, g0, g1, e0, e1, e2⟩ := HC.out w' h.1
           refine wpOp_step rfl fun K hK => ?_
           go_simp
           exact hK _ _ ⟨Xd, Xe, Xf, Xg, Xh, Xi, Xj, Xk, _, _, Xn, Xo, Xp, Xq, Xr, Xs, Xt, Xu, Xv, Xw, Xx, Xy, Xz, XA, XB, XC, XD, XE, XF, XG, XH, XI, XJ, XK, XL, XM, rfl, h.same 9 _ (.con (.string si)) (vq4 HV rfl) rfl⟩
         · obtain rfl : Xk = .string x0 := h.get 7 (hw _ rfl ⟨7, .data⟩ (by simp) rfl) (.con (.string x0)) (vq4 HV rfl) _ rfl
           obtain rfl : Xm = .string si := h.get 9 (hw _ rfl ⟨9, .data⟩ (by simp) rfl) (.con (.string si)) (vq4 HV rfl) _ rfl
           refine wpOp_step rfl fun K hK => ?_
           go_simp
           exact hK _ _ ⟨Xd, Xe, Xf, Xg, Xh, Xi, Xj, _, Xl, _, _, Xo, Xp, Xq, Xr, Xs, Xt, Xu, Xv, Xw, Xx, Xy, Xz, XA, XB, XC, XD, XE, XF, XG, XH, XI, XJ, XK, XL, XM, rfl, h.same 10 _ (.con (.bool true)) (vq4 HV rfl) rfl⟩
         · obtain rfl : Xn = .bool true := h.get 10 (hw _ rfl ⟨10, .data⟩ (by simp) rfl) (.con (.bool true)) (vq4 HV rfl) _ rfl
           refine wpOp_step rfl fun K hK => ?_
           go_simp
           exact hK _ _ ⟨Xd, Xe, Xf, Xg, Xh, Xi, Xj, Xk, Xl, Xm, _, _, Xp, Xq, Xr, Xs, Xt, Xu, Xv, Xw, Xx, Xy, Xz, XA, XB, XC, XD, XE, XF, XG, XH, XI, XJ, XK, XL, XM, rfl, h.same 11 _ (.con (.bool true)) (vq4 HV rfl) rfl⟩
         · obtain rfl : Xo = .bool true := h.get 11 (hw _ rfl ⟨11, .guard⟩ (by simp) rfl) (.con (.bool true)) (vq4 HV rfl) _ rfl
           refine wpOp_step rfl fun K hK => ?_
           go_simp
           exact hK _ _ ⟨Xd, Xe, Xf, Xg, Xh, Xi, Xj, Xk, Xl, Xm, Xn, _, _, Xq, Xr, Xs, Xt, Xu, Xv, Xw, Xx, Xy, Xz, XA, XB, XC, XD, XE, XF, XG, XH, XI, XJ, XK, XL, XM, rfl, h.same 12 _ (.con (.pointer (some ⟨p, 0, none⟩))) (vq4 HV rfl) rfl⟩
         · obtain rfl : Xo = .bool true := h.get 11 (hw _ rfl ⟨11, .guard⟩ (by simp) rfl) (.con (.bool true)) (vq4 HV rfl) _ rfl
           obtain rfl : Xp = .pointer (some ⟨p, 0, none⟩) := h.get 12 (hw _ rfl ⟨12, .data⟩ (by simp) rfl) (.con (.pointer (some ⟨p, 0, none⟩))) (vq4 HV rfl) _ rfl
           refine wpOp_step rfl fun K hK => ?_
           go_simp
           exact hK _ _ ⟨Xd, Xe, Xf, Xg, Xh, Xi, Xj, Xk, Xl, Xm, Xn, _, _, _, Xr, Xs, Xt, Xu, Xv, Xw, Xx, Xy, Xz, XA, XB, XC, XD, XE, XF, XG, XH, XI, XJ, XK, XL, XM, rfl, h.same 13 _ (.con (.pointer (some ⟨p, 0, none⟩))) (vq4 HV rfl) rfl⟩
         · obtain rfl : Xo = .bool true := h.get 11 (hw _ rfl ⟨11, .guard⟩ (by simp) rfl) (.con (.bool true)) (vq4 HV rfl) _ rfl
           obtain rfl : Xq = .pointer (some ⟨p, 0, none⟩) := h.get 13 (hw _ rfl ⟨13, .data⟩ (by simp) rfl) (.con (.pointer (some ⟨p, 0, none⟩))) (vq4 HV rfl) _ rfl
           refine wpOp_step rfl fun K hK => ?_
           go_simp
           exact hK _ _ ⟨Xd, Xe, Xf, Xg, Xh, Xi, Xj, Xk, Xl, Xm, Xn, _, Xp, _, _, Xs, Xt, Xu, Xv, Xw, Xx, Xy, Xz, XA, XB, XC, XD, XE, XF, XG, XH, XI, XJ, XK, XL, XM, rfl, h.same 14 _ (.con (.pointer (some ⟨p, 1, none⟩))) (vq4 HV rfl) rfl⟩
         · obtain rfl : Xo = .bool true := h.get 11 (hw _ rfl ⟨11, .guard⟩ (by simp) rfl) (.con (.bool true)) (vq4 HV rfl) _ rfl
           obtain rfl : Xr = .pointer (some ⟨p, 1, none⟩) := h.get 14 (hw _ rfl ⟨14, .data⟩ (by simp) rfl) (.con (.pointer (some ⟨p, 1, none⟩))) (vq4 HV rfl) _ rfl
           obtain ⟨v0, v1, g0, g1, e0, e1, e2⟩ := HC.out w' h.1
           refine wpOp_step rfl fun K hK => ?_
           go_simp
           exact hK _ _ ⟨Xd, Xe, Xf, Xg, Xh, Xi, Xj, Xk, Xl, Xm, Xn, _, Xp, Xq, _, _, Xt, Xu, Xv, Xw, Xx, Xy, Xz, XA, XB, XC, XD, XE, XF, XG, XH, XI, XJ, XK, XL, XM, rfl, h.same 15 _ (.con (.slice (some ⟨b, off, none⟩) l.length c)) (vq4 HV rfl) rfl⟩
         · obtain rfl : Xo = .bool true := h.get 11 (hw _ rfl ⟨11, .guard⟩ (by simp) rfl) (.con (.bool true)) (vq4 HV rfl) _ rfl
           refine wpOp_step rfl fun K hK => ?_
           go_simp
           exact hK _ _ ⟨Xd, Xe, Xf, Xg, Xh, Xi, Xj, Xk, Xl, Xm, Xn, _, Xp, Xq, Xr, Xs, _, Xu, Xv, Xw, Xx, Xy, Xz, XA, XB, XC, XD, XE, XF, XG, XH, XI, XJ, XK, XL, XM, rfl, h.same 16 _ (.con (.int .i64 (k : Int))) (vq4 HV rfl) rfl⟩
         · obtain rfl : Xo = .bool true := h.get 11 (hw _ rfl ⟨11, .guard⟩ (by simp) rfl) (.con (.bool true)) (vq4 HV rfl) _ rfl
           obtain rfl : Xs = .slice (some ⟨b, off, none⟩) l.length c := h.get 15 (hw _ rfl ⟨15, .data⟩ (by simp) rfl) (.con (.slice (some ⟨b, off, none⟩) l.length c)) (vq4 HV rfl) _ rfl
           obtain rfl : Xt = .int .i64 (k : Int) := h.get 16 (hw _ rfl ⟨16, .data⟩ (by simp) rfl) (.con (.int .i64 (k : Int))) (vq4 HV rfl) _ rfl
           obtain ⟨v0, v1, g0, g1, e0, e1, e2⟩ := HC.out w' h.1
           refine wpOp_step rfl fun K hK => ?_
           go_simp
           exact hK _ _ ⟨Xd, Xe, Xf, Xg, Xh, Xi, Xj, Xk, Xl, Xm, Xn, _, Xp, Xq, Xr, _, _, _, Xv, Xw, Xx, Xy, Xz, XA, XB, XC, XD, XE, XF, XG, XH, XI, XJ, XK, XL, XM, rfl, h.same 17 _ (.con (.pointer (some ⟨b, off + k * 3, none⟩))) (vq4 HV rfl) rfl⟩
         · obtain rfl : Xo = .bool true := h.get 11 (hw _ rfl ⟨11, .guard⟩ (by simp) rfl) (.con (.bool true)) (vq4 HV rfl) _ rfl
           obtain rfl : Xu = .pointer (some ⟨b, off + k * 3, none⟩) := h.get 17 (hw _ rfl ⟨17, .data⟩ (by simp) rfl) (.con (.pointer (some ⟨b, off + k * 3, none⟩))) (vq4 HV rfl) _ rfl
           refine wpOp_step rfl fun K hK => ?_
           go_simp
           exact hK _ _ ⟨Xd, Xe, Xf, Xg, Xh, Xi, Xj, Xk, Xl, Xm, Xn, _, Xp, Xq, Xr, Xs, Xt, _, _, Xw, Xx, Xy, Xz, XA, XB, XC, XD, XE, XF, XG, XH, XI, XJ, XK, XL, XM, rfl, h.same 18 _ (.con (.pointer (some ⟨b, off + k * 3 + 1, none⟩))) (vq4 HV rfl) rfl⟩
         · obtain rfl : Xo = .bool true := h.get 11 (hw _ rfl ⟨11, .guard⟩ (by simp) rfl) (.con (.bool true)) (vq4 HV rfl) _ rfl
           obtain rfl : Xv = .pointer (some ⟨b, off + k * 3 + 1, none⟩) := h.get 18 (hw _ rfl ⟨18, .data⟩ (by simp) rfl) (.con (.pointer (some ⟨b, off + k * 3 + 1, none⟩))) (vq4 HV rfl) _ rfl
           obtain ⟨v0, v1, g0, g1, e0, e1, e2⟩ := HC.out w' h.1
           refine wpOp_step rfl fun K hK => ?_
           go_simp
           exact hK _ _ ⟨Xd, Xe, Xf, Xg, Xh, Xi, Xj, Xk, Xl, Xm, Xn, _, Xp, Xq, Xr, Xs, Xt, Xu, _, _, Xx, Xy, Xz, XA, XB, XC, XD, XE, XF, XG, XH, XI, XJ, XK, XL, XM, rfl, h.same 19 _ (.con (.string x1)) (vq4 HV rfl) rfl⟩
         · obtain rfl : Xo = .bool true := h.get 11 (hw _ rfl ⟨11, .guard⟩ (by simp) rfl) (.con (.bool true)) (vq4 HV rfl) _ rfl
           refine wpOp_step rfl fun K hK => ?_
           go_simp
           exact hK _ _ ⟨Xd, Xe, Xf, Xg, Xh, Xi, Xj, Xk, Xl, Xm, Xn, _, Xp, Xq, Xr, Xs, Xt, Xu, Xv, Xw, _, Xy, Xz, XA, XB, XC, XD, XE, XF, XG, XH, XI, XJ, XK, XL, XM, rfl, h.same 20 _ (.con (.pointer (some ⟨w.heap.size + 1, 1, none⟩))) (vq4 HV rfl) rfl⟩
         · obtain rfl : Xo = .bool true := h.get 11 (hw _ rfl ⟨11, .guard⟩ (by simp) rfl) (.con (.bool true)) (vq4 HV rfl) _ rfl
           obtain rfl : Xx = .pointer (some ⟨w.heap.size + 1, 1, none⟩) := h.get 20 (hw _ rfl ⟨20, .data⟩ (by simp) rfl) (.con (.pointer (some ⟨w.heap.size + 1, 1, none⟩))) (vq4 HV rfl) _ rfl
           obtain ⟨v0, v1, g0, g1, e0, e1, e2⟩ := HC.out w' h.1
           refine wpOp_step rfl fun K hK => ?_
           go_simp
           exact hK _ _ ⟨Xd, Xe, Xf, Xg, Xh, Xi, Xj, Xk, Xl, Xm, Xn, _, Xp, Xq, Xr, Xs, Xt, Xu, Xv, Xw, _, _, Xz, XA, XB, XC, XD, XE, XF, XG, XH, XI, XJ, XK, XL, XM, rfl, h.same 21 _ (.con (.string sg)) (vq4 HV rfl) rfl⟩
         · obtain rfl : Xo = .bool true := h.get 11 (hw _ rfl ⟨11, .guard⟩ (by simp) rfl) (.con (.bool true)) (vq4 HV rfl) _ rfl
           obtain rfl : Xw = .string x1 := h.get 19 (hw _ rfl ⟨19, .data⟩ (by simp) rfl) (.con (.string x1)) (vq4 HV rfl) _ rfl
           obtain rfl : Xy = .string sg := h.get 21 (hw _ rfl ⟨21, .data⟩ (by simp) rfl) (.con (.string sg)) (vq4 HV rfl) _ rfl
           refine wpOp_step rfl fun K hK => ?_
           go_simp
           exact hK _ _ ⟨Xd, Xe, Xf, Xg, Xh, Xi, Xj, Xk, Xl, Xm, Xn, _, Xp, Xq, Xr, Xs, Xt, Xu, Xv, _, Xx, _, _, XA, XB, XC, XD, XE, XF, XG, XH, XI, XJ, XK, XL, XM, rfl, h.same 22 _ (.con (.bool true)) (vq4 HV rfl) rfl⟩
         · obtain rfl : Xo = .bool true := h.get 11 (hw _ rfl ⟨11, .data⟩ (by simp) rfl) (.con (.bool true)) (vq4 HV rfl) _ rfl
           obtain rfl : Xz = .bool true := h.get 22 (hw _ rfl ⟨22, .data⟩ (by simp) rfl) (.con (.bool true)) (vq4 HV rfl) _ rfl
           refine wpOp_step rfl fun K hK => ?_
           go_simp
           exact hK _ _ ⟨Xd, Xe, Xf, Xg, Xh, Xi, Xj, Xk, Xl, Xm, Xn, _, Xp, Xq, Xr, Xs, Xt, Xu, Xv, Xw, Xx, Xy, _, _, XB, XC, XD, XE, XF, XG, XH, XI, XJ, XK, XL, XM, rfl, h.same 23 _ (.con (.bool true)) (vq4 HV rfl) rfl⟩
         · obtain rfl : XA = .bool true := h.get 23 (hw _ rfl ⟨23, .data⟩ (by simp) rfl) (.con (.bool true)) (vq4 HV rfl) _ rfl
           refine wpOp_step rfl fun K hK => ?_
           go_simp
           exact hK _ _ ⟨Xd, Xe, Xf, Xg, Xh, Xi, Xj, Xk, Xl, Xm, Xn, Xo, Xp, Xq, Xr, Xs, Xt, Xu, Xv, Xw, Xx, Xy, Xz, _, _, XC, XD, XE, XF, XG, XH, XI, XJ, XK, XL, XM, rfl, h.same 24 _ (.con (.bool true)) (vq4 HV rfl) rfl⟩
         · obtain rfl : XB = .bool true := h.get 24 (hw _ rfl ⟨24, .guard⟩ (by simp) rfl) (.con (.bool true)) (vq4 HV rfl) _ rfl
           refine wpOp_step rfl fun K hK => ?_
           go_simp
           exact hK _ _ ⟨Xd, Xe, Xf, Xg, Xh, Xi, Xj, Xk, Xl, Xm, Xn, Xo, Xp, Xq, Xr, Xs, Xt, Xu, Xv, Xw, Xx, Xy, Xz, XA, _, _, XD, XE, XF, XG, XH, XI, XJ, XK, XL, XM, rfl, h.same 25 _ (.con (.pointer (some ⟨p, 0, none⟩))) (vq4 HV rfl) rfl⟩
         · obtain rfl : XB = .bool true := h.get 24 (hw _ rfl ⟨24, .guard⟩ (by simp) rfl) (.con (.bool true)) (vq4 HV rfl) _ rfl
           obtain rfl : XC = .pointer (some ⟨p, 0, none⟩) := h.get 25 (hw _ rfl ⟨25, .data⟩ (by simp) rfl) (.con (.pointer (some ⟨p, 0, none⟩))) (vq4 HV rfl) _ rfl
           refine wpOp_step rfl fun K hK => ?_
           go_simp
           exact hK _ _ ⟨Xd, Xe, Xf, Xg, Xh, Xi, Xj, Xk, Xl, Xm, Xn, Xo, Xp, Xq, Xr, Xs, Xt, Xu, Xv, Xw, Xx, Xy, Xz, XA, _, _, _, XE, XF, XG, XH, XI, XJ, XK, XL, XM, rfl, h.same 26 _ (.con (.pointer (some ⟨p, 0, none⟩))) (vq4 HV rfl) rfl⟩
         · obtain rfl : XB = .bool true := h.get 24 (hw _ rfl ⟨24, .guard⟩ (by simp) rfl) (.con (.bool true)) (vq4 HV rfl) _ rfl
           obtain rfl : XD = .pointer (some ⟨p, 0, none⟩) := h.get 26 (hw _ rfl ⟨26, .data⟩ (by simp) rfl) (.con (.pointer (some ⟨p, 0, none⟩))) (vq4 HV rfl) _ rfl
           refine wpOp_step rfl fun K hK => ?_
           go_simp
           exact hK _ _ ⟨Xd, Xe, Xf, Xg, Xh, Xi, Xj, Xk, Xl, Xm, Xn, Xo, Xp, Xq, Xr, Xs, Xt, Xu, Xv, Xw, Xx, Xy, Xz, XA, _, XC, _, _, XF, XG, XH, XI, XJ, XK, XL, XM, rfl, h.same 27 _ (.con (.pointer (some ⟨p, 1, none⟩))) (vq4 HV rfl) rfl⟩
         · obtain rfl : XB = .bool true := h.get 24 (hw _ rfl ⟨24, .guard⟩ (by simp) rfl) (.con (.bool true)) (vq4 HV rfl) _ rfl
           obtain rfl : XE = .pointer (some ⟨p, 1, none⟩) := h.get 27 (hw _ rfl ⟨27, .data⟩ (by simp) rfl) (.con (.pointer (some ⟨p, 1, none⟩))) (vq4 HV rfl) _ rfl
           obtain ⟨v0, v1, g0, g1, e0, e1, e2⟩ := HC.out w' h.1
           refine wpOp_step rfl fun K hK => ?_
           go_simp
           exact hK _ _ ⟨Xd, Xe, Xf, Xg, Xh, Xi, Xj, Xk, Xl, Xm, Xn, Xo, Xp, Xq, Xr, Xs, Xt, Xu, Xv, Xw, Xx, Xy, Xz, XA, _, XC, XD, _, _, XG, XH, XI, XJ, XK, XL, XM, rfl, h.same 28 _ (.con (.slice (some ⟨b, off, none⟩) l.length c)) (vq4 HV rfl) rfl⟩
         · obtain rfl : XB = .bool true := h.get 24 (hw _ rfl ⟨24, .guard⟩ (by simp) rfl) (.con (.bool true)) (vq4 HV rfl) _ rfl
           refine wpOp_step rfl fun K hK => ?_
           go_simp
           exact hK _ _ ⟨Xd, Xe, Xf, Xg, Xh, Xi, Xj, Xk, Xl, Xm, Xn, Xo, Xp, Xq, Xr, Xs, Xt, Xu, Xv, Xw, Xx, Xy, Xz, XA, _, XC, XD, XE, XF, _, XH, XI, XJ, XK, XL, XM, rfl, h.same 29 _ (.con (.int .i64 (k : Int))) (vq4 HV rfl) rfl⟩
         · obtain rfl : XB = .bool true := h.get 24 (hw _ rfl ⟨24, .guard⟩ (by simp) rfl) (.con (.bool true)) (vq4 HV rfl) _ rfl
           obtain rfl : XF = .slice (some ⟨b, off, none⟩) l.length c := h.get 28 (hw _ rfl ⟨28, .data⟩ (by simp) rfl) (.con (.slice (some ⟨b, off, none⟩) l.length c)) (vq4 HV rfl) _ rfl
           obtain rfl : XG = .int .i64 (k : Int) := h.get 29 (hw _ rfl ⟨29, .data⟩ (by simp) rfl) (.con (.int .i64 (k : Int))) (vq4 HV rfl) _ rfl
           obtain ⟨v0, v1, g0, g1, e0, e1, e2⟩ := HC.out w' h.1
           refine wpOp_step rfl fun K hK => ?_
           go_simp
           exact hK _ _ ⟨Xd, Xe, Xf, Xg, Xh, Xi, Xj, Xk, Xl, Xm, Xn, Xo, Xp, Xq, Xr, Xs, Xt, Xu, Xv, Xw, Xx, Xy, Xz, XA, _, XC, XD, XE, _, _, _, XI, XJ, XK, XL, XM, rfl, h.same 30 _ (.con (.pointer (some ⟨b, off + k * 3, none⟩))) (vq4 HV rfl) rfl⟩
         · obtain rfl : XB = .bool true := h.get 24 (hw _ rfl ⟨24, .guard⟩ (by simp) rfl) (.con (.bool true)) (vq4 HV rfl) _ rfl
           obtain rfl : XH = .pointer (some ⟨b, off + k * 3, none⟩) := h.get 30 (hw _ rfl ⟨30, .data⟩ (by simp) rfl) (.con (.pointer (some ⟨b, off + k * 3, none⟩))) (vq4 HV rfl) _ rfl
           refine wpOp_step rfl fun K hK => ?_
           go_simp
           exact hK _ _ ⟨Xd, Xe, Xf, Xg, Xh, Xi, Xj, Xk, Xl, Xm, Xn, Xo, Xp, Xq, Xr, Xs, Xt, Xu, Xv, Xw, Xx, Xy, Xz, XA, _, XC, XD, XE, XF, XG, _, _, XJ, XK, XL, XM, rfl, h.same 31 _ (.con (.pointer (some ⟨b, off + k * 3 + 2, none⟩))) (vq4 HV rfl) rfl⟩
         · obtain rfl : XB = .bool true := h.get 24 (hw _ rfl ⟨24, .guard⟩ (by simp) rfl) (.con (.bool true)) (vq4 HV rfl) _ rfl
           obtain rfl : XI = .pointer (some ⟨b, off + k * 3 + 2, none⟩) := h.get 31 (hw _ rfl ⟨31, .data⟩ (by simp) rfl) (.con (.pointer (some ⟨b, off + k * 3 + 2, none⟩))) (vq4 HV rfl) _ rfl
           obtain ⟨v0, v1, g0, g1, e0, e1, e2⟩ := HC.out w' h.1
           refine wpOp_step rfl fun K hK => ?_
           go_simp
           exact hK _ _ ⟨Xd, Xe, Xf, Xg, Xh, Xi, Xj, Xk, Xl, Xm, Xn, Xo, Xp, Xq, Xr, Xs, Xt, Xu, Xv, Xw, Xx, Xy, Xz, XA, _, XC, XD, XE, XF, XG, XH, _, _, XK, XL, XM, rfl, h.same 32 _ (.con (.string x2)) (vq4 HV rfl) rfl⟩
         · obtain rfl : XB = .bool true := h.get 24 (hw _ rfl ⟨24, .guard⟩ (by simp) rfl) (.con (.bool true)) (vq4 HV rfl) _ rfl
           refine wpOp_step rfl fun K hK => ?_
           go_simp
           exact hK _ _ ⟨Xd, Xe, Xf, Xg, Xh, Xi, Xj, Xk, Xl, Xm, Xn, Xo, Xp, Xq, Xr, Xs, Xt, Xu, Xv, Xw, Xx, Xy, Xz, XA, _, XC, XD, XE, XF, XG, XH, XI, XJ, _, XL, XM, rfl, h.same 33 _ (.con (.string m)) (vq4 HV rfl) rfl⟩
         · obtain rfl : XB = .bool true := h.get 24 (hw _ rfl ⟨24, .chain⟩ (by simp) rfl) (.con (.bool true)) (vq4 HV rfl) _ rfl
           obtain rfl : XK = .string m := h.get 33 (hw _ rfl ⟨33, .data⟩ (by simp) rfl) (.con (.string m)) (vq4 HV rfl) _ rfl
           obtain ⟨v0, v1, g0, g1, e0, e1, e2⟩ := HC.out w' h.1
           refine wpOp_step rfl fun K hK => ?_
           go_simp
           refine (HDG.out w').mono ?_
           rintro e w2 ⟨rfl, hb2⟩
           exact hK _ _ ⟨Xd, Xe, Xf, Xg, Xh, Xi, Xj, Xk, Xl, Xm, Xn, Xo, Xp, Xq, Xr, Xs, Xt, Xu, Xv, Xw, Xx, Xy, Xz, XA, _, XC, XD, XE, XF, XG, XH, XI, XJ, _, _, XM, rfl, h.did hb2 34 _ (.con (.string D)) (vq4 HV rfl) rfl⟩
         · obtain rfl : XB = .bool true := h.get 24 (hw _ rfl ⟨24, .guard⟩ (by simp) rfl) (.con (.bool true)) (vq4 HV rfl) _ rfl
           obtain rfl : XJ = .string x2 := h.get 32 (hw _ rfl ⟨32, .data⟩ (by simp) rfl) (.con (.string x2)) (vq4 HV rfl) _ rfl
           obtain rfl : XL = .string D := h.get 34 (hw _ rfl ⟨34, .data⟩ (by simp) rfl) (.con (.string D)) (vq4 HV rfl) _ rfl
           refine wpOp_step rfl fun K hK => ?_
           go_simp
           exact hK _ _ ⟨Xd, Xe, Xf, Xg, Xh, Xi, Xj, Xk, Xl, Xm, Xn, Xo, Xp, Xq, Xr, Xs, Xt, Xu, Xv, Xw, Xx, Xy, Xz, XA, _, XC, XD, XE, XF, XG, XH, XI, _, XK, _, _, rfl, h.same 35 _ (.con (.bool db)) (vq4 HV rfl) rfl⟩
         · omega
       case last =>
         rintro d a' w' hall ⟨Xd, Xe, Xf, Xg, Xh, Xi, Xj, Xk, Xl, Xm, Xn, Xo, Xp, Xq, Xr, Xs, Xt, Xu, Xv, Xw, Xx, Xy, Xz, XA, XB, XC, XD, XE, XF, XG, XH, XI, XJ, XK, XL, XM, rfl, h⟩
         have hle := h.1
         obtain rfl : XB = .bool true := h.get 24 (hall _ (by omega)) (.con (.bool true)) (vq4 HV rfl) _ rfl
         obtain rfl : XM = .bool db := h.get 35 (hall _ (by omega)) (.con (.bool db)) (vq4 HV rfl) _ rfl
         have HLE := Lib.hid hle
         clear h hall hle HV
         cases db
         · go_wp2
           go_roundw
           case rel =>
             refine ⟨k + 1, by omega, by go_num, fun j hj hj2 => ?_, HBR.out.trans (HLE.out.mono HBR.out.size)⟩
             by_cases e : j = k
             · subst e; rw [← HX.out]; exact fun h => of_decide_eq_false HT2.out h.2.2
             · exact HNO.out j (by omega) hj2
           case measure => simp [intOf]; omega
         · have HANY := Lib.hid (show (l.any fun v => decide (v.1 = si ∧ v.2.1 = sg ∧ v.2.2 = D)) = true from List.any_eq_true.2 ⟨(x0, x1, x2), by rw [HX.out]; exact List.getElem_mem HKL.out, decide_eq_true ⟨HT0.out, HT1.out, of_decide_eq_true HT2.out⟩⟩)
           go_wp2
           go_ret
           exact ⟨ret_bool (by rw [HGD2.out, HANY.out]), HBX.out _ HLE.out⟩
     · have hke : k = l.length := by omega
       have m1 : ¬ ((k : Int) < (l.length : Int)) := by omega
       have HANY := Lib.hid (show (l.any fun v => decide (v.1 = si ∧ v.2.1 = sg ∧ v.2.2 = D)) = false from by
         rw [List.any_eq_false]
         intro v hv
         obtain ⟨j, hj, rfl⟩ := List.getElem_of_mem hv
         simpa using HNO.out j (by omega) hj)
       clear hke hlt hk
       go_wp2
       go_ret
       exact ⟨ret_bool (by rw [HGD2.out, HANY.out]), HBX.out _ (Below.refl _ _)⟩

/-- A verifier of the reference as it lies in memory. -/
def RVer (w : World) (x : Value) : Ver → Prop
 | .mac => ∃ p, x = .pointer (some ⟨p, 0, none⟩) ∧ w.heap[p]? = some (.cells #[.bool true, .slice none 0 0] 87 (0, 0))
 | .tab l => ∃ p a c, x = .pointer (some ⟨p, 0, none⟩) ∧ w.heap[p]? = some (.cells #[.bool false, .slice a l.length c] 87 (0, 0)) ∧ l.length ≤ 60 ∧ TrisAt w 0 w.heap.size a l
theorem RVer.below {w w' : World} {x : Value} {v : Ver} (h : RVer w x v) (hb : Below w.heap.size w w') : RVer w' x v := by
 cases v with
 | mac => obtain ⟨p, h1, h2⟩ := h; exact ⟨p, h1, by rw [hb.block _ (heap_lt h2)]; exact h2⟩
 | tab l => obtain ⟨p, a, c, h1, h2, h3, h4⟩ := h; exact ⟨p, a, c, h1, by rw [hb.block _ (heap_lt h2)]; exact h2, h3, h4.below hb (Nat.le_refl _) (Nat.le_refl _) hb.size⟩
theorem ref17Good (v : Ver) (x : Value) (k : Key2) (s : Sig2) (m : ByteArray) (w : World) (hV : RVer w x v) (h1 : k.1.size ≤ 300) (h2 : k.2.size ≤ 300) (h3 : s.2.size ≤ 9223372036854775807) (hm : m.size ≤ 1099511620000) :
   Calls Tryz.prog 17 #[x, .agg #[.string k.1, .string k.2], .agg #[.string s.1, .string s.2], .string m] w fun e w' => e = .returned (.bool (v.good k s m.data.toList)) ∧ Below w.heap.size w w' := by
 cases v with
 | mac => obtain ⟨p, rfl, hp⟩ := hV; exact ref17Good_mac p k s m w hp h1 h2 h3 hm
 | tab l => obtain ⟨p, a, c, rfl, hp, hl, hR⟩ := hV; exact ref17Good_tab l a c p k s m w hp h1 h2 h3 hm hl hR

end Go.Proofs.YtaekmmnpdbmoeaaGreatDoor
