/- The law SnapNames: the table of nineteen values. Printed by gennames23.py. -/
import Derived.Test.YtgghgcilpfdbjaaGreatDoorSy29

namespace Go.Proofs.YtgghgcilpfdbjaaGreatDoor
open Go.RowKit
set_option maxHeartbeats 16000000 in
set_option maxRecDepth 100000 in
theorem lawNamesB (B : Nat) (W : World) (b1 b2 b4 : Nat) (f : Nat → Value) (K : Act → World → Prop) (Q : Exit → Act → World → Prop) (hfix : FixN (.pointer (some ⟨b1, 0, none⟩)) (.pointer (some ⟨b2, 0, none⟩)) (.pointer (some ⟨b4, 0, none⟩)) f) (hBW : B ≤ W.heap.size)
   (p0 p1 p2 p3 p4 n0 n1 n2 n3 n4 m0 m1 m2 m3 m4 : Value) (hx1 : W.heap[b1]? = some (.cells #[p0, p1, p2, p3, p4] 30 (0, 0))) (hx2 : W.heap[b2]? = some (.cells #[n0, n1, n2, n3, n4] 30 (0, 0))) (hx4 : W.heap[b4]? = some (.cells #[m0, m1, m2, m3, m4] 30 (0, 0)))
   (hr1 : HasRep B pJ1 W (.agg #[p0, p1, p2, p3, p4])) (hr2 : HasRep B (objJ []) W (.agg #[n0, n1, n2, n3, n4])) (hr4 : HasRep B mJ1 W (.agg #[m0, m1, m2, m3, m4]))
   (hK : ∀ (f' : Nat → Value) (w' : World), FixN (.pointer (some ⟨b1, 0, none⟩)) (.pointer (some ⟨b2, 0, none⟩)) (.pointer (some ⟨b4, 0, none⟩)) f' → Below W.heap.size W w' → HasTab B 55 rows23 w' (f' 148) → f' 149 = .int .i64 19 → f' 150 = .int .i64 0 → K (frN f') w') :
   Code.wp Tryz.prog (seqL (seqL (tailCode 5 (Tryz.f6.body.getD .skip)))) (Exit.then K Q) (frN f) W := by
 conv => arg 2; whnf
 have HF := Lib.hid hfix
 have HBW := Lib.hid hBW
 have HK := Lib.hid hK
 have HR1 := Lib.hid (show ∀ w', Below W.heap.size W w' → HasRep B pJ1 w' (.agg #[p0, p1, p2, p3, p4]) from fun w' h => hr1.mono h)
 have HR2 := Lib.hid (show ∀ w', Below W.heap.size W w' → HasRep B (objJ []) w' (.agg #[n0, n1, n2, n3, n4]) from fun w' h => hr2.mono h)
 have HR4 := Lib.hid (show ∀ w', Below W.heap.size W w' → HasRep B mJ1 w' (.agg #[m0, m1, m2, m3, m4]) from fun w' h => hr4.mono h)
 have HC1 := Lib.hid (show ∀ w', Below W.heap.size W w' → w'.cell? ⟨b1, 0, none⟩ = some p0 ∧ w'.cell? ⟨b1, 1, none⟩ = some p1 ∧ w'.cell? ⟨b1, 2, none⟩ = some p2 ∧ w'.cell? ⟨b1, 3, none⟩ = some p3 ∧ w'.cell? ⟨b1, 4, none⟩ = some p4 from fun w' h => by
   have e := (h.block _ (heap_lt hx1)).trans hx1
   exact ⟨box_cell e rfl, box_cell e rfl, box_cell e rfl, box_cell e rfl, box_cell e rfl⟩)
 have HC2 := Lib.hid (show ∀ w', Below W.heap.size W w' → w'.cell? ⟨b2, 0, none⟩ = some n0 ∧ w'.cell? ⟨b2, 1, none⟩ = some n1 ∧ w'.cell? ⟨b2, 2, none⟩ = some n2 ∧ w'.cell? ⟨b2, 3, none⟩ = some n3 ∧ w'.cell? ⟨b2, 4, none⟩ = some n4 from fun w' h => by
   have e := (h.block _ (heap_lt hx2)).trans hx2
   exact ⟨box_cell e rfl, box_cell e rfl, box_cell e rfl, box_cell e rfl, box_cell e rfl⟩)
 have HC4 := Lib.hid (show ∀ w', Below W.heap.size W w' → w'.cell? ⟨b4, 0, none⟩ = some m0 ∧ w'.cell? ⟨b4, 1, none⟩ = some m1 ∧ w'.cell? ⟨b4, 2, none⟩ = some m2 ∧ w'.cell? ⟨b4, 3, none⟩ = some m3 ∧ w'.cell? ⟨b4, 4, none⟩ = some m4 from fun w' h => by
   have e := (h.block _ (heap_lt hx4)).trans hx4
   exact ⟨box_cell e rfl, box_cell e rfl, box_cell e rfl, box_cell e rfl, box_cell e rfl⟩)
 clear hfix hBW hK hx1 hx2 hx4 hr1 hr2 hr4
 obtain ⟨V, hV⟩ : ∃ V : List MP, V = [.rep B (zeroJ), .pair B (zeroJ) 3, .rep B (numJ 1), .pair B (numJ 1) 10, .rep B (objJ []), .pair B (objJ []) 6, .con (.string nineN), .rep B (mJ1), .rep B (snapO { data := #[115, 110, 97, 112, 115, 104, 111, 116] } nineN (mJ1) 1), .pair B (snapO { data := #[115, 110, 97, 112, 115, 104, 111, 116] } nineN (mJ1) 1) 0, .con (.string nineN), .rep B (objJ []), .rep B (snapO { data := #[115, 110, 97, 112, 115, 104, 111, 116] } nineN (objJ []) 1099511627776), .pair B (snapO { data := #[115, 110, 97, 112, 115, 104, 111, 116] } nineN (objJ []) 1099511627776) 0, .rep B (numJ 1), .rep B (snapO { data := #[116, 97, 114, 103, 101, 116, 115] } { data := #[120] } (numJ 1) 0), .pair B (snapO { data := #[116, 97, 114, 103, 101, 116, 115] } { data := #[120] } (numJ 1) 0) 13, .rep B (numJ 1), .rep B (snapO { data := #[115, 110, 97, 112, 115, 104, 111, 116] } { data := #[120] } (numJ 1) 0), .pair B (snapO { data := #[115, 110, 97, 112, 115, 104, 111, 116] } { data := #[120] } (numJ 1) 0) 1, .con (.string nineN), .rep B (mJ1), .rep B (snapO { data := #[115, 110, 97, 112, 115, 104, 111, 116] } nineN (mJ1) 1099511627777), .pair B (snapO { data := #[115, 110, 97, 112, 115, 104, 111, 116] } nineN (mJ1) 1099511627777) 1, .rep B (numJ 1), .rep B (snapO { data := #[115, 110, 97, 112, 115, 104, 111, 116] } { data := #[120] } (numJ 1) 1), .pair B (snapO { data := #[115, 110, 97, 112, 115, 104, 111, 116] } { data := #[120] } (numJ 1) 1) 3, .con (.string nineN), .rep B (numJ 1), .rep B (snapO { data := #[115, 110, 97, 112, 115, 104, 111, 116] } nineN (numJ 1) 1), .pair B (snapO { data := #[115, 110, 97, 112, 115, 104, 111, 116] } nineN (numJ 1) 1) 10, .con (.string nineN), .row B 1 9 (strs [{ data := #[97] }]), .rep B (pJ1), .vals B [pJ1], .rep B (.mk 5 0 { data := #[] } [{ data := #[97] }] [pJ1]), .rep B (snapO { data := #[115, 110, 97, 112, 115, 104, 111, 116] } nineN (.mk 5 0 { data := #[] } [{ data := #[97] }] [pJ1]) 1), .pair B (snapO { data := #[115, 110, 97, 112, 115, 104, 111, 116] } nineN (.mk 5 0 { data := #[] } [{ data := #[97] }] [pJ1]) 1) 3, .con (.string nineN), .row B 1 9 (strs [{ data := #[97, 46, 106, 115, 111, 110] }]), .rep B (numJ 1), .vals B [numJ 1], .rep B (.mk 5 0 { data := #[] } [{ data := #[97, 46, 106, 115, 111, 110] }] [numJ 1]), .rep B (snapO { data := #[115, 110, 97, 112, 115, 104, 111, 116] } nineN (.mk 5 0 { data := #[] } [{ data := #[97, 46, 106, 115, 111, 110] }] [numJ 1]) 1), .pair B (snapO { data := #[115, 110, 97, 112, 115, 104, 111, 116] } nineN (.mk 5 0 { data := #[] } [{ data := #[97, 46, 106, 115, 111, 110] }] [numJ 1]) 1) 10, .con (.string nineN), .row B 2 9 (strs [{ data := #[97, 46, 106, 115, 111, 110] }, { data := #[98] }]), .rep B (objJ []), .rep B (pJ1), .vals B [objJ [], pJ1], .rep B (.mk 5 0 { data := #[] } [{ data := #[97, 46, 106, 115, 111, 110] }, { data := #[98] }] [objJ [], pJ1]), .rep B (snapO { data := #[115, 110, 97, 112, 115, 104, 111, 116] } nineN (.mk 5 0 { data := #[] } [{ data := #[97, 46, 106, 115, 111, 110] }, { data := #[98] }] [objJ [], pJ1]) 1), .pair B (snapO { data := #[115, 110, 97, 112, 115, 104, 111, 116] } nineN (.mk 5 0 { data := #[] } [{ data := #[97, 46, 106, 115, 111, 110] }, { data := #[98] }] [objJ [], pJ1]) 1) 6, .con (.string nineN), .row B 1 9 (strs [{ data := #[97, 46, 106, 115, 111, 110] }]), .row B 2 9 (strs [{ data := #[108, 101, 110, 103, 116, 104] }, { data := #[118, 101, 114, 115, 105, 111, 110] }]), .rep B (numJ (-1)), .rep B (numJ 1), .vals B [numJ (-1), numJ 1], .rep B (.mk 5 0 { data := #[] } [{ data := #[108, 101, 110, 103, 116, 104] }, { data := #[118, 101, 114, 115, 105, 111, 110] }] [numJ (-1), numJ 1]), .vals B [.mk 5 0 { data := #[] } [{ data := #[108, 101, 110, 103, 116, 104] }, { data := #[118, 101, 114, 115, 105, 111, 110] }] [numJ (-1), numJ 1]], .rep B (.mk 5 0 { data := #[] } [{ data := #[97, 46, 106, 115, 111, 110] }] [.mk 5 0 { data := #[] } [{ data := #[108, 101, 110, 103, 116, 104] }, { data := #[118, 101, 114, 115, 105, 111, 110] }] [numJ (-1), numJ 1]]), .rep B (snapO { data := #[115, 110, 97, 112, 115, 104, 111, 116] } nineN (.mk 5 0 { data := #[] } [{ data := #[97, 46, 106, 115, 111, 110] }] [.mk 5 0 { data := #[] } [{ data := #[108, 101, 110, 103, 116, 104] }, { data := #[118, 101, 114, 115, 105, 111, 110] }] [numJ (-1), numJ 1]]) 1), .pair B (snapO { data := #[115, 110, 97, 112, 115, 104, 111, 116] } nineN (.mk 5 0 { data := #[] } [{ data := #[97, 46, 106, 115, 111, 110] }] [.mk 5 0 { data := #[] } [{ data := #[108, 101, 110, 103, 116, 104] }, { data := #[118, 101, 114, 115, 105, 111, 110] }] [numJ (-1), numJ 1]]) 1) 1, .con (.string nineN), .row B 1 9 (strs [{ data := #[97, 46, 106, 115, 111, 110] }]), .row B 2 9 (strs [{ data := #[104, 97, 115, 104, 101, 115] }, { data := #[118, 101, 114, 115, 105, 111, 110] }]), .rep B (objJ []), .rep B (numJ 1), .vals B [objJ [], numJ 1], .rep B (.mk 5 0 { data := #[] } [{ data := #[104, 97, 115, 104, 101, 115] }, { data := #[118, 101, 114, 115, 105, 111, 110] }] [objJ [], numJ 1]), .vals B [.mk 5 0 { data := #[] } [{ data := #[104, 97, 115, 104, 101, 115] }, { data := #[118, 101, 114, 115, 105, 111, 110] }] [objJ [], numJ 1]], .rep B (.mk 5 0 { data := #[] } [{ data := #[97, 46, 106, 115, 111, 110] }] [.mk 5 0 { data := #[] } [{ data := #[104, 97, 115, 104, 101, 115] }, { data := #[118, 101, 114, 115, 105, 111, 110] }] [objJ [], numJ 1]]), .rep B (snapO { data := #[115, 110, 97, 112, 115, 104, 111, 116] } nineN (.mk 5 0 { data := #[] } [{ data := #[97, 46, 106, 115, 111, 110] }] [.mk 5 0 { data := #[] } [{ data := #[104, 97, 115, 104, 101, 115] }, { data := #[118, 101, 114, 115, 105, 111, 110] }] [objJ [], numJ 1]]) 1), .pair B (snapO { data := #[115, 110, 97, 112, 115, 104, 111, 116] } nineN (.mk 5 0 { data := #[] } [{ data := #[97, 46, 106, 115, 111, 110] }] [.mk 5 0 { data := #[] } [{ data := #[104, 97, 115, 104, 101, 115] }, { data := #[118, 101, 114, 115, 105, 111, 110] }] [objJ [], numJ 1]]) 1) 4, .con (.string nineN), .row B 1 9 (strs [{ data := #[97, 46, 106, 115, 111, 110] }]), .row B 2 9 (strs [{ data := #[104, 97, 115, 104] }, { data := #[118, 101, 114, 115, 105, 111, 110] }]), .rep B (objJ []), .rep B (numJ 1), .vals B [objJ [], numJ 1], .rep B (.mk 5 0 { data := #[] } [{ data := #[104, 97, 115, 104] }, { data := #[118, 101, 114, 115, 105, 111, 110] }] [objJ [], numJ 1]), .vals B [.mk 5 0 { data := #[] } [{ data := #[104, 97, 115, 104] }, { data := #[118, 101, 114, 115, 105, 111, 110] }] [objJ [], numJ 1]], .rep B (.mk 5 0 { data := #[] } [{ data := #[97, 46, 106, 115, 111, 110] }] [.mk 5 0 { data := #[] } [{ data := #[104, 97, 115, 104] }, { data := #[118, 101, 114, 115, 105, 111, 110] }] [objJ [], numJ 1]]), .rep B (snapO { data := #[115, 110, 97, 112, 115, 104, 111, 116] } nineN (.mk 5 0 { data := #[] } [{ data := #[97, 46, 106, 115, 111, 110] }] [.mk 5 0 { data := #[] } [{ data := #[104, 97, 115, 104] }, { data := #[118, 101, 114, 115, 105, 111, 110] }] [objJ [], numJ 1]]) 1), .pair B (snapO { data := #[115, 110, 97, 112, 115, 104, 111, 116] } nineN (.mk 5 0 { data := #[] } [{ data := #[97, 46, 106, 115, 111, 110] }] [.mk 5 0 { data := #[] } [{ data := #[104, 97, 115, 104] }, { data := #[118, 101, 114, 115, 105, 111, 110] }] [objJ [], numJ 1]]) 1) 11, .row B 5 9 (strs [{ data := #[95, 116, 121, 112, 101] }, { data := #[97] }, { data := #[101, 120, 112, 105, 114, 101, 115] }, { data := #[109, 101, 116, 97] }, { data := #[118, 101, 114, 115, 105, 111, 110] }]), .rep B (txtJ { data := #[115, 110, 97, 112, 115, 104, 111, 116] }), .rep B (objJ []), .con (.string nineN), .rep B (txtJ nineN), .rep B (mJ1), .rep B (numJ 1), .vals B [txtJ { data := #[115, 110, 97, 112, 115, 104, 111, 116] }, objJ [], txtJ nineN, mJ1, numJ 1], .rep B (.mk 5 0 { data := #[] } [{ data := #[95, 116, 121, 112, 101] }, { data := #[97] }, { data := #[101, 120, 112, 105, 114, 101, 115] }, { data := #[109, 101, 116, 97] }, { data := #[118, 101, 114, 115, 105, 111, 110] }] [txtJ { data := #[115, 110, 97, 112, 115, 104, 111, 116] }, objJ [], txtJ nineN, mJ1, numJ 1]), .pair B (.mk 5 0 { data := #[] } [{ data := #[95, 116, 121, 112, 101] }, { data := #[97] }, { data := #[101, 120, 112, 105, 114, 101, 115] }, { data := #[109, 101, 116, 97] }, { data := #[118, 101, 114, 115, 105, 111, 110] }] [txtJ { data := #[115, 110, 97, 112, 115, 104, 111, 116] }, objJ [], txtJ nineN, mJ1, numJ 1]) 11, .row B 3 9 (strs [{ data := #[95, 116, 121, 112, 101] }, { data := #[101, 120, 112, 105, 114, 101, 115] }, { data := #[118, 101, 114, 115, 105, 111, 110] }]), .rep B (txtJ { data := #[115, 110, 97, 112, 115, 104, 111, 116] }), .con (.string nineN), .rep B (txtJ nineN), .rep B (numJ 1), .vals B [txtJ { data := #[115, 110, 97, 112, 115, 104, 111, 116] }, txtJ nineN, numJ 1], .rep B (.mk 5 0 { data := #[] } [{ data := #[95, 116, 121, 112, 101] }, { data := #[101, 120, 112, 105, 114, 101, 115] }, { data := #[118, 101, 114, 115, 105, 111, 110] }] [txtJ { data := #[115, 110, 97, 112, 115, 104, 111, 116] }, txtJ nineN, numJ 1]), .pair B (.mk 5 0 { data := #[] } [{ data := #[95, 116, 121, 112, 101] }, { data := #[101, 120, 112, 105, 114, 101, 115] }, { data := #[118, 101, 114, 115, 105, 111, 110] }] [txtJ { data := #[115, 110, 97, 112, 115, 104, 111, 116] }, txtJ nineN, numJ 1]) 6, .row B 1 9 (strs [{ data := #[95, 116, 121, 112, 101] }]), .rep B (numJ 1), .vals B [numJ 1], .rep B (.mk 5 0 { data := #[] } [{ data := #[95, 116, 121, 112, 101] }] [numJ 1]), .pair B (.mk 5 0 { data := #[] } [{ data := #[95, 116, 121, 112, 101] }] [numJ 1]) 10, .tab B 55 rows23, .con (.int .i64 19), .con (.int .i64 0)] := ⟨_, rfl⟩
 have HV := Lib.hid hV
 clear hV
 refine wp_region_all (fun d a' w' => ∃ f, a' = frN f ∧ FixN (.pointer (some ⟨b1, 0, none⟩)) (.pointer (some ⟨b2, 0, none⟩)) (.pointer (some ⟨b4, 0, none⟩)) f ∧ RegF W V 39 d w' f) (by kernel_rfl) 112 (by kernel_rfl) (by kernel_rfl) ?first ?step ?last
 case first => exact ⟨f, rfl, HF.out, RegF.first _ _ _ _⟩
 case step =>
   rintro d a' w' ⟨f, ha, hf, h⟩ q hq hn hw
   have HA := Lib.hid ha
   have hsz := h.1.size
   have hB : B ≤ w'.heap.size := Nat.le_trans HBW.out hsz
   clear ha
   rcases q with _ | _ | _ | _ | _ | _ | _ | _ | _ | _ | _ | _ | _ | _ | _ | _ | _ | _ | _ | _ | _ | _ | _ | _ | _ | _ | _ | _ | _ | _ | _ | _ | _ | _ | _ | _ | _ | _ | _ | _ | _ | _ | _ | _ | _ | _ | _ | _ | _ | _ | _ | _ | _ | _ | _ | _ | _ | _ | _ | _ | _ | _ | _ | _ | _ | _ | _ | _ | _ | _ | _ | _ | _ | _ | _ | _ | _ | _ | _ | _ | _ | _ | _ | _ | _ | _ | _ | _ | _ | _ | _ | _ | _ | _ | _ | _ | _ | _ | _ | _ | _ | _ | _ | _ | _ | _ | _ | _ | _ | _ | _ | _ | q'
   · refine wpOp_step rfl fun K hK => ?_
     go_simp
     exact hK _ _ ⟨upd f 39 _, by rw [HA.out]; rfl, hf.upd 39 (by decide) _, h.same 0 _ (.rep B (zeroJ)) (by rw [HV.out]; rfl) (rep_zeroH _ _)⟩
   · obtain ⟨c39_0, c39_1, c39_2, c39_3, c39_4, e39, hr39⟩ := HasRep.five (h.get 0 (hw _ rfl ⟨0, .data⟩ (by simp) rfl) (.rep B (zeroJ)) (by rw [HV.out]; rfl))
     have t39 : a'.tmps[39]?.getD undef = .agg #[c39_0, c39_1, c39_2, c39_3, c39_4] := by rw [HA.out]; exact e39
     clear e39
     refine wpOp_step rfl fun K hK => ?_
     go_simp
     exact hK _ _ ⟨upd f 40 _, by rw [HA.out]; rfl, hf.upd 40 (by decide) _, h.same 1 _ (.pair B (zeroJ) 3) (by rw [HV.out]; rfl) ⟨_, _, _, _, _, rfl, hr39⟩⟩
   · refine wpOp_step rfl fun K hK => ?_
     go_simp
     refine (numS B 1 w').mono ?_
     rintro e w2 ⟨z, rfl, hz, hb2⟩
     exact hK _ _ ⟨upd f 41 z, by rw [HA.out]; rfl, hf.upd 41 (by decide) _, h.did hb2 2 z (.rep B (numJ 1)) (by rw [HV.out]; rfl) hz⟩
   · obtain ⟨c41_0, c41_1, c41_2, c41_3, c41_4, e41, hr41⟩ := HasRep.five (h.get 2 (hw _ rfl ⟨2, .data⟩ (by simp) rfl) (.rep B (numJ 1)) (by rw [HV.out]; rfl))
     have t41 : a'.tmps[41]?.getD undef = .agg #[c41_0, c41_1, c41_2, c41_3, c41_4] := by rw [HA.out]; exact e41
     clear e41
     refine wpOp_step rfl fun K hK => ?_
     go_simp
     exact hK _ _ ⟨upd f 42 _, by rw [HA.out]; rfl, hf.upd 42 (by decide) _, h.same 3 _ (.pair B (numJ 1) 10) (by rw [HV.out]; rfl) ⟨_, _, _, _, _, rfl, hr41⟩⟩
   · have t2 : a'.tmps[2]?.getD undef = .pointer (some ⟨b2, 0, none⟩) := by rw [HA.out]; exact hf.h2
     obtain ⟨x0, x1, x2, x3, x4⟩ := HC2.out w' h.1
     refine wpOp_step rfl fun K hK => ?_
     go_simp
     exact hK _ _ ⟨upd f 43 _, by rw [HA.out]; rfl, hf.upd 43 (by decide) _, h.same 4 _ (.rep B (objJ [])) (by rw [HV.out]; rfl) (HR2.out w' h.1)⟩
   · obtain ⟨c43_0, c43_1, c43_2, c43_3, c43_4, e43, hr43⟩ := HasRep.five (h.get 4 (hw _ rfl ⟨4, .data⟩ (by simp) rfl) (.rep B (objJ [])) (by rw [HV.out]; rfl))
     have t43 : a'.tmps[43]?.getD undef = .agg #[c43_0, c43_1, c43_2, c43_3, c43_4] := by rw [HA.out]; exact e43
     clear e43
     refine wpOp_step rfl fun K hK => ?_
     go_simp
     exact hK _ _ ⟨upd f 44 _, by rw [HA.out]; rfl, hf.upd 44 (by decide) _, h.same 5 _ (.pair B (objJ []) 6) (by rw [HV.out]; rfl) ⟨_, _, _, _, _, rfl, hr43⟩⟩
   · have t3 : a'.tmps[3]?.getD undef = .string nineN := by rw [HA.out]; exact hf.h3
     refine wpOp_step rfl fun K hK => ?_
     go_simp
     exact hK _ _ ⟨upd f 45 _, by rw [HA.out]; rfl, hf.upd 45 (by decide) _, h.same 6 _ (.con (.string nineN)) (by rw [HV.out]; rfl) rfl⟩
   · have t4 : a'.tmps[4]?.getD undef = .pointer (some ⟨b4, 0, none⟩) := by rw [HA.out]; exact hf.h4
     obtain ⟨x0, x1, x2, x3, x4⟩ := HC4.out w' h.1
     refine wpOp_step rfl fun K hK => ?_
     go_simp
     exact hK _ _ ⟨upd f 46 _, by rw [HA.out]; rfl, hf.upd 46 (by decide) _, h.same 7 _ (.rep B (mJ1)) (by rw [HV.out]; rfl) (HR4.out w' h.1)⟩
   · have t45 : a'.tmps[45]?.getD undef = .string nineN := by rw [HA.out]; exact (h.get 6 (hw _ rfl ⟨6, .data⟩ (by simp) rfl) (.con (.string nineN)) (by rw [HV.out]; rfl) : f 45 = _)
     obtain ⟨c46_0, c46_1, c46_2, c46_3, c46_4, e46, hr46⟩ := HasRep.five (h.get 7 (hw _ rfl ⟨7, .data⟩ (by simp) rfl) (.rep B (mJ1)) (by rw [HV.out]; rfl))
     have t46 : a'.tmps[46]?.getD undef = .agg #[c46_0, c46_1, c46_2, c46_3, c46_4] := by rw [HA.out]; exact e46
     clear e46
     refine wpOp_step rfl fun K hK => ?_
     go_simp
     refine (snapS { data := #[115, 110, 97, 112, 115, 104, 111, 116] } nineN (mJ1) 1 hr46 hB).mono ?_
     rintro e w2 ⟨z, rfl, hz, hb2⟩
     exact hK _ _ ⟨upd f 47 z, by rw [HA.out]; rfl, hf.upd 47 (by decide) _, h.did hb2 8 z (.rep B (snapO { data := #[115, 110, 97, 112, 115, 104, 111, 116] } nineN (mJ1) 1)) (by rw [HV.out]; rfl) hz⟩
   · obtain ⟨c47_0, c47_1, c47_2, c47_3, c47_4, e47, hr47⟩ := HasRep.five (h.get 8 (hw _ rfl ⟨8, .data⟩ (by simp) rfl) (.rep B (snapO { data := #[115, 110, 97, 112, 115, 104, 111, 116] } nineN (mJ1) 1)) (by rw [HV.out]; rfl))
     have t47 : a'.tmps[47]?.getD undef = .agg #[c47_0, c47_1, c47_2, c47_3, c47_4] := by rw [HA.out]; exact e47
     clear e47
     refine wpOp_step rfl fun K hK => ?_
     go_simp
     exact hK _ _ ⟨upd f 48 _, by rw [HA.out]; rfl, hf.upd 48 (by decide) _, h.same 9 _ (.pair B (snapO { data := #[115, 110, 97, 112, 115, 104, 111, 116] } nineN (mJ1) 1) 0) (by rw [HV.out]; rfl) ⟨_, _, _, _, _, rfl, hr47⟩⟩
   · have t3 : a'.tmps[3]?.getD undef = .string nineN := by rw [HA.out]; exact hf.h3
     refine wpOp_step rfl fun K hK => ?_
     go_simp
     exact hK _ _ ⟨upd f 49 _, by rw [HA.out]; rfl, hf.upd 49 (by decide) _, h.same 10 _ (.con (.string nineN)) (by rw [HV.out]; rfl) rfl⟩
   · have t2 : a'.tmps[2]?.getD undef = .pointer (some ⟨b2, 0, none⟩) := by rw [HA.out]; exact hf.h2
     obtain ⟨x0, x1, x2, x3, x4⟩ := HC2.out w' h.1
     refine wpOp_step rfl fun K hK => ?_
     go_simp
     exact hK _ _ ⟨upd f 50 _, by rw [HA.out]; rfl, hf.upd 50 (by decide) _, h.same 11 _ (.rep B (objJ [])) (by rw [HV.out]; rfl) (HR2.out w' h.1)⟩
   · have t49 : a'.tmps[49]?.getD undef = .string nineN := by rw [HA.out]; exact (h.get 10 (hw _ rfl ⟨10, .data⟩ (by simp) rfl) (.con (.string nineN)) (by rw [HV.out]; rfl) : f 49 = _)
     obtain ⟨c50_0, c50_1, c50_2, c50_3, c50_4, e50, hr50⟩ := HasRep.five (h.get 11 (hw _ rfl ⟨11, .data⟩ (by simp) rfl) (.rep B (objJ [])) (by rw [HV.out]; rfl))
     have t50 : a'.tmps[50]?.getD undef = .agg #[c50_0, c50_1, c50_2, c50_3, c50_4] := by rw [HA.out]; exact e50
     clear e50
     refine wpOp_step rfl fun K hK => ?_
     go_simp
     refine (snapS { data := #[115, 110, 97, 112, 115, 104, 111, 116] } nineN (objJ []) 1099511627776 hr50 hB).mono ?_
     rintro e w2 ⟨z, rfl, hz, hb2⟩
     exact hK _ _ ⟨upd f 51 z, by rw [HA.out]; rfl, hf.upd 51 (by decide) _, h.did hb2 12 z (.rep B (snapO { data := #[115, 110, 97, 112, 115, 104, 111, 116] } nineN (objJ []) 1099511627776)) (by rw [HV.out]; rfl) hz⟩
   · obtain ⟨c51_0, c51_1, c51_2, c51_3, c51_4, e51, hr51⟩ := HasRep.five (h.get 12 (hw _ rfl ⟨12, .data⟩ (by simp) rfl) (.rep B (snapO { data := #[115, 110, 97, 112, 115, 104, 111, 116] } nineN (objJ []) 1099511627776)) (by rw [HV.out]; rfl))
     have t51 : a'.tmps[51]?.getD undef = .agg #[c51_0, c51_1, c51_2, c51_3, c51_4] := by rw [HA.out]; exact e51
     clear e51
     refine wpOp_step rfl fun K hK => ?_
     go_simp
     exact hK _ _ ⟨upd f 52 _, by rw [HA.out]; rfl, hf.upd 52 (by decide) _, h.same 13 _ (.pair B (snapO { data := #[115, 110, 97, 112, 115, 104, 111, 116] } nineN (objJ []) 1099511627776) 0) (by rw [HV.out]; rfl) ⟨_, _, _, _, _, rfl, hr51⟩⟩
   · refine wpOp_step rfl fun K hK => ?_
     go_simp
     refine (numS B 1 w').mono ?_
     rintro e w2 ⟨z, rfl, hz, hb2⟩
     exact hK _ _ ⟨upd f 53 z, by rw [HA.out]; rfl, hf.upd 53 (by decide) _, h.did hb2 14 z (.rep B (numJ 1)) (by rw [HV.out]; rfl) hz⟩
   · obtain ⟨c53_0, c53_1, c53_2, c53_3, c53_4, e53, hr53⟩ := HasRep.five (h.get 14 (hw _ rfl ⟨14, .data⟩ (by simp) rfl) (.rep B (numJ 1)) (by rw [HV.out]; rfl))
     have t53 : a'.tmps[53]?.getD undef = .agg #[c53_0, c53_1, c53_2, c53_3, c53_4] := by rw [HA.out]; exact e53
     clear e53
     refine wpOp_step rfl fun K hK => ?_
     go_simp
     refine (snapS { data := #[116, 97, 114, 103, 101, 116, 115] } { data := #[120] } (numJ 1) 0 hr53 hB).mono ?_
     rintro e w2 ⟨z, rfl, hz, hb2⟩
     exact hK _ _ ⟨upd f 54 z, by rw [HA.out]; rfl, hf.upd 54 (by decide) _, h.did hb2 15 z (.rep B (snapO { data := #[116, 97, 114, 103, 101, 116, 115] } { data := #[120] } (numJ 1) 0)) (by rw [HV.out]; rfl) hz⟩
   · obtain ⟨c54_0, c54_1, c54_2, c54_3, c54_4, e54, hr54⟩ := HasRep.five (h.get 15 (hw _ rfl ⟨15, .data⟩ (by simp) rfl) (.rep B (snapO { data := #[116, 97, 114, 103, 101, 116, 115] } { data := #[120] } (numJ 1) 0)) (by rw [HV.out]; rfl))
     have t54 : a'.tmps[54]?.getD undef = .agg #[c54_0, c54_1, c54_2, c54_3, c54_4] := by rw [HA.out]; exact e54
     clear e54
     refine wpOp_step rfl fun K hK => ?_
     go_simp
     exact hK _ _ ⟨upd f 55 _, by rw [HA.out]; rfl, hf.upd 55 (by decide) _, h.same 16 _ (.pair B (snapO { data := #[116, 97, 114, 103, 101, 116, 115] } { data := #[120] } (numJ 1) 0) 13) (by rw [HV.out]; rfl) ⟨_, _, _, _, _, rfl, hr54⟩⟩
   · refine wpOp_step rfl fun K hK => ?_
     go_simp
     refine (numS B 1 w').mono ?_
     rintro e w2 ⟨z, rfl, hz, hb2⟩
     exact hK _ _ ⟨upd f 56 z, by rw [HA.out]; rfl, hf.upd 56 (by decide) _, h.did hb2 17 z (.rep B (numJ 1)) (by rw [HV.out]; rfl) hz⟩
   · obtain ⟨c56_0, c56_1, c56_2, c56_3, c56_4, e56, hr56⟩ := HasRep.five (h.get 17 (hw _ rfl ⟨17, .data⟩ (by simp) rfl) (.rep B (numJ 1)) (by rw [HV.out]; rfl))
     have t56 : a'.tmps[56]?.getD undef = .agg #[c56_0, c56_1, c56_2, c56_3, c56_4] := by rw [HA.out]; exact e56
     clear e56
     refine wpOp_step rfl fun K hK => ?_
     go_simp
     refine (snapS { data := #[115, 110, 97, 112, 115, 104, 111, 116] } { data := #[120] } (numJ 1) 0 hr56 hB).mono ?_
     rintro e w2 ⟨z, rfl, hz, hb2⟩
     exact hK _ _ ⟨upd f 57 z, by rw [HA.out]; rfl, hf.upd 57 (by decide) _, h.did hb2 18 z (.rep B (snapO { data := #[115, 110, 97, 112, 115, 104, 111, 116] } { data := #[120] } (numJ 1) 0)) (by rw [HV.out]; rfl) hz⟩
   · obtain ⟨c57_0, c57_1, c57_2, c57_3, c57_4, e57, hr57⟩ := HasRep.five (h.get 18 (hw _ rfl ⟨18, .data⟩ (by simp) rfl) (.rep B (snapO { data := #[115, 110, 97, 112, 115, 104, 111, 116] } { data := #[120] } (numJ 1) 0)) (by rw [HV.out]; rfl))
     have t57 : a'.tmps[57]?.getD undef = .agg #[c57_0, c57_1, c57_2, c57_3, c57_4] := by rw [HA.out]; exact e57
     clear e57
     refine wpOp_step rfl fun K hK => ?_
     go_simp
     exact hK _ _ ⟨upd f 58 _, by rw [HA.out]; rfl, hf.upd 58 (by decide) _, h.same 19 _ (.pair B (snapO { data := #[115, 110, 97, 112, 115, 104, 111, 116] } { data := #[120] } (numJ 1) 0) 1) (by rw [HV.out]; rfl) ⟨_, _, _, _, _, rfl, hr57⟩⟩
   · have t3 : a'.tmps[3]?.getD undef = .string nineN := by rw [HA.out]; exact hf.h3
     refine wpOp_step rfl fun K hK => ?_
     go_simp
     exact hK _ _ ⟨upd f 59 _, by rw [HA.out]; rfl, hf.upd 59 (by decide) _, h.same 20 _ (.con (.string nineN)) (by rw [HV.out]; rfl) rfl⟩
   · have t4 : a'.tmps[4]?.getD undef = .pointer (some ⟨b4, 0, none⟩) := by rw [HA.out]; exact hf.h4
     obtain ⟨x0, x1, x2, x3, x4⟩ := HC4.out w' h.1
     refine wpOp_step rfl fun K hK => ?_
     go_simp
     exact hK _ _ ⟨upd f 60 _, by rw [HA.out]; rfl, hf.upd 60 (by decide) _, h.same 21 _ (.rep B (mJ1)) (by rw [HV.out]; rfl) (HR4.out w' h.1)⟩
   · have t59 : a'.tmps[59]?.getD undef = .string nineN := by rw [HA.out]; exact (h.get 20 (hw _ rfl ⟨20, .data⟩ (by simp) rfl) (.con (.string nineN)) (by rw [HV.out]; rfl) : f 59 = _)
     obtain ⟨c60_0, c60_1, c60_2, c60_3, c60_4, e60, hr60⟩ := HasRep.five (h.get 21 (hw _ rfl ⟨21, .data⟩ (by simp) rfl) (.rep B (mJ1)) (by rw [HV.out]; rfl))
     have t60 : a'.tmps[60]?.getD undef = .agg #[c60_0, c60_1, c60_2, c60_3, c60_4] := by rw [HA.out]; exact e60
     clear e60
     refine wpOp_step rfl fun K hK => ?_
     go_simp
     refine (snapS { data := #[115, 110, 97, 112, 115, 104, 111, 116] } nineN (mJ1) 1099511627777 hr60 hB).mono ?_
     rintro e w2 ⟨z, rfl, hz, hb2⟩
     exact hK _ _ ⟨upd f 61 z, by rw [HA.out]; rfl, hf.upd 61 (by decide) _, h.did hb2 22 z (.rep B (snapO { data := #[115, 110, 97, 112, 115, 104, 111, 116] } nineN (mJ1) 1099511627777)) (by rw [HV.out]; rfl) hz⟩
   · obtain ⟨c61_0, c61_1, c61_2, c61_3, c61_4, e61, hr61⟩ := HasRep.five (h.get 22 (hw _ rfl ⟨22, .data⟩ (by simp) rfl) (.rep B (snapO { data := #[115, 110, 97, 112, 115, 104, 111, 116] } nineN (mJ1) 1099511627777)) (by rw [HV.out]; rfl))
     have t61 : a'.tmps[61]?.getD undef = .agg #[c61_0, c61_1, c61_2, c61_3, c61_4] := by rw [HA.out]; exact e61
     clear e61
     refine wpOp_step rfl fun K hK => ?_
     go_simp
     exact hK _ _ ⟨upd f 62 _, by rw [HA.out]; rfl, hf.upd 62 (by decide) _, h.same 23 _ (.pair B (snapO { data := #[115, 110, 97, 112, 115, 104, 111, 116] } nineN (mJ1) 1099511627777) 1) (by rw [HV.out]; rfl) ⟨_, _, _, _, _, rfl, hr61⟩⟩
   · refine wpOp_step rfl fun K hK => ?_
     go_simp
     refine (numS B 1 w').mono ?_
     rintro e w2 ⟨z, rfl, hz, hb2⟩
     exact hK _ _ ⟨upd f 63 z, by rw [HA.out]; rfl, hf.upd 63 (by decide) _, h.did hb2 24 z (.rep B (numJ 1)) (by rw [HV.out]; rfl) hz⟩
   · obtain ⟨c63_0, c63_1, c63_2, c63_3, c63_4, e63, hr63⟩ := HasRep.five (h.get 24 (hw _ rfl ⟨24, .data⟩ (by simp) rfl) (.rep B (numJ 1)) (by rw [HV.out]; rfl))
     have t63 : a'.tmps[63]?.getD undef = .agg #[c63_0, c63_1, c63_2, c63_3, c63_4] := by rw [HA.out]; exact e63
     clear e63
     refine wpOp_step rfl fun K hK => ?_
     go_simp
     refine (snapS { data := #[115, 110, 97, 112, 115, 104, 111, 116] } { data := #[120] } (numJ 1) 1 hr63 hB).mono ?_
     rintro e w2 ⟨z, rfl, hz, hb2⟩
     exact hK _ _ ⟨upd f 64 z, by rw [HA.out]; rfl, hf.upd 64 (by decide) _, h.did hb2 25 z (.rep B (snapO { data := #[115, 110, 97, 112, 115, 104, 111, 116] } { data := #[120] } (numJ 1) 1)) (by rw [HV.out]; rfl) hz⟩
   · obtain ⟨c64_0, c64_1, c64_2, c64_3, c64_4, e64, hr64⟩ := HasRep.five (h.get 25 (hw _ rfl ⟨25, .data⟩ (by simp) rfl) (.rep B (snapO { data := #[115, 110, 97, 112, 115, 104, 111, 116] } { data := #[120] } (numJ 1) 1)) (by rw [HV.out]; rfl))
     have t64 : a'.tmps[64]?.getD undef = .agg #[c64_0, c64_1, c64_2, c64_3, c64_4] := by rw [HA.out]; exact e64
     clear e64
     refine wpOp_step rfl fun K hK => ?_
     go_simp
     exact hK _ _ ⟨upd f 65 _, by rw [HA.out]; rfl, hf.upd 65 (by decide) _, h.same 26 _ (.pair B (snapO { data := #[115, 110, 97, 112, 115, 104, 111, 116] } { data := #[120] } (numJ 1) 1) 3) (by rw [HV.out]; rfl) ⟨_, _, _, _, _, rfl, hr64⟩⟩
   · have t3 : a'.tmps[3]?.getD undef = .string nineN := by rw [HA.out]; exact hf.h3
     refine wpOp_step rfl fun K hK => ?_
     go_simp
     exact hK _ _ ⟨upd f 66 _, by rw [HA.out]; rfl, hf.upd 66 (by decide) _, h.same 27 _ (.con (.string nineN)) (by rw [HV.out]; rfl) rfl⟩
   · refine wpOp_step rfl fun K hK => ?_
     go_simp
     refine (numS B 1 w').mono ?_
     rintro e w2 ⟨z, rfl, hz, hb2⟩
     exact hK _ _ ⟨upd f 67 z, by rw [HA.out]; rfl, hf.upd 67 (by decide) _, h.did hb2 28 z (.rep B (numJ 1)) (by rw [HV.out]; rfl) hz⟩
   · have t66 : a'.tmps[66]?.getD undef = .string nineN := by rw [HA.out]; exact (h.get 27 (hw _ rfl ⟨27, .data⟩ (by simp) rfl) (.con (.string nineN)) (by rw [HV.out]; rfl) : f 66 = _)
     obtain ⟨c67_0, c67_1, c67_2, c67_3, c67_4, e67, hr67⟩ := HasRep.five (h.get 28 (hw _ rfl ⟨28, .data⟩ (by simp) rfl) (.rep B (numJ 1)) (by rw [HV.out]; rfl))
     have t67 : a'.tmps[67]?.getD undef = .agg #[c67_0, c67_1, c67_2, c67_3, c67_4] := by rw [HA.out]; exact e67
     clear e67
     refine wpOp_step rfl fun K hK => ?_
     go_simp
     refine (snapS { data := #[115, 110, 97, 112, 115, 104, 111, 116] } nineN (numJ 1) 1 hr67 hB).mono ?_
     rintro e w2 ⟨z, rfl, hz, hb2⟩
     exact hK _ _ ⟨upd f 68 z, by rw [HA.out]; rfl, hf.upd 68 (by decide) _, h.did hb2 29 z (.rep B (snapO { data := #[115, 110, 97, 112, 115, 104, 111, 116] } nineN (numJ 1) 1)) (by rw [HV.out]; rfl) hz⟩
   · obtain ⟨c68_0, c68_1, c68_2, c68_3, c68_4, e68, hr68⟩ := HasRep.five (h.get 29 (hw _ rfl ⟨29, .data⟩ (by simp) rfl) (.rep B (snapO { data := #[115, 110, 97, 112, 115, 104, 111, 116] } nineN (numJ 1) 1)) (by rw [HV.out]; rfl))
     have t68 : a'.tmps[68]?.getD undef = .agg #[c68_0, c68_1, c68_2, c68_3, c68_4] := by rw [HA.out]; exact e68
     clear e68
     refine wpOp_step rfl fun K hK => ?_
     go_simp
     exact hK _ _ ⟨upd f 69 _, by rw [HA.out]; rfl, hf.upd 69 (by decide) _, h.same 30 _ (.pair B (snapO { data := #[115, 110, 97, 112, 115, 104, 111, 116] } nineN (numJ 1) 1) 10) (by rw [HV.out]; rfl) ⟨_, _, _, _, _, rfl, hr68⟩⟩
   · have t3 : a'.tmps[3]?.getD undef = .string nineN := by rw [HA.out]; exact hf.h3
     refine wpOp_step rfl fun K hK => ?_
     go_simp
     exact hK _ _ ⟨upd f 70 _, by rw [HA.out]; rfl, hf.upd 70 (by decide) _, h.same 31 _ (.con (.string nineN)) (by rw [HV.out]; rfl) rfl⟩
   · refine wpOp_step rfl fun K hK => ?_
     go_simp
     exact hK _ _ ⟨upd f 71 _, by rw [HA.out]; rfl, hf.upd 71 (by decide) _, h.new _ 32 _ (.row B 1 9 (strs [{ data := #[97] }])) (by rw [HV.out]; rfl) (IsRow.made _ hB)⟩
   · have t1 : a'.tmps[1]?.getD undef = .pointer (some ⟨b1, 0, none⟩) := by rw [HA.out]; exact hf.h1
     obtain ⟨x0, x1, x2, x3, x4⟩ := HC1.out w' h.1
     refine wpOp_step rfl fun K hK => ?_
     go_simp
     exact hK _ _ ⟨upd f 72 _, by rw [HA.out]; rfl, hf.upd 72 (by decide) _, h.same 33 _ (.rep B (pJ1)) (by rw [HV.out]; rfl) (HR1.out w' h.1)⟩
   · obtain ⟨c72_0, c72_1, c72_2, c72_3, c72_4, e72, hr72⟩ := HasRep.five (h.get 33 (hw _ rfl ⟨33, .data⟩ (by simp) rfl) (.rep B (pJ1)) (by rw [HV.out]; rfl))
     have t72 : a'.tmps[72]?.getD undef = .agg #[c72_0, c72_1, c72_2, c72_3, c72_4] := by rw [HA.out]; exact e72
     clear e72
     have hbA : ∀ o, Below w'.heap.size w' (w'.alloc o) := fun o => (Below.refl _ _).alloc (Nat.le_refl _) o
     refine wpOp_step rfl fun K hK => ?_
     go_simp
     exact hK _ _ ⟨upd f 73 _, by rw [HA.out]; rfl, hf.upd 73 (by decide) _, h.new _ 34 _ (.vals B [pJ1]) (by rw [HV.out]; rfl) ⟨_, _, rfl, hB, heap_alloc_new _ _, fun i hi => match i, hi with | 0, _ => ⟨_, _, _, _, _, rfl, rfl, rfl, rfl, rfl, hr72.mono (hbA _)⟩⟩⟩
   · obtain ⟨ba, kba, ea, ma⟩ := h.get 32 (hw _ rfl ⟨32, .data⟩ (by simp) rfl) (.row B 1 9 (strs [{ data := #[97] }])) (by rw [HV.out]; rfl)
     have ta : a'.tmps[71]?.getD undef = .slice (some ⟨ba, 0, none⟩) 1 1 := by rw [HA.out]; exact ea
     clear ea
     obtain ⟨bb, cb, eb, kbb, mb, rb⟩ := h.get 34 (hw _ rfl ⟨34, .data⟩ (by simp) rfl) (.vals B [pJ1]) (by rw [HV.out]; rfl)
     have tb : a'.tmps[73]?.getD undef = .slice (some ⟨bb, 0, none⟩) 1 1 := by rw [HA.out]; exact eb
     clear eb
     refine wpOp_step rfl fun K hK => ?_
     go_simp
     refine (objS (B := B) [{ data := #[97] }] [pJ1] ⟨ba, kba, rfl, ma⟩ ⟨bb, cb, rfl, kbb, mb, rb⟩).mono ?_
     rintro e w2 ⟨z, rfl, hz, hb2⟩
     exact hK _ _ ⟨upd f 74 z, by rw [HA.out]; rfl, hf.upd 74 (by decide) _, h.did hb2 35 z (.rep B (.mk 5 0 { data := #[] } [{ data := #[97] }] [pJ1])) (by rw [HV.out]; rfl) hz⟩
   · have t70 : a'.tmps[70]?.getD undef = .string nineN := by rw [HA.out]; exact (h.get 31 (hw _ rfl ⟨31, .data⟩ (by simp) rfl) (.con (.string nineN)) (by rw [HV.out]; rfl) : f 70 = _)
     obtain ⟨c74_0, c74_1, c74_2, c74_3, c74_4, e74, hr74⟩ := HasRep.five (h.get 35 (hw _ rfl ⟨35, .data⟩ (by simp) rfl) (.rep B (.mk 5 0 { data := #[] } [{ data := #[97] }] [pJ1])) (by rw [HV.out]; rfl))
     have t74 : a'.tmps[74]?.getD undef = .agg #[c74_0, c74_1, c74_2, c74_3, c74_4] := by rw [HA.out]; exact e74
     clear e74
     refine wpOp_step rfl fun K hK => ?_
     go_simp
     refine (snapS { data := #[115, 110, 97, 112, 115, 104, 111, 116] } nineN (.mk 5 0 { data := #[] } [{ data := #[97] }] [pJ1]) 1 hr74 hB).mono ?_
     rintro e w2 ⟨z, rfl, hz, hb2⟩
     exact hK _ _ ⟨upd f 75 z, by rw [HA.out]; rfl, hf.upd 75 (by decide) _, h.did hb2 36 z (.rep B (snapO { data := #[115, 110, 97, 112, 115, 104, 111, 116] } nineN (.mk 5 0 { data := #[] } [{ data := #[97] }] [pJ1]) 1)) (by rw [HV.out]; rfl) hz⟩
   · obtain ⟨c75_0, c75_1, c75_2, c75_3, c75_4, e75, hr75⟩ := HasRep.five (h.get 36 (hw _ rfl ⟨36, .data⟩ (by simp) rfl) (.rep B (snapO { data := #[115, 110, 97, 112, 115, 104, 111, 116] } nineN (.mk 5 0 { data := #[] } [{ data := #[97] }] [pJ1]) 1)) (by rw [HV.out]; rfl))
     have t75 : a'.tmps[75]?.getD undef = .agg #[c75_0, c75_1, c75_2, c75_3, c75_4] := by rw [HA.out]; exact e75
     clear e75
     refine wpOp_step rfl fun K hK => ?_
     go_simp
     exact hK _ _ ⟨upd f 76 _, by rw [HA.out]; rfl, hf.upd 76 (by decide) _, h.same 37 _ (.pair B (snapO { data := #[115, 110, 97, 112, 115, 104, 111, 116] } nineN (.mk 5 0 { data := #[] } [{ data := #[97] }] [pJ1]) 1) 3) (by rw [HV.out]; rfl) ⟨_, _, _, _, _, rfl, hr75⟩⟩
   · have t3 : a'.tmps[3]?.getD undef = .string nineN := by rw [HA.out]; exact hf.h3
     refine wpOp_step rfl fun K hK => ?_
     go_simp
     exact hK _ _ ⟨upd f 77 _, by rw [HA.out]; rfl, hf.upd 77 (by decide) _, h.same 38 _ (.con (.string nineN)) (by rw [HV.out]; rfl) rfl⟩
   · refine wpOp_step rfl fun K hK => ?_
     go_simp
     exact hK _ _ ⟨upd f 78 _, by rw [HA.out]; rfl, hf.upd 78 (by decide) _, h.new _ 39 _ (.row B 1 9 (strs [{ data := #[97, 46, 106, 115, 111, 110] }])) (by rw [HV.out]; rfl) (IsRow.made _ hB)⟩
   · refine wpOp_step rfl fun K hK => ?_
     go_simp
     refine (numS B 1 w').mono ?_
     rintro e w2 ⟨z, rfl, hz, hb2⟩
     exact hK _ _ ⟨upd f 79 z, by rw [HA.out]; rfl, hf.upd 79 (by decide) _, h.did hb2 40 z (.rep B (numJ 1)) (by rw [HV.out]; rfl) hz⟩
   · obtain ⟨c79_0, c79_1, c79_2, c79_3, c79_4, e79, hr79⟩ := HasRep.five (h.get 40 (hw _ rfl ⟨40, .data⟩ (by simp) rfl) (.rep B (numJ 1)) (by rw [HV.out]; rfl))
     have t79 : a'.tmps[79]?.getD undef = .agg #[c79_0, c79_1, c79_2, c79_3, c79_4] := by rw [HA.out]; exact e79
     clear e79
     have hbA : ∀ o, Below w'.heap.size w' (w'.alloc o) := fun o => (Below.refl _ _).alloc (Nat.le_refl _) o
     refine wpOp_step rfl fun K hK => ?_
     go_simp
     exact hK _ _ ⟨upd f 80 _, by rw [HA.out]; rfl, hf.upd 80 (by decide) _, h.new _ 41 _ (.vals B [numJ 1]) (by rw [HV.out]; rfl) ⟨_, _, rfl, hB, heap_alloc_new _ _, fun i hi => match i, hi with | 0, _ => ⟨_, _, _, _, _, rfl, rfl, rfl, rfl, rfl, hr79.mono (hbA _)⟩⟩⟩
   · obtain ⟨ba, kba, ea, ma⟩ := h.get 39 (hw _ rfl ⟨39, .data⟩ (by simp) rfl) (.row B 1 9 (strs [{ data := #[97, 46, 106, 115, 111, 110] }])) (by rw [HV.out]; rfl)
     have ta : a'.tmps[78]?.getD undef = .slice (some ⟨ba, 0, none⟩) 1 1 := by rw [HA.out]; exact ea
     clear ea
     obtain ⟨bb, cb, eb, kbb, mb, rb⟩ := h.get 41 (hw _ rfl ⟨41, .data⟩ (by simp) rfl) (.vals B [numJ 1]) (by rw [HV.out]; rfl)
     have tb : a'.tmps[80]?.getD undef = .slice (some ⟨bb, 0, none⟩) 1 1 := by rw [HA.out]; exact eb
     clear eb
     refine wpOp_step rfl fun K hK => ?_
     go_simp
     refine (objS (B := B) [{ data := #[97, 46, 106, 115, 111, 110] }] [numJ 1] ⟨ba, kba, rfl, ma⟩ ⟨bb, cb, rfl, kbb, mb, rb⟩).mono ?_
     rintro e w2 ⟨z, rfl, hz, hb2⟩
     exact hK _ _ ⟨upd f 81 z, by rw [HA.out]; rfl, hf.upd 81 (by decide) _, h.did hb2 42 z (.rep B (.mk 5 0 { data := #[] } [{ data := #[97, 46, 106, 115, 111, 110] }] [numJ 1])) (by rw [HV.out]; rfl) hz⟩
   · have t77 : a'.tmps[77]?.getD undef = .string nineN := by rw [HA.out]; exact (h.get 38 (hw _ rfl ⟨38, .data⟩ (by simp) rfl) (.con (.string nineN)) (by rw [HV.out]; rfl) : f 77 = _)
     obtain ⟨c81_0, c81_1, c81_2, c81_3, c81_4, e81, hr81⟩ := HasRep.five (h.get 42 (hw _ rfl ⟨42, .data⟩ (by simp) rfl) (.rep B (.mk 5 0 { data := #[] } [{ data := #[97, 46, 106, 115, 111, 110] }] [numJ 1])) (by rw [HV.out]; rfl))
     have t81 : a'.tmps[81]?.getD undef = .agg #[c81_0, c81_1, c81_2, c81_3, c81_4] := by rw [HA.out]; exact e81
     clear e81
     refine wpOp_step rfl fun K hK => ?_
     go_simp
     refine (snapS { data := #[115, 110, 97, 112, 115, 104, 111, 116] } nineN (.mk 5 0 { data := #[] } [{ data := #[97, 46, 106, 115, 111, 110] }] [numJ 1]) 1 hr81 hB).mono ?_
     rintro e w2 ⟨z, rfl, hz, hb2⟩
     exact hK _ _ ⟨upd f 82 z, by rw [HA.out]; rfl, hf.upd 82 (by decide) _, h.did hb2 43 z (.rep B (snapO { data := #[115, 110, 97, 112, 115, 104, 111, 116] } nineN (.mk 5 0 { data := #[] } [{ data := #[97, 46, 106, 115, 111, 110] }] [numJ 1]) 1)) (by rw [HV.out]; rfl) hz⟩
   · obtain ⟨c82_0, c82_1, c82_2, c82_3, c82_4, e82, hr82⟩ := HasRep.five (h.get 43 (hw _ rfl ⟨43, .data⟩ (by simp) rfl) (.rep B (snapO { data := #[115, 110, 97, 112, 115, 104, 111, 116] } nineN (.mk 5 0 { data := #[] } [{ data := #[97, 46, 106, 115, 111, 110] }] [numJ 1]) 1)) (by rw [HV.out]; rfl))
     have t82 : a'.tmps[82]?.getD undef = .agg #[c82_0, c82_1, c82_2, c82_3, c82_4] := by rw [HA.out]; exact e82
     clear e82
     refine wpOp_step rfl fun K hK => ?_
     go_simp
     exact hK _ _ ⟨upd f 83 _, by rw [HA.out]; rfl, hf.upd 83 (by decide) _, h.same 44 _ (.pair B (snapO { data := #[115, 110, 97, 112, 115, 104, 111, 116] } nineN (.mk 5 0 { data := #[] } [{ data := #[97, 46, 106, 115, 111, 110] }] [numJ 1]) 1) 10) (by rw [HV.out]; rfl) ⟨_, _, _, _, _, rfl, hr82⟩⟩
   · have t3 : a'.tmps[3]?.getD undef = .string nineN := by rw [HA.out]; exact hf.h3
     refine wpOp_step rfl fun K hK => ?_
     go_simp
     exact hK _ _ ⟨upd f 84 _, by rw [HA.out]; rfl, hf.upd 84 (by decide) _, h.same 45 _ (.con (.string nineN)) (by rw [HV.out]; rfl) rfl⟩
   · refine wpOp_step rfl fun K hK => ?_
     go_simp
     exact hK _ _ ⟨upd f 85 _, by rw [HA.out]; rfl, hf.upd 85 (by decide) _, h.new _ 46 _ (.row B 2 9 (strs [{ data := #[97, 46, 106, 115, 111, 110] }, { data := #[98] }])) (by rw [HV.out]; rfl) (IsRow.made _ hB)⟩
   · have t2 : a'.tmps[2]?.getD undef = .pointer (some ⟨b2, 0, none⟩) := by rw [HA.out]; exact hf.h2
     obtain ⟨x0, x1, x2, x3, x4⟩ := HC2.out w' h.1
     refine wpOp_step rfl fun K hK => ?_
     go_simp
     exact hK _ _ ⟨upd f 86 _, by rw [HA.out]; rfl, hf.upd 86 (by decide) _, h.same 47 _ (.rep B (objJ [])) (by rw [HV.out]; rfl) (HR2.out w' h.1)⟩
   · have t1 : a'.tmps[1]?.getD undef = .pointer (some ⟨b1, 0, none⟩) := by rw [HA.out]; exact hf.h1
     obtain ⟨x0, x1, x2, x3, x4⟩ := HC1.out w' h.1
     refine wpOp_step rfl fun K hK => ?_
     go_simp
     exact hK _ _ ⟨upd f 87 _, by rw [HA.out]; rfl, hf.upd 87 (by decide) _, h.same 48 _ (.rep B (pJ1)) (by rw [HV.out]; rfl) (HR1.out w' h.1)⟩
   · obtain ⟨c86_0, c86_1, c86_2, c86_3, c86_4, e86, hr86⟩ := HasRep.five (h.get 47 (hw _ rfl ⟨47, .data⟩ (by simp) rfl) (.rep B (objJ [])) (by rw [HV.out]; rfl))
     have t86 : a'.tmps[86]?.getD undef = .agg #[c86_0, c86_1, c86_2, c86_3, c86_4] := by rw [HA.out]; exact e86
     clear e86
     obtain ⟨c87_0, c87_1, c87_2, c87_3, c87_4, e87, hr87⟩ := HasRep.five (h.get 48 (hw _ rfl ⟨48, .data⟩ (by simp) rfl) (.rep B (pJ1)) (by rw [HV.out]; rfl))
     have t87 : a'.tmps[87]?.getD undef = .agg #[c87_0, c87_1, c87_2, c87_3, c87_4] := by rw [HA.out]; exact e87
     clear e87
     have hbA : ∀ o, Below w'.heap.size w' (w'.alloc o) := fun o => (Below.refl _ _).alloc (Nat.le_refl _) o
     refine wpOp_step rfl fun K hK => ?_
     go_simp
     exact hK _ _ ⟨upd f 88 _, by rw [HA.out]; rfl, hf.upd 88 (by decide) _, h.new _ 49 _ (.vals B [objJ [], pJ1]) (by rw [HV.out]; rfl) ⟨_, _, rfl, hB, heap_alloc_new _ _, fun i hi => match i, hi with | 0, _ => ⟨_, _, _, _, _, rfl, rfl, rfl, rfl, rfl, hr86.mono (hbA _)⟩ | 1, _ => ⟨_, _, _, _, _, rfl, rfl, rfl, rfl, rfl, hr87.mono (hbA _)⟩⟩⟩
   · obtain ⟨ba, kba, ea, ma⟩ := h.get 46 (hw _ rfl ⟨46, .data⟩ (by simp) rfl) (.row B 2 9 (strs [{ data := #[97, 46, 106, 115, 111, 110] }, { data := #[98] }])) (by rw [HV.out]; rfl)
     have ta : a'.tmps[85]?.getD undef = .slice (some ⟨ba, 0, none⟩) 2 2 := by rw [HA.out]; exact ea
     clear ea
     obtain ⟨bb, cb, eb, kbb, mb, rb⟩ := h.get 49 (hw _ rfl ⟨49, .data⟩ (by simp) rfl) (.vals B [objJ [], pJ1]) (by rw [HV.out]; rfl)
     have tb : a'.tmps[88]?.getD undef = .slice (some ⟨bb, 0, none⟩) 2 2 := by rw [HA.out]; exact eb
     clear eb
     refine wpOp_step rfl fun K hK => ?_
     go_simp
     refine (objS (B := B) [{ data := #[97, 46, 106, 115, 111, 110] }, { data := #[98] }] [objJ [], pJ1] ⟨ba, kba, rfl, ma⟩ ⟨bb, cb, rfl, kbb, mb, rb⟩).mono ?_
     rintro e w2 ⟨z, rfl, hz, hb2⟩
     exact hK _ _ ⟨upd f 89 z, by rw [HA.out]; rfl, hf.upd 89 (by decide) _, h.did hb2 50 z (.rep B (.mk 5 0 { data := #[] } [{ data := #[97, 46, 106, 115, 111, 110] }, { data := #[98] }] [objJ [], pJ1])) (by rw [HV.out]; rfl) hz⟩
   · have t84 : a'.tmps[84]?.getD undef = .string nineN := by rw [HA.out]; exact (h.get 45 (hw _ rfl ⟨45, .data⟩ (by simp) rfl) (.con (.string nineN)) (by rw [HV.out]; rfl) : f 84 = _)
     obtain ⟨c89_0, c89_1, c89_2, c89_3, c89_4, e89, hr89⟩ := HasRep.five (h.get 50 (hw _ rfl ⟨50, .data⟩ (by simp) rfl) (.rep B (.mk 5 0 { data := #[] } [{ data := #[97, 46, 106, 115, 111, 110] }, { data := #[98] }] [objJ [], pJ1])) (by rw [HV.out]; rfl))
     have t89 : a'.tmps[89]?.getD undef = .agg #[c89_0, c89_1, c89_2, c89_3, c89_4] := by rw [HA.out]; exact e89
     clear e89
     refine wpOp_step rfl fun K hK => ?_
     go_simp
     refine (snapS { data := #[115, 110, 97, 112, 115, 104, 111, 116] } nineN (.mk 5 0 { data := #[] } [{ data := #[97, 46, 106, 115, 111, 110] }, { data := #[98] }] [objJ [], pJ1]) 1 hr89 hB).mono ?_
     rintro e w2 ⟨z, rfl, hz, hb2⟩
     exact hK _ _ ⟨upd f 90 z, by rw [HA.out]; rfl, hf.upd 90 (by decide) _, h.did hb2 51 z (.rep B (snapO { data := #[115, 110, 97, 112, 115, 104, 111, 116] } nineN (.mk 5 0 { data := #[] } [{ data := #[97, 46, 106, 115, 111, 110] }, { data := #[98] }] [objJ [], pJ1]) 1)) (by rw [HV.out]; rfl) hz⟩
   · obtain ⟨c90_0, c90_1, c90_2, c90_3, c90_4, e90, hr90⟩ := HasRep.five (h.get 51 (hw _ rfl ⟨51, .data⟩ (by simp) rfl) (.rep B (snapO { data := #[115, 110, 97, 112, 115, 104, 111, 116] } nineN (.mk 5 0 { data := #[] } [{ data := #[97, 46, 106, 115, 111, 110] }, { data := #[98] }] [objJ [], pJ1]) 1)) (by rw [HV.out]; rfl))
     have t90 : a'.tmps[90]?.getD undef = .agg #[c90_0, c90_1, c90_2, c90_3, c90_4] := by rw [HA.out]; exact e90
     clear e90
     refine wpOp_step rfl fun K hK => ?_
     go_simp
     exact hK _ _ ⟨upd f 91 _, by rw [HA.out]; rfl, hf.upd 91 (by decide) _, h.same 52 _ (.pair B (snapO { data := #[115, 110, 97, 112, 115, 104, 111, 116] } nineN (.mk 5 0 { data := #[] } [{ data := #[97, 46, 106, 115, 111, 110] }, { data := #[98] }] [objJ [], pJ1]) 1) 6) (by rw [HV.out]; rfl) ⟨_, _, _, _, _, rfl, hr90⟩⟩
   · have t3 : a'.tmps[3]?.getD undef = .string nineN := by rw [HA.out]; exact hf.h3
     refine wpOp_step rfl fun K hK => ?_
     go_simp
     exact hK _ _ ⟨upd f 92 _, by rw [HA.out]; rfl, hf.upd 92 (by decide) _, h.same 53 _ (.con (.string nineN)) (by rw [HV.out]; rfl) rfl⟩
   · refine wpOp_step rfl fun K hK => ?_
     go_simp
     exact hK _ _ ⟨upd f 93 _, by rw [HA.out]; rfl, hf.upd 93 (by decide) _, h.new _ 54 _ (.row B 1 9 (strs [{ data := #[97, 46, 106, 115, 111, 110] }])) (by rw [HV.out]; rfl) (IsRow.made _ hB)⟩
   · refine wpOp_step rfl fun K hK => ?_
     go_simp
     exact hK _ _ ⟨upd f 94 _, by rw [HA.out]; rfl, hf.upd 94 (by decide) _, h.new _ 55 _ (.row B 2 9 (strs [{ data := #[108, 101, 110, 103, 116, 104] }, { data := #[118, 101, 114, 115, 105, 111, 110] }])) (by rw [HV.out]; rfl) (IsRow.made _ hB)⟩
   · refine wpOp_step rfl fun K hK => ?_
     go_simp
     refine (numS B (-1) w').mono ?_
     rintro e w2 ⟨z, rfl, hz, hb2⟩
     exact hK _ _ ⟨upd f 95 z, by rw [HA.out]; rfl, hf.upd 95 (by decide) _, h.did hb2 56 z (.rep B (numJ (-1))) (by rw [HV.out]; rfl) hz⟩
   · refine wpOp_step rfl fun K hK => ?_
     go_simp
     refine (numS B 1 w').mono ?_
     rintro e w2 ⟨z, rfl, hz, hb2⟩
     exact hK _ _ ⟨upd f 96 z, by rw [HA.out]; rfl, hf.upd 96 (by decide) _, h.did hb2 57 z (.rep B (numJ 1)) (by rw [HV.out]; rfl) hz⟩
   · obtain ⟨c95_0, c95_1, c95_2, c95_3, c95_4, e95, hr95⟩ := HasRep.five (h.get 56 (hw _ rfl ⟨56, .data⟩ (by simp) rfl) (.rep B (numJ (-1))) (by rw [HV.out]; rfl))
     have t95 : a'.tmps[95]?.getD undef = .agg #[c95_0, c95_1, c95_2, c95_3, c95_4] := by rw [HA.out]; exact e95
     clear e95
     obtain ⟨c96_0, c96_1, c96_2, c96_3, c96_4, e96, hr96⟩ := HasRep.five (h.get 57 (hw _ rfl ⟨57, .data⟩ (by simp) rfl) (.rep B (numJ 1)) (by rw [HV.out]; rfl))
     have t96 : a'.tmps[96]?.getD undef = .agg #[c96_0, c96_1, c96_2, c96_3, c96_4] := by rw [HA.out]; exact e96
     clear e96
     have hbA : ∀ o, Below w'.heap.size w' (w'.alloc o) := fun o => (Below.refl _ _).alloc (Nat.le_refl _) o
     refine wpOp_step rfl fun K hK => ?_
     go_simp
     exact hK _ _ ⟨upd f 97 _, by rw [HA.out]; rfl, hf.upd 97 (by decide) _, h.new _ 58 _ (.vals B [numJ (-1), numJ 1]) (by rw [HV.out]; rfl) ⟨_, _, rfl, hB, heap_alloc_new _ _, fun i hi => match i, hi with | 0, _ => ⟨_, _, _, _, _, rfl, rfl, rfl, rfl, rfl, hr95.mono (hbA _)⟩ | 1, _ => ⟨_, _, _, _, _, rfl, rfl, rfl, rfl, rfl, hr96.mono (hbA _)⟩⟩⟩
   · obtain ⟨ba, kba, ea, ma⟩ := h.get 55 (hw _ rfl ⟨55, .data⟩ (by simp) rfl) (.row B 2 9 (strs [{ data := #[108, 101, 110, 103, 116, 104] }, { data := #[118, 101, 114, 115, 105, 111, 110] }])) (by rw [HV.out]; rfl)
     have ta : a'.tmps[94]?.getD undef = .slice (some ⟨ba, 0, none⟩) 2 2 := by rw [HA.out]; exact ea
     clear ea
     obtain ⟨bb, cb, eb, kbb, mb, rb⟩ := h.get 58 (hw _ rfl ⟨58, .data⟩ (by simp) rfl) (.vals B [numJ (-1), numJ 1]) (by rw [HV.out]; rfl)
     have tb : a'.tmps[97]?.getD undef = .slice (some ⟨bb, 0, none⟩) 2 2 := by rw [HA.out]; exact eb
     clear eb
     refine wpOp_step rfl fun K hK => ?_
     go_simp
     refine (objS (B := B) [{ data := #[108, 101, 110, 103, 116, 104] }, { data := #[118, 101, 114, 115, 105, 111, 110] }] [numJ (-1), numJ 1] ⟨ba, kba, rfl, ma⟩ ⟨bb, cb, rfl, kbb, mb, rb⟩).mono ?_
     rintro e w2 ⟨z, rfl, hz, hb2⟩
     exact hK _ _ ⟨upd f 98 z, by rw [HA.out]; rfl, hf.upd 98 (by decide) _, h.did hb2 59 z (.rep B (.mk 5 0 { data := #[] } [{ data := #[108, 101, 110, 103, 116, 104] }, { data := #[118, 101, 114, 115, 105, 111, 110] }] [numJ (-1), numJ 1])) (by rw [HV.out]; rfl) hz⟩
   · obtain ⟨c98_0, c98_1, c98_2, c98_3, c98_4, e98, hr98⟩ := HasRep.five (h.get 59 (hw _ rfl ⟨59, .data⟩ (by simp) rfl) (.rep B (.mk 5 0 { data := #[] } [{ data := #[108, 101, 110, 103, 116, 104] }, { data := #[118, 101, 114, 115, 105, 111, 110] }] [numJ (-1), numJ 1])) (by rw [HV.out]; rfl))
     have t98 : a'.tmps[98]?.getD undef = .agg #[c98_0, c98_1, c98_2, c98_3, c98_4] := by rw [HA.out]; exact e98
     clear e98
     have hbA : ∀ o, Below w'.heap.size w' (w'.alloc o) := fun o => (Below.refl _ _).alloc (Nat.le_refl _) o
     refine wpOp_step rfl fun K hK => ?_
     go_simp
     exact hK _ _ ⟨upd f 99 _, by rw [HA.out]; rfl, hf.upd 99 (by decide) _, h.new _ 60 _ (.vals B [.mk 5 0 { data := #[] } [{ data := #[108, 101, 110, 103, 116, 104] }, { data := #[118, 101, 114, 115, 105, 111, 110] }] [numJ (-1), numJ 1]]) (by rw [HV.out]; rfl) ⟨_, _, rfl, hB, heap_alloc_new _ _, fun i hi => match i, hi with | 0, _ => ⟨_, _, _, _, _, rfl, rfl, rfl, rfl, rfl, hr98.mono (hbA _)⟩⟩⟩
   · obtain ⟨ba, kba, ea, ma⟩ := h.get 54 (hw _ rfl ⟨54, .data⟩ (by simp) rfl) (.row B 1 9 (strs [{ data := #[97, 46, 106, 115, 111, 110] }])) (by rw [HV.out]; rfl)
     have ta : a'.tmps[93]?.getD undef = .slice (some ⟨ba, 0, none⟩) 1 1 := by rw [HA.out]; exact ea
     clear ea
     obtain ⟨bb, cb, eb, kbb, mb, rb⟩ := h.get 60 (hw _ rfl ⟨60, .data⟩ (by simp) rfl) (.vals B [.mk 5 0 { data := #[] } [{ data := #[108, 101, 110, 103, 116, 104] }, { data := #[118, 101, 114, 115, 105, 111, 110] }] [numJ (-1), numJ 1]]) (by rw [HV.out]; rfl)
     have tb : a'.tmps[99]?.getD undef = .slice (some ⟨bb, 0, none⟩) 1 1 := by rw [HA.out]; exact eb
     clear eb
     refine wpOp_step rfl fun K hK => ?_
     go_simp
     refine (objS (B := B) [{ data := #[97, 46, 106, 115, 111, 110] }] [.mk 5 0 { data := #[] } [{ data := #[108, 101, 110, 103, 116, 104] }, { data := #[118, 101, 114, 115, 105, 111, 110] }] [numJ (-1), numJ 1]] ⟨ba, kba, rfl, ma⟩ ⟨bb, cb, rfl, kbb, mb, rb⟩).mono ?_
     rintro e w2 ⟨z, rfl, hz, hb2⟩
     exact hK _ _ ⟨upd f 100 z, by rw [HA.out]; rfl, hf.upd 100 (by decide) _, h.did hb2 61 z (.rep B (.mk 5 0 { data := #[] } [{ data := #[97, 46, 106, 115, 111, 110] }] [.mk 5 0 { data := #[] } [{ data := #[108, 101, 110, 103, 116, 104] }, { data := #[118, 101, 114, 115, 105, 111, 110] }] [numJ (-1), numJ 1]])) (by rw [HV.out]; rfl) hz⟩
   · have t92 : a'.tmps[92]?.getD undef = .string nineN := by rw [HA.out]; exact (h.get 53 (hw _ rfl ⟨53, .data⟩ (by simp) rfl) (.con (.string nineN)) (by rw [HV.out]; rfl) : f 92 = _)
     obtain ⟨c100_0, c100_1, c100_2, c100_3, c100_4, e100, hr100⟩ := HasRep.five (h.get 61 (hw _ rfl ⟨61, .data⟩ (by simp) rfl) (.rep B (.mk 5 0 { data := #[] } [{ data := #[97, 46, 106, 115, 111, 110] }] [.mk 5 0 { data := #[] } [{ data := #[108, 101, 110, 103, 116, 104] }, { data := #[118, 101, 114, 115, 105, 111, 110] }] [numJ (-1), numJ 1]])) (by rw [HV.out]; rfl))
     have t100 : a'.tmps[100]?.getD undef = .agg #[c100_0, c100_1, c100_2, c100_3, c100_4] := by rw [HA.out]; exact e100
     clear e100
     refine wpOp_step rfl fun K hK => ?_
     go_simp
     refine (snapS { data := #[115, 110, 97, 112, 115, 104, 111, 116] } nineN (.mk 5 0 { data := #[] } [{ data := #[97, 46, 106, 115, 111, 110] }] [.mk 5 0 { data := #[] } [{ data := #[108, 101, 110, 103, 116, 104] }, { data := #[118, 101, 114, 115, 105, 111, 110] }] [numJ (-1), numJ 1]]) 1 hr100 hB).mono ?_
     rintro e w2 ⟨z, rfl, hz, hb2⟩
     exact hK _ _ ⟨upd f 101 z, by rw [HA.out]; rfl, hf.upd 101 (by decide) _, h.did hb2 62 z (.rep B (snapO { data := #[115, 110, 97, 112, 115, 104, 111, 116] } nineN (.mk 5 0 { data := #[] } [{ data := #[97, 46, 106, 115, 111, 110] }] [.mk 5 0 { data := #[] } [{ data := #[108, 101, 110, 103, 116, 104] }, { data := #[118, 101, 114, 115, 105, 111, 110] }] [numJ (-1), numJ 1]]) 1)) (by rw [HV.out]; rfl) hz⟩
   · obtain ⟨c101_0, c101_1, c101_2, c101_3, c101_4, e101, hr101⟩ := HasRep.five (h.get 62 (hw _ rfl ⟨62, .data⟩ (by simp) rfl) (.rep B (snapO { data := #[115, 110, 97, 112, 115, 104, 111, 116] } nineN (.mk 5 0 { data := #[] } [{ data := #[97, 46, 106, 115, 111, 110] }] [.mk 5 0 { data := #[] } [{ data := #[108, 101, 110, 103, 116, 104] }, { data := #[118, 101, 114, 115, 105, 111, 110] }] [numJ (-1), numJ 1]]) 1)) (by rw [HV.out]; rfl))
     have t101 : a'.tmps[101]?.getD undef = .agg #[c101_0, c101_1, c101_2, c101_3, c101_4] := by rw [HA.out]; exact e101
     clear e101
     refine wpOp_step rfl fun K hK => ?_
     go_simp
     exact hK _ _ ⟨upd f 102 _, by rw [HA.out]; rfl, hf.upd 102 (by decide) _, h.same 63 _ (.pair B (snapO { data := #[115, 110, 97, 112, 115, 104, 111, 116] } nineN (.mk 5 0 { data := #[] } [{ data := #[97, 46, 106, 115, 111, 110] }] [.mk 5 0 { data := #[] } [{ data := #[108, 101, 110, 103, 116, 104] }, { data := #[118, 101, 114, 115, 105, 111, 110] }] [numJ (-1), numJ 1]]) 1) 1) (by rw [HV.out]; rfl) ⟨_, _, _, _, _, rfl, hr101⟩⟩
   · have t3 : a'.tmps[3]?.getD undef = .string nineN := by rw [HA.out]; exact hf.h3
     refine wpOp_step rfl fun K hK => ?_
     go_simp
     exact hK _ _ ⟨upd f 103 _, by rw [HA.out]; rfl, hf.upd 103 (by decide) _, h.same 64 _ (.con (.string nineN)) (by rw [HV.out]; rfl) rfl⟩
   · refine wpOp_step rfl fun K hK => ?_
     go_simp
     exact hK _ _ ⟨upd f 104 _, by rw [HA.out]; rfl, hf.upd 104 (by decide) _, h.new _ 65 _ (.row B 1 9 (strs [{ data := #[97, 46, 106, 115, 111, 110] }])) (by rw [HV.out]; rfl) (IsRow.made _ hB)⟩
   · refine wpOp_step rfl fun K hK => ?_
     go_simp
     exact hK _ _ ⟨upd f 105 _, by rw [HA.out]; rfl, hf.upd 105 (by decide) _, h.new _ 66 _ (.row B 2 9 (strs [{ data := #[104, 97, 115, 104, 101, 115] }, { data := #[118, 101, 114, 115, 105, 111, 110] }])) (by rw [HV.out]; rfl) (IsRow.made _ hB)⟩
   · have t2 : a'.tmps[2]?.getD undef = .pointer (some ⟨b2, 0, none⟩) := by rw [HA.out]; exact hf.h2
     obtain ⟨x0, x1, x2, x3, x4⟩ := HC2.out w' h.1
     refine wpOp_step rfl fun K hK => ?_
     go_simp
     exact hK _ _ ⟨upd f 106 _, by rw [HA.out]; rfl, hf.upd 106 (by decide) _, h.same 67 _ (.rep B (objJ [])) (by rw [HV.out]; rfl) (HR2.out w' h.1)⟩
   · refine wpOp_step rfl fun K hK => ?_
     go_simp
     refine (numS B 1 w').mono ?_
     rintro e w2 ⟨z, rfl, hz, hb2⟩
     exact hK _ _ ⟨upd f 107 z, by rw [HA.out]; rfl, hf.upd 107 (by decide) _, h.did hb2 68 z (.rep B (numJ 1)) (by rw [HV.out]; rfl) hz⟩
   · obtain ⟨c106_0, c106_1, c106_2, c106_3, c106_4, e106, hr106⟩ := HasRep.five (h.get 67 (hw _ rfl ⟨67, .data⟩ (by simp) rfl) (.rep B (objJ [])) (by rw [HV.out]; rfl))
     have t106 : a'.tmps[106]?.getD undef = .agg #[c106_0, c106_1, c106_2, c106_3, c106_4] := by rw [HA.out]; exact e106
     clear e106
     obtain ⟨c107_0, c107_1, c107_2, c107_3, c107_4, e107, hr107⟩ := HasRep.five (h.get 68 (hw _ rfl ⟨68, .data⟩ (by simp) rfl) (.rep B (numJ 1)) (by rw [HV.out]; rfl))
     have t107 : a'.tmps[107]?.getD undef = .agg #[c107_0, c107_1, c107_2, c107_3, c107_4] := by rw [HA.out]; exact e107
     clear e107
     have hbA : ∀ o, Below w'.heap.size w' (w'.alloc o) := fun o => (Below.refl _ _).alloc (Nat.le_refl _) o
     refine wpOp_step rfl fun K hK => ?_
     go_simp
     exact hK _ _ ⟨upd f 108 _, by rw [HA.out]; rfl, hf.upd 108 (by decide) _, h.new _ 69 _ (.vals B [objJ [], numJ 1]) (by rw [HV.out]; rfl) ⟨_, _, rfl, hB, heap_alloc_new _ _, fun i hi => match i, hi with | 0, _ => ⟨_, _, _, _, _, rfl, rfl, rfl, rfl, rfl, hr106.mono (hbA _)⟩ | 1, _ => ⟨_, _, _, _, _, rfl, rfl, rfl, rfl, rfl, hr107.mono (hbA _)⟩⟩⟩
   · obtain ⟨ba, kba, ea, ma⟩ := h.get 66 (hw _ rfl ⟨66, .data⟩ (by simp) rfl) (.row B 2 9 (strs [{ data := #[104, 97, 115, 104, 101, 115] }, { data := #[118, 101, 114, 115, 105, 111, 110] }])) (by rw [HV.out]; rfl)
     have ta : a'.tmps[105]?.getD undef = .slice (some ⟨ba, 0, none⟩) 2 2 := by rw [HA.out]; exact ea
     clear ea
     obtain ⟨bb, cb, eb, kbb, mb, rb⟩ := h.get 69 (hw _ rfl ⟨69, .data⟩ (by simp) rfl) (.vals B [objJ [], numJ 1]) (by rw [HV.out]; rfl)
     have tb : a'.tmps[108]?.getD undef = .slice (some ⟨bb, 0, none⟩) 2 2 := by rw [HA.out]; exact eb
     clear eb
     refine wpOp_step rfl fun K hK => ?_
     go_simp
     refine (objS (B := B) [{ data := #[104, 97, 115, 104, 101, 115] }, { data := #[118, 101, 114, 115, 105, 111, 110] }] [objJ [], numJ 1] ⟨ba, kba, rfl, ma⟩ ⟨bb, cb, rfl, kbb, mb, rb⟩).mono ?_
     rintro e w2 ⟨z, rfl, hz, hb2⟩
     exact hK _ _ ⟨upd f 109 z, by rw [HA.out]; rfl, hf.upd 109 (by decide) _, h.did hb2 70 z (.rep B (.mk 5 0 { data := #[] } [{ data := #[104, 97, 115, 104, 101, 115] }, { data := #[118, 101, 114, 115, 105, 111, 110] }] [objJ [], numJ 1])) (by rw [HV.out]; rfl) hz⟩
   · obtain ⟨c109_0, c109_1, c109_2, c109_3, c109_4, e109, hr109⟩ := HasRep.five (h.get 70 (hw _ rfl ⟨70, .data⟩ (by simp) rfl) (.rep B (.mk 5 0 { data := #[] } [{ data := #[104, 97, 115, 104, 101, 115] }, { data := #[118, 101, 114, 115, 105, 111, 110] }] [objJ [], numJ 1])) (by rw [HV.out]; rfl))
     have t109 : a'.tmps[109]?.getD undef = .agg #[c109_0, c109_1, c109_2, c109_3, c109_4] := by rw [HA.out]; exact e109
     clear e109
     have hbA : ∀ o, Below w'.heap.size w' (w'.alloc o) := fun o => (Below.refl _ _).alloc (Nat.le_refl _) o
     refine wpOp_step rfl fun K hK => ?_
     go_simp
     exact hK _ _ ⟨upd f 110 _, by rw [HA.out]; rfl, hf.upd 110 (by decide) _, h.new _ 71 _ (.vals B [.mk 5 0 { data := #[] } [{ data := #[104, 97, 115, 104, 101, 115] }, { data := #[118, 101, 114, 115, 105, 111, 110] }] [objJ [], numJ 1]]) (by rw [HV.out]; rfl) ⟨_, _, rfl, hB, heap_alloc_new _ _, fun i hi => match i, hi with | 0, _ => ⟨_, _, _, _, _, rfl, rfl, rfl, rfl, rfl, hr109.mono (hbA _)⟩⟩⟩
   · obtain ⟨ba, kba, ea, ma⟩ := h.get 65 (hw _ rfl ⟨65, .data⟩ (by simp) rfl) (.row B 1 9 (strs [{ data := #[97, 46, 106, 115, 111, 110] }])) (by rw [HV.out]; rfl)
     have ta : a'.tmps[104]?.getD undef = .slice (some ⟨ba, 0, none⟩) 1 1 := by rw [HA.out]; exact ea
     clear ea
     obtain ⟨bb, cb, eb, kbb, mb, rb⟩ := h.get 71 (hw _ rfl ⟨71, .data⟩ (by simp) rfl) (.vals B [.mk 5 0 { data := #[] } [{ data := #[104, 97, 115, 104, 101, 115] }, { data := #[118, 101, 114, 115, 105, 111, 110] }] [objJ [], numJ 1]]) (by rw [HV.out]; rfl)
     have tb : a'.tmps[110]?.getD undef = .slice (some ⟨bb, 0, none⟩) 1 1 := by rw [HA.out]; exact eb
     clear eb
     refine wpOp_step rfl fun K hK => ?_
     go_simp
     refine (objS (B := B) [{ data := #[97, 46, 106, 115, 111, 110] }] [.mk 5 0 { data := #[] } [{ data := #[104, 97, 115, 104, 101, 115] }, { data := #[118, 101, 114, 115, 105, 111, 110] }] [objJ [], numJ 1]] ⟨ba, kba, rfl, ma⟩ ⟨bb, cb, rfl, kbb, mb, rb⟩).mono ?_
     rintro e w2 ⟨z, rfl, hz, hb2⟩
     exact hK _ _ ⟨upd f 111 z, by rw [HA.out]; rfl, hf.upd 111 (by decide) _, h.did hb2 72 z (.rep B (.mk 5 0 { data := #[] } [{ data := #[97, 46, 106, 115, 111, 110] }] [.mk 5 0 { data := #[] } [{ data := #[104, 97, 115, 104, 101, 115] }, { data := #[118, 101, 114, 115, 105, 111, 110] }] [objJ [], numJ 1]])) (by rw [HV.out]; rfl) hz⟩
   · have t103 : a'.tmps[103]?.getD undef = .string nineN := by rw [HA.out]; exact (h.get 64 (hw _ rfl ⟨64, .data⟩ (by simp) rfl) (.con (.string nineN)) (by rw [HV.out]; rfl) : f 103 = _)
     obtain ⟨c111_0, c111_1, c111_2, c111_3, c111_4, e111, hr111⟩ := HasRep.five (h.get 72 (hw _ rfl ⟨72, .data⟩ (by simp) rfl) (.rep B (.mk 5 0 { data := #[] } [{ data := #[97, 46, 106, 115, 111, 110] }] [.mk 5 0 { data := #[] } [{ data := #[104, 97, 115, 104, 101, 115] }, { data := #[118, 101, 114, 115, 105, 111, 110] }] [objJ [], numJ 1]])) (by rw [HV.out]; rfl))
     have t111 : a'.tmps[111]?.getD undef = .agg #[c111_0, c111_1, c111_2, c111_3, c111_4] := by rw [HA.out]; exact e111
     clear e111
     refine wpOp_step rfl fun K hK => ?_
     go_simp
     refine (snapS { data := #[115, 110, 97, 112, 115, 104, 111, 116] } nineN (.mk 5 0 { data := #[] } [{ data := #[97, 46, 106, 115, 111, 110] }] [.mk 5 0 { data := #[] } [{ data := #[104, 97, 115, 104, 101, 115] }, { data := #[118, 101, 114, 115, 105, 111, 110] }] [objJ [], numJ 1]]) 1 hr111 hB).mono ?_
     rintro e w2 ⟨z, rfl, hz, hb2⟩
     exact hK _ _ ⟨upd f 112 z, by rw [HA.out]; rfl, hf.upd 112 (by decide) _, h.did hb2 73 z (.rep B (snapO { data := #[115, 110, 97, 112, 115, 104, 111, 116] } nineN (.mk 5 0 { data := #[] } [{ data := #[97, 46, 106, 115, 111, 110] }] [.mk 5 0 { data := #[] } [{ data := #[104, 97, 115, 104, 101, 115] }, { data := #[118, 101, 114, 115, 105, 111, 110] }] [objJ [], numJ 1]]) 1)) (by rw [HV.out]; rfl) hz⟩
   · obtain ⟨c112_0, c112_1, c112_2, c112_3, c112_4, e112, hr112⟩ := HasRep.five (h.get 73 (hw _ rfl ⟨73, .data⟩ (by simp) rfl) (.rep B (snapO { data := #[115, 110, 97, 112, 115, 104, 111, 116] } nineN (.mk 5 0 { data := #[] } [{ data := #[97, 46, 106, 115, 111, 110] }] [.mk 5 0 { data := #[] } [{ data := #[104, 97, 115, 104, 101, 115] }, { data := #[118, 101, 114, 115, 105, 111, 110] }] [objJ [], numJ 1]]) 1)) (by rw [HV.out]; rfl))
     have t112 : a'.tmps[112]?.getD undef = .agg #[c112_0, c112_1, c112_2, c112_3, c112_4] := by rw [HA.out]; exact e112
     clear e112
     refine wpOp_step rfl fun K hK => ?_
     go_simp
     exact hK _ _ ⟨upd f 113 _, by rw [HA.out]; rfl, hf.upd 113 (by decide) _, h.same 74 _ (.pair B (snapO { data := #[115, 110, 97, 112, 115, 104, 111, 116] } nineN (.mk 5 0 { data := #[] } [{ data := #[97, 46, 106, 115, 111, 110] }] [.mk 5 0 { data := #[] } [{ data := #[104, 97, 115, 104, 101, 115] }, { data := #[118, 101, 114, 115, 105, 111, 110] }] [objJ [], numJ 1]]) 1) 4) (by rw [HV.out]; rfl) ⟨_, _, _, _, _, rfl, hr112⟩⟩
   · have t3 : a'.tmps[3]?.getD undef = .string nineN := by rw [HA.out]; exact hf.h3
     refine wpOp_step rfl fun K hK => ?_
     go_simp
     exact hK _ _ ⟨upd f 114 _, by rw [HA.out]; rfl, hf.upd 114 (by decide) _, h.same 75 _ (.con (.string nineN)) (by rw [HV.out]; rfl) rfl⟩
   · refine wpOp_step rfl fun K hK => ?_
     go_simp
     exact hK _ _ ⟨upd f 115 _, by rw [HA.out]; rfl, hf.upd 115 (by decide) _, h.new _ 76 _ (.row B 1 9 (strs [{ data := #[97, 46, 106, 115, 111, 110] }])) (by rw [HV.out]; rfl) (IsRow.made _ hB)⟩
   · refine wpOp_step rfl fun K hK => ?_
     go_simp
     exact hK _ _ ⟨upd f 116 _, by rw [HA.out]; rfl, hf.upd 116 (by decide) _, h.new _ 77 _ (.row B 2 9 (strs [{ data := #[104, 97, 115, 104] }, { data := #[118, 101, 114, 115, 105, 111, 110] }])) (by rw [HV.out]; rfl) (IsRow.made _ hB)⟩
   · have t2 : a'.tmps[2]?.getD undef = .pointer (some ⟨b2, 0, none⟩) := by rw [HA.out]; exact hf.h2
     obtain ⟨x0, x1, x2, x3, x4⟩ := HC2.out w' h.1
     refine wpOp_step rfl fun K hK => ?_
     go_simp
     exact hK _ _ ⟨upd f 117 _, by rw [HA.out]; rfl, hf.upd 117 (by decide) _, h.same 78 _ (.rep B (objJ [])) (by rw [HV.out]; rfl) (HR2.out w' h.1)⟩
   · refine wpOp_step rfl fun K hK => ?_
     go_simp
     refine (numS B 1 w').mono ?_
     rintro e w2 ⟨z, rfl, hz, hb2⟩
     exact hK _ _ ⟨upd f 118 z, by rw [HA.out]; rfl, hf.upd 118 (by decide) _, h.did hb2 79 z (.rep B (numJ 1)) (by rw [HV.out]; rfl) hz⟩
   · obtain ⟨c117_0, c117_1, c117_2, c117_3, c117_4, e117, hr117⟩ := HasRep.five (h.get 78 (hw _ rfl ⟨78, .data⟩ (by simp) rfl) (.rep B (objJ [])) (by rw [HV.out]; rfl))
     have t117 : a'.tmps[117]?.getD undef = .agg #[c117_0, c117_1, c117_2, c117_3, c117_4] := by rw [HA.out]; exact e117
     clear e117
     obtain ⟨c118_0, c118_1, c118_2, c118_3, c118_4, e118, hr118⟩ := HasRep.five (h.get 79 (hw _ rfl ⟨79, .data⟩ (by simp) rfl) (.rep B (numJ 1)) (by rw [HV.out]; rfl))
     have t118 : a'.tmps[118]?.getD undef = .agg #[c118_0, c118_1, c118_2, c118_3, c118_4] := by rw [HA.out]; exact e118
     clear e118
     have hbA : ∀ o, Below w'.heap.size w' (w'.alloc o) := fun o => (Below.refl _ _).alloc (Nat.le_refl _) o
     refine wpOp_step rfl fun K hK => ?_
     go_simp
     exact hK _ _ ⟨upd f 119 _, by rw [HA.out]; rfl, hf.upd 119 (by decide) _, h.new _ 80 _ (.vals B [objJ [], numJ 1]) (by rw [HV.out]; rfl) ⟨_, _, rfl, hB, heap_alloc_new _ _, fun i hi => match i, hi with | 0, _ => ⟨_, _, _, _, _, rfl, rfl, rfl, rfl, rfl, hr117.mono (hbA _)⟩ | 1, _ => ⟨_, _, _, _, _, rfl, rfl, rfl, rfl, rfl, hr118.mono (hbA _)⟩⟩⟩
   · obtain ⟨ba, kba, ea, ma⟩ := h.get 77 (hw _ rfl ⟨77, .data⟩ (by simp) rfl) (.row B 2 9 (strs [{ data := #[104, 97, 115, 104] }, { data := #[118, 101, 114, 115, 105, 111, 110] }])) (by rw [HV.out]; rfl)
     have ta : a'.tmps[116]?.getD undef = .slice (some ⟨ba, 0, none⟩) 2 2 := by rw [HA.out]; exact ea
     clear ea
     obtain ⟨bb, cb, eb, kbb, mb, rb⟩ := h.get 80 (hw _ rfl ⟨80, .data⟩ (by simp) rfl) (.vals B [objJ [], numJ 1]) (by rw [HV.out]; rfl)
     have tb : a'.tmps[119]?.getD undef = .slice (some ⟨bb, 0, none⟩) 2 2 := by rw [HA.out]; exact eb
     clear eb
     refine wpOp_step rfl fun K hK => ?_
     go_simp
     refine (objS (B := B) [{ data := #[104, 97, 115, 104] }, { data := #[118, 101, 114, 115, 105, 111, 110] }] [objJ [], numJ 1] ⟨ba, kba, rfl, ma⟩ ⟨bb, cb, rfl, kbb, mb, rb⟩).mono ?_
     rintro e w2 ⟨z, rfl, hz, hb2⟩
     exact hK _ _ ⟨upd f 120 z, by rw [HA.out]; rfl, hf.upd 120 (by decide) _, h.did hb2 81 z (.rep B (.mk 5 0 { data := #[] } [{ data := #[104, 97, 115, 104] }, { data := #[118, 101, 114, 115, 105, 111, 110] }] [objJ [], numJ 1])) (by rw [HV.out]; rfl) hz⟩
   · obtain ⟨c120_0, c120_1, c120_2, c120_3, c120_4, e120, hr120⟩ := HasRep.five (h.get 81 (hw _ rfl ⟨81, .data⟩ (by simp) rfl) (.rep B (.mk 5 0 { data := #[] } [{ data := #[104, 97, 115, 104] }, { data := #[118, 101, 114, 115, 105, 111, 110] }] [objJ [], numJ 1])) (by rw [HV.out]; rfl))
     have t120 : a'.tmps[120]?.getD undef = .agg #[c120_0, c120_1, c120_2, c120_3, c120_4] := by rw [HA.out]; exact e120
     clear e120
     have hbA : ∀ o, Below w'.heap.size w' (w'.alloc o) := fun o => (Below.refl _ _).alloc (Nat.le_refl _) o
     refine wpOp_step rfl fun K hK => ?_
     go_simp
     exact hK _ _ ⟨upd f 121 _, by rw [HA.out]; rfl, hf.upd 121 (by decide) _, h.new _ 82 _ (.vals B [.mk 5 0 { data := #[] } [{ data := #[104, 97, 115, 104] }, { data := #[118, 101, 114, 115, 105, 111, 110] }] [objJ [], numJ 1]]) (by rw [HV.out]; rfl) ⟨_, _, rfl, hB, heap_alloc_new _ _, fun i hi => match i, hi with | 0, _ => ⟨_, _, _, _, _, rfl, rfl, rfl, rfl, rfl, hr120.mono (hbA _)⟩⟩⟩
   · obtain ⟨ba, kba, ea, ma⟩ := h.get 76 (hw _ rfl ⟨76, .data⟩ (by simp) rfl) (.row B 1 9 (strs [{ data := #[97, 46, 106, 115, 111, 110] }])) (by rw [HV.out]; rfl)
     have ta : a'.tmps[115]?.getD undef = .slice (some ⟨ba, 0, none⟩) 1 1 := by rw [HA.out]; exact ea
     clear ea
     obtain ⟨bb, cb, eb, kbb, mb, rb⟩ := h.get 82 (hw _ rfl ⟨82, .data⟩ (by simp) rfl) (.vals B [.mk 5 0 { data := #[] } [{ data := #[104, 97, 115, 104] }, { data := #[118, 101, 114, 115, 105, 111, 110] }] [objJ [], numJ 1]]) (by rw [HV.out]; rfl)
     have tb : a'.tmps[121]?.getD undef = .slice (some ⟨bb, 0, none⟩) 1 1 := by rw [HA.out]; exact eb
     clear eb
     refine wpOp_step rfl fun K hK => ?_
     go_simp
     refine (objS (B := B) [{ data := #[97, 46, 106, 115, 111, 110] }] [.mk 5 0 { data := #[] } [{ data := #[104, 97, 115, 104] }, { data := #[118, 101, 114, 115, 105, 111, 110] }] [objJ [], numJ 1]] ⟨ba, kba, rfl, ma⟩ ⟨bb, cb, rfl, kbb, mb, rb⟩).mono ?_
     rintro e w2 ⟨z, rfl, hz, hb2⟩
     exact hK _ _ ⟨upd f 122 z, by rw [HA.out]; rfl, hf.upd 122 (by decide) _, h.did hb2 83 z (.rep B (.mk 5 0 { data := #[] } [{ data := #[97, 46, 106, 115, 111, 110] }] [.mk 5 0 { data := #[] } [{ data := #[104, 97, 115, 104] }, { data := #[118, 101, 114, 115, 105, 111, 110] }] [objJ [], numJ 1]])) (by rw [HV.out]; rfl) hz⟩
   · have t114 : a'.tmps[114]?.getD undef = .string nineN := by rw [HA.out]; exact (h.get 75 (hw _ rfl ⟨75, .data⟩ (by simp) rfl) (.con (.string nineN)) (by rw [HV.out]; rfl) : f 114 = _)
     obtain ⟨c122_0, c122_1, c122_2, c122_3, c122_4, e122, hr122⟩ := HasRep.five (h.get 83 (hw _ rfl ⟨83, .data⟩ (by simp) rfl) (.rep B (.mk 5 0 { data := #[] } [{ data := #[97, 46, 106, 115, 111, 110] }] [.mk 5 0 { data := #[] } [{ data := #[104, 97, 115, 104] }, { data := #[118, 101, 114, 115, 105, 111, 110] }] [objJ [], numJ 1]])) (by rw [HV.out]; rfl))
     have t122 : a'.tmps[122]?.getD undef = .agg #[c122_0, c122_1, c122_2, c122_3, c122_4] := by rw [HA.out]; exact e122
     clear e122
     refine wpOp_step rfl fun K hK => ?_
     go_simp
     refine (snapS { data := #[115, 110, 97, 112, 115, 104, 111, 116] } nineN (.mk 5 0 { data := #[] } [{ data := #[97, 46, 106, 115, 111, 110] }] [.mk 5 0 { data := #[] } [{ data := #[104, 97, 115, 104] }, { data := #[118, 101, 114, 115, 105, 111, 110] }] [objJ [], numJ 1]]) 1 hr122 hB).mono ?_
     rintro e w2 ⟨z, rfl, hz, hb2⟩
     exact hK _ _ ⟨upd f 123 z, by rw [HA.out]; rfl, hf.upd 123 (by decide) _, h.did hb2 84 z (.rep B (snapO { data := #[115, 110, 97, 112, 115, 104, 111, 116] } nineN (.mk 5 0 { data := #[] } [{ data := #[97, 46, 106, 115, 111, 110] }] [.mk 5 0 { data := #[] } [{ data := #[104, 97, 115, 104] }, { data := #[118, 101, 114, 115, 105, 111, 110] }] [objJ [], numJ 1]]) 1)) (by rw [HV.out]; rfl) hz⟩
   · obtain ⟨c123_0, c123_1, c123_2, c123_3, c123_4, e123, hr123⟩ := HasRep.five (h.get 84 (hw _ rfl ⟨84, .data⟩ (by simp) rfl) (.rep B (snapO { data := #[115, 110, 97, 112, 115, 104, 111, 116] } nineN (.mk 5 0 { data := #[] } [{ data := #[97, 46, 106, 115, 111, 110] }] [.mk 5 0 { data := #[] } [{ data := #[104, 97, 115, 104] }, { data := #[118, 101, 114, 115, 105, 111, 110] }] [objJ [], numJ 1]]) 1)) (by rw [HV.out]; rfl))
     have t123 : a'.tmps[123]?.getD undef = .agg #[c123_0, c123_1, c123_2, c123_3, c123_4] := by rw [HA.out]; exact e123
     clear e123
     refine wpOp_step rfl fun K hK => ?_
     go_simp
     exact hK _ _ ⟨upd f 124 _, by rw [HA.out]; rfl, hf.upd 124 (by decide) _, h.same 85 _ (.pair B (snapO { data := #[115, 110, 97, 112, 115, 104, 111, 116] } nineN (.mk 5 0 { data := #[] } [{ data := #[97, 46, 106, 115, 111, 110] }] [.mk 5 0 { data := #[] } [{ data := #[104, 97, 115, 104] }, { data := #[118, 101, 114, 115, 105, 111, 110] }] [objJ [], numJ 1]]) 1) 11) (by rw [HV.out]; rfl) ⟨_, _, _, _, _, rfl, hr123⟩⟩
   · refine wpOp_step rfl fun K hK => ?_
     go_simp
     exact hK _ _ ⟨upd f 125 _, by rw [HA.out]; rfl, hf.upd 125 (by decide) _, h.new _ 86 _ (.row B 5 9 (strs [{ data := #[95, 116, 121, 112, 101] }, { data := #[97] }, { data := #[101, 120, 112, 105, 114, 101, 115] }, { data := #[109, 101, 116, 97] }, { data := #[118, 101, 114, 115, 105, 111, 110] }])) (by rw [HV.out]; rfl) (IsRow.made _ hB)⟩
   · refine wpOp_step rfl fun K hK => ?_
     go_simp
     refine (textS B { data := #[115, 110, 97, 112, 115, 104, 111, 116] } w').mono ?_
     rintro e w2 ⟨z, rfl, hz, hb2⟩
     exact hK _ _ ⟨upd f 126 z, by rw [HA.out]; rfl, hf.upd 126 (by decide) _, h.did hb2 87 z (.rep B (txtJ { data := #[115, 110, 97, 112, 115, 104, 111, 116] })) (by rw [HV.out]; rfl) hz⟩
   · have t2 : a'.tmps[2]?.getD undef = .pointer (some ⟨b2, 0, none⟩) := by rw [HA.out]; exact hf.h2
     obtain ⟨x0, x1, x2, x3, x4⟩ := HC2.out w' h.1
     refine wpOp_step rfl fun K hK => ?_
     go_simp
     exact hK _ _ ⟨upd f 127 _, by rw [HA.out]; rfl, hf.upd 127 (by decide) _, h.same 88 _ (.rep B (objJ [])) (by rw [HV.out]; rfl) (HR2.out w' h.1)⟩
   · have t3 : a'.tmps[3]?.getD undef = .string nineN := by rw [HA.out]; exact hf.h3
     refine wpOp_step rfl fun K hK => ?_
     go_simp
     exact hK _ _ ⟨upd f 128 _, by rw [HA.out]; rfl, hf.upd 128 (by decide) _, h.same 89 _ (.con (.string nineN)) (by rw [HV.out]; rfl) rfl⟩
   · have t128 : a'.tmps[128]?.getD undef = .string nineN := by rw [HA.out]; exact (h.get 89 (hw _ rfl ⟨89, .data⟩ (by simp) rfl) (.con (.string nineN)) (by rw [HV.out]; rfl) : f 128 = _)
     refine wpOp_step rfl fun K hK => ?_
     go_simp
     refine (textS B nineN w').mono ?_
     rintro e w2 ⟨z, rfl, hz, hb2⟩
     exact hK _ _ ⟨upd f 129 z, by rw [HA.out]; rfl, hf.upd 129 (by decide) _, h.did hb2 90 z (.rep B (txtJ nineN)) (by rw [HV.out]; rfl) hz⟩
   · have t4 : a'.tmps[4]?.getD undef = .pointer (some ⟨b4, 0, none⟩) := by rw [HA.out]; exact hf.h4
     obtain ⟨x0, x1, x2, x3, x4⟩ := HC4.out w' h.1
     refine wpOp_step rfl fun K hK => ?_
     go_simp
     exact hK _ _ ⟨upd f 130 _, by rw [HA.out]; rfl, hf.upd 130 (by decide) _, h.same 91 _ (.rep B (mJ1)) (by rw [HV.out]; rfl) (HR4.out w' h.1)⟩
   · refine wpOp_step rfl fun K hK => ?_
     go_simp
     refine (numS B 1 w').mono ?_
     rintro e w2 ⟨z, rfl, hz, hb2⟩
     exact hK _ _ ⟨upd f 131 z, by rw [HA.out]; rfl, hf.upd 131 (by decide) _, h.did hb2 92 z (.rep B (numJ 1)) (by rw [HV.out]; rfl) hz⟩
   · obtain ⟨c126_0, c126_1, c126_2, c126_3, c126_4, e126, hr126⟩ := HasRep.five (h.get 87 (hw _ rfl ⟨87, .data⟩ (by simp) rfl) (.rep B (txtJ { data := #[115, 110, 97, 112, 115, 104, 111, 116] })) (by rw [HV.out]; rfl))
     have t126 : a'.tmps[126]?.getD undef = .agg #[c126_0, c126_1, c126_2, c126_3, c126_4] := by rw [HA.out]; exact e126
     clear e126
     obtain ⟨c127_0, c127_1, c127_2, c127_3, c127_4, e127, hr127⟩ := HasRep.five (h.get 88 (hw _ rfl ⟨88, .data⟩ (by simp) rfl) (.rep B (objJ [])) (by rw [HV.out]; rfl))
     have t127 : a'.tmps[127]?.getD undef = .agg #[c127_0, c127_1, c127_2, c127_3, c127_4] := by rw [HA.out]; exact e127
     clear e127
     obtain ⟨c129_0, c129_1, c129_2, c129_3, c129_4, e129, hr129⟩ := HasRep.five (h.get 90 (hw _ rfl ⟨90, .data⟩ (by simp) rfl) (.rep B (txtJ nineN)) (by rw [HV.out]; rfl))
     have t129 : a'.tmps[129]?.getD undef = .agg #[c129_0, c129_1, c129_2, c129_3, c129_4] := by rw [HA.out]; exact e129
     clear e129
     obtain ⟨c130_0, c130_1, c130_2, c130_3, c130_4, e130, hr130⟩ := HasRep.five (h.get 91 (hw _ rfl ⟨91, .data⟩ (by simp) rfl) (.rep B (mJ1)) (by rw [HV.out]; rfl))
     have t130 : a'.tmps[130]?.getD undef = .agg #[c130_0, c130_1, c130_2, c130_3, c130_4] := by rw [HA.out]; exact e130
     clear e130
     obtain ⟨c131_0, c131_1, c131_2, c131_3, c131_4, e131, hr131⟩ := HasRep.five (h.get 92 (hw _ rfl ⟨92, .data⟩ (by simp) rfl) (.rep B (numJ 1)) (by rw [HV.out]; rfl))
     have t131 : a'.tmps[131]?.getD undef = .agg #[c131_0, c131_1, c131_2, c131_3, c131_4] := by rw [HA.out]; exact e131
     clear e131
     have hbA : ∀ o, Below w'.heap.size w' (w'.alloc o) := fun o => (Below.refl _ _).alloc (Nat.le_refl _) o
     refine wpOp_step rfl fun K hK => ?_
     go_simp
     exact hK _ _ ⟨upd f 132 _, by rw [HA.out]; rfl, hf.upd 132 (by decide) _, h.new _ 93 _ (.vals B [txtJ { data := #[115, 110, 97, 112, 115, 104, 111, 116] }, objJ [], txtJ nineN, mJ1, numJ 1]) (by rw [HV.out]; rfl) ⟨_, _, rfl, hB, heap_alloc_new _ _, fun i hi => match i, hi with | 0, _ => ⟨_, _, _, _, _, rfl, rfl, rfl, rfl, rfl, hr126.mono (hbA _)⟩ | 1, _ => ⟨_, _, _, _, _, rfl, rfl, rfl, rfl, rfl, hr127.mono (hbA _)⟩ | 2, _ => ⟨_, _, _, _, _, rfl, rfl, rfl, rfl, rfl, hr129.mono (hbA _)⟩ | 3, _ => ⟨_, _, _, _, _, rfl, rfl, rfl, rfl, rfl, hr130.mono (hbA _)⟩ | 4, _ => ⟨_, _, _, _, _, rfl, rfl, rfl, rfl, rfl, hr131.mono (hbA _)⟩⟩⟩
   · obtain ⟨ba, kba, ea, ma⟩ := h.get 86 (hw _ rfl ⟨86, .data⟩ (by simp) rfl) (.row B 5 9 (strs [{ data := #[95, 116, 121, 112, 101] }, { data := #[97] }, { data := #[101, 120, 112, 105, 114, 101, 115] }, { data := #[109, 101, 116, 97] }, { data := #[118, 101, 114, 115, 105, 111, 110] }])) (by rw [HV.out]; rfl)
     have ta : a'.tmps[125]?.getD undef = .slice (some ⟨ba, 0, none⟩) 5 5 := by rw [HA.out]; exact ea
     clear ea
     obtain ⟨bb, cb, eb, kbb, mb, rb⟩ := h.get 93 (hw _ rfl ⟨93, .data⟩ (by simp) rfl) (.vals B [txtJ { data := #[115, 110, 97, 112, 115, 104, 111, 116] }, objJ [], txtJ nineN, mJ1, numJ 1]) (by rw [HV.out]; rfl)
     have tb : a'.tmps[132]?.getD undef = .slice (some ⟨bb, 0, none⟩) 5 5 := by rw [HA.out]; exact eb
     clear eb
     refine wpOp_step rfl fun K hK => ?_
     go_simp
     refine (objS (B := B) [{ data := #[95, 116, 121, 112, 101] }, { data := #[97] }, { data := #[101, 120, 112, 105, 114, 101, 115] }, { data := #[109, 101, 116, 97] }, { data := #[118, 101, 114, 115, 105, 111, 110] }] [txtJ { data := #[115, 110, 97, 112, 115, 104, 111, 116] }, objJ [], txtJ nineN, mJ1, numJ 1] ⟨ba, kba, rfl, ma⟩ ⟨bb, cb, rfl, kbb, mb, rb⟩).mono ?_
     rintro e w2 ⟨z, rfl, hz, hb2⟩
     exact hK _ _ ⟨upd f 133 z, by rw [HA.out]; rfl, hf.upd 133 (by decide) _, h.did hb2 94 z (.rep B (.mk 5 0 { data := #[] } [{ data := #[95, 116, 121, 112, 101] }, { data := #[97] }, { data := #[101, 120, 112, 105, 114, 101, 115] }, { data := #[109, 101, 116, 97] }, { data := #[118, 101, 114, 115, 105, 111, 110] }] [txtJ { data := #[115, 110, 97, 112, 115, 104, 111, 116] }, objJ [], txtJ nineN, mJ1, numJ 1])) (by rw [HV.out]; rfl) hz⟩
   · obtain ⟨c133_0, c133_1, c133_2, c133_3, c133_4, e133, hr133⟩ := HasRep.five (h.get 94 (hw _ rfl ⟨94, .data⟩ (by simp) rfl) (.rep B (.mk 5 0 { data := #[] } [{ data := #[95, 116, 121, 112, 101] }, { data := #[97] }, { data := #[101, 120, 112, 105, 114, 101, 115] }, { data := #[109, 101, 116, 97] }, { data := #[118, 101, 114, 115, 105, 111, 110] }] [txtJ { data := #[115, 110, 97, 112, 115, 104, 111, 116] }, objJ [], txtJ nineN, mJ1, numJ 1])) (by rw [HV.out]; rfl))
     have t133 : a'.tmps[133]?.getD undef = .agg #[c133_0, c133_1, c133_2, c133_3, c133_4] := by rw [HA.out]; exact e133
     clear e133
     refine wpOp_step rfl fun K hK => ?_
     go_simp
     exact hK _ _ ⟨upd f 134 _, by rw [HA.out]; rfl, hf.upd 134 (by decide) _, h.same 95 _ (.pair B (.mk 5 0 { data := #[] } [{ data := #[95, 116, 121, 112, 101] }, { data := #[97] }, { data := #[101, 120, 112, 105, 114, 101, 115] }, { data := #[109, 101, 116, 97] }, { data := #[118, 101, 114, 115, 105, 111, 110] }] [txtJ { data := #[115, 110, 97, 112, 115, 104, 111, 116] }, objJ [], txtJ nineN, mJ1, numJ 1]) 11) (by rw [HV.out]; rfl) ⟨_, _, _, _, _, rfl, hr133⟩⟩
   · refine wpOp_step rfl fun K hK => ?_
     go_simp
     exact hK _ _ ⟨upd f 135 _, by rw [HA.out]; rfl, hf.upd 135 (by decide) _, h.new _ 96 _ (.row B 3 9 (strs [{ data := #[95, 116, 121, 112, 101] }, { data := #[101, 120, 112, 105, 114, 101, 115] }, { data := #[118, 101, 114, 115, 105, 111, 110] }])) (by rw [HV.out]; rfl) (IsRow.made _ hB)⟩
   · refine wpOp_step rfl fun K hK => ?_
     go_simp
     refine (textS B { data := #[115, 110, 97, 112, 115, 104, 111, 116] } w').mono ?_
     rintro e w2 ⟨z, rfl, hz, hb2⟩
     exact hK _ _ ⟨upd f 136 z, by rw [HA.out]; rfl, hf.upd 136 (by decide) _, h.did hb2 97 z (.rep B (txtJ { data := #[115, 110, 97, 112, 115, 104, 111, 116] })) (by rw [HV.out]; rfl) hz⟩
   · have t3 : a'.tmps[3]?.getD undef = .string nineN := by rw [HA.out]; exact hf.h3
     refine wpOp_step rfl fun K hK => ?_
     go_simp
     exact hK _ _ ⟨upd f 137 _, by rw [HA.out]; rfl, hf.upd 137 (by decide) _, h.same 98 _ (.con (.string nineN)) (by rw [HV.out]; rfl) rfl⟩
   · have t137 : a'.tmps[137]?.getD undef = .string nineN := by rw [HA.out]; exact (h.get 98 (hw _ rfl ⟨98, .data⟩ (by simp) rfl) (.con (.string nineN)) (by rw [HV.out]; rfl) : f 137 = _)
     refine wpOp_step rfl fun K hK => ?_
     go_simp
     refine (textS B nineN w').mono ?_
     rintro e w2 ⟨z, rfl, hz, hb2⟩
     exact hK _ _ ⟨upd f 138 z, by rw [HA.out]; rfl, hf.upd 138 (by decide) _, h.did hb2 99 z (.rep B (txtJ nineN)) (by rw [HV.out]; rfl) hz⟩
   · refine wpOp_step rfl fun K hK => ?_
     go_simp
     refine (numS B 1 w').mono ?_
     rintro e w2 ⟨z, rfl, hz, hb2⟩
     exact hK _ _ ⟨upd f 139 z, by rw [HA.out]; rfl, hf.upd 139 (by decide) _, h.did hb2 100 z (.rep B (numJ 1)) (by rw [HV.out]; rfl) hz⟩
   · obtain ⟨c136_0, c136_1, c136_2, c136_3, c136_4, e136, hr136⟩ := HasRep.five (h.get 97 (hw _ rfl ⟨97, .data⟩ (by simp) rfl) (.rep B (txtJ { data := #[115, 110, 97, 112, 115, 104, 111, 116] })) (by rw [HV.out]; rfl))
     have t136 : a'.tmps[136]?.getD undef = .agg #[c136_0, c136_1, c136_2, c136_3, c136_4] := by rw [HA.out]; exact e136
     clear e136
     obtain ⟨c138_0, c138_1, c138_2, c138_3, c138_4, e138, hr138⟩ := HasRep.five (h.get 99 (hw _ rfl ⟨99, .data⟩ (by simp) rfl) (.rep B (txtJ nineN)) (by rw [HV.out]; rfl))
     have t138 : a'.tmps[138]?.getD undef = .agg #[c138_0, c138_1, c138_2, c138_3, c138_4] := by rw [HA.out]; exact e138
     clear e138
     obtain ⟨c139_0, c139_1, c139_2, c139_3, c139_4, e139, hr139⟩ := HasRep.five (h.get 100 (hw _ rfl ⟨100, .data⟩ (by simp) rfl) (.rep B (numJ 1)) (by rw [HV.out]; rfl))
     have t139 : a'.tmps[139]?.getD undef = .agg #[c139_0, c139_1, c139_2, c139_3, c139_4] := by rw [HA.out]; exact e139
     clear e139
     have hbA : ∀ o, Below w'.heap.size w' (w'.alloc o) := fun o => (Below.refl _ _).alloc (Nat.le_refl _) o
     refine wpOp_step rfl fun K hK => ?_
     go_simp
     exact hK _ _ ⟨upd f 140 _, by rw [HA.out]; rfl, hf.upd 140 (by decide) _, h.new _ 101 _ (.vals B [txtJ { data := #[115, 110, 97, 112, 115, 104, 111, 116] }, txtJ nineN, numJ 1]) (by rw [HV.out]; rfl) ⟨_, _, rfl, hB, heap_alloc_new _ _, fun i hi => match i, hi with | 0, _ => ⟨_, _, _, _, _, rfl, rfl, rfl, rfl, rfl, hr136.mono (hbA _)⟩ | 1, _ => ⟨_, _, _, _, _, rfl, rfl, rfl, rfl, rfl, hr138.mono (hbA _)⟩ | 2, _ => ⟨_, _, _, _, _, rfl, rfl, rfl, rfl, rfl, hr139.mono (hbA _)⟩⟩⟩
   · obtain ⟨ba, kba, ea, ma⟩ := h.get 96 (hw _ rfl ⟨96, .data⟩ (by simp) rfl) (.row B 3 9 (strs [{ data := #[95, 116, 121, 112, 101] }, { data := #[101, 120, 112, 105, 114, 101, 115] }, { data := #[118, 101, 114, 115, 105, 111, 110] }])) (by rw [HV.out]; rfl)
     have ta : a'.tmps[135]?.getD undef = .slice (some ⟨ba, 0, none⟩) 3 3 := by rw [HA.out]; exact ea
     clear ea
     obtain ⟨bb, cb, eb, kbb, mb, rb⟩ := h.get 101 (hw _ rfl ⟨101, .data⟩ (by simp) rfl) (.vals B [txtJ { data := #[115, 110, 97, 112, 115, 104, 111, 116] }, txtJ nineN, numJ 1]) (by rw [HV.out]; rfl)
     have tb : a'.tmps[140]?.getD undef = .slice (some ⟨bb, 0, none⟩) 3 3 := by rw [HA.out]; exact eb
     clear eb
     refine wpOp_step rfl fun K hK => ?_
     go_simp
     refine (objS (B := B) [{ data := #[95, 116, 121, 112, 101] }, { data := #[101, 120, 112, 105, 114, 101, 115] }, { data := #[118, 101, 114, 115, 105, 111, 110] }] [txtJ { data := #[115, 110, 97, 112, 115, 104, 111, 116] }, txtJ nineN, numJ 1] ⟨ba, kba, rfl, ma⟩ ⟨bb, cb, rfl, kbb, mb, rb⟩).mono ?_
     rintro e w2 ⟨z, rfl, hz, hb2⟩
     exact hK _ _ ⟨upd f 141 z, by rw [HA.out]; rfl, hf.upd 141 (by decide) _, h.did hb2 102 z (.rep B (.mk 5 0 { data := #[] } [{ data := #[95, 116, 121, 112, 101] }, { data := #[101, 120, 112, 105, 114, 101, 115] }, { data := #[118, 101, 114, 115, 105, 111, 110] }] [txtJ { data := #[115, 110, 97, 112, 115, 104, 111, 116] }, txtJ nineN, numJ 1])) (by rw [HV.out]; rfl) hz⟩
   · obtain ⟨c141_0, c141_1, c141_2, c141_3, c141_4, e141, hr141⟩ := HasRep.five (h.get 102 (hw _ rfl ⟨102, .data⟩ (by simp) rfl) (.rep B (.mk 5 0 { data := #[] } [{ data := #[95, 116, 121, 112, 101] }, { data := #[101, 120, 112, 105, 114, 101, 115] }, { data := #[118, 101, 114, 115, 105, 111, 110] }] [txtJ { data := #[115, 110, 97, 112, 115, 104, 111, 116] }, txtJ nineN, numJ 1])) (by rw [HV.out]; rfl))
     have t141 : a'.tmps[141]?.getD undef = .agg #[c141_0, c141_1, c141_2, c141_3, c141_4] := by rw [HA.out]; exact e141
     clear e141
     refine wpOp_step rfl fun K hK => ?_
     go_simp
     exact hK _ _ ⟨upd f 142 _, by rw [HA.out]; rfl, hf.upd 142 (by decide) _, h.same 103 _ (.pair B (.mk 5 0 { data := #[] } [{ data := #[95, 116, 121, 112, 101] }, { data := #[101, 120, 112, 105, 114, 101, 115] }, { data := #[118, 101, 114, 115, 105, 111, 110] }] [txtJ { data := #[115, 110, 97, 112, 115, 104, 111, 116] }, txtJ nineN, numJ 1]) 6) (by rw [HV.out]; rfl) ⟨_, _, _, _, _, rfl, hr141⟩⟩
   · refine wpOp_step rfl fun K hK => ?_
     go_simp
     exact hK _ _ ⟨upd f 143 _, by rw [HA.out]; rfl, hf.upd 143 (by decide) _, h.new _ 104 _ (.row B 1 9 (strs [{ data := #[95, 116, 121, 112, 101] }])) (by rw [HV.out]; rfl) (IsRow.made _ hB)⟩
   · refine wpOp_step rfl fun K hK => ?_
     go_simp
     refine (numS B 1 w').mono ?_
     rintro e w2 ⟨z, rfl, hz, hb2⟩
     exact hK _ _ ⟨upd f 144 z, by rw [HA.out]; rfl, hf.upd 144 (by decide) _, h.did hb2 105 z (.rep B (numJ 1)) (by rw [HV.out]; rfl) hz⟩
   · obtain ⟨c144_0, c144_1, c144_2, c144_3, c144_4, e144, hr144⟩ := HasRep.five (h.get 105 (hw _ rfl ⟨105, .data⟩ (by simp) rfl) (.rep B (numJ 1)) (by rw [HV.out]; rfl))
     have t144 : a'.tmps[144]?.getD undef = .agg #[c144_0, c144_1, c144_2, c144_3, c144_4] := by rw [HA.out]; exact e144
     clear e144
     have hbA : ∀ o, Below w'.heap.size w' (w'.alloc o) := fun o => (Below.refl _ _).alloc (Nat.le_refl _) o
     refine wpOp_step rfl fun K hK => ?_
     go_simp
     exact hK _ _ ⟨upd f 145 _, by rw [HA.out]; rfl, hf.upd 145 (by decide) _, h.new _ 106 _ (.vals B [numJ 1]) (by rw [HV.out]; rfl) ⟨_, _, rfl, hB, heap_alloc_new _ _, fun i hi => match i, hi with | 0, _ => ⟨_, _, _, _, _, rfl, rfl, rfl, rfl, rfl, hr144.mono (hbA _)⟩⟩⟩
   · obtain ⟨ba, kba, ea, ma⟩ := h.get 104 (hw _ rfl ⟨104, .data⟩ (by simp) rfl) (.row B 1 9 (strs [{ data := #[95, 116, 121, 112, 101] }])) (by rw [HV.out]; rfl)
     have ta : a'.tmps[143]?.getD undef = .slice (some ⟨ba, 0, none⟩) 1 1 := by rw [HA.out]; exact ea
     clear ea
     obtain ⟨bb, cb, eb, kbb, mb, rb⟩ := h.get 106 (hw _ rfl ⟨106, .data⟩ (by simp) rfl) (.vals B [numJ 1]) (by rw [HV.out]; rfl)
     have tb : a'.tmps[145]?.getD undef = .slice (some ⟨bb, 0, none⟩) 1 1 := by rw [HA.out]; exact eb
     clear eb
     refine wpOp_step rfl fun K hK => ?_
     go_simp
     refine (objS (B := B) [{ data := #[95, 116, 121, 112, 101] }] [numJ 1] ⟨ba, kba, rfl, ma⟩ ⟨bb, cb, rfl, kbb, mb, rb⟩).mono ?_
     rintro e w2 ⟨z, rfl, hz, hb2⟩
     exact hK _ _ ⟨upd f 146 z, by rw [HA.out]; rfl, hf.upd 146 (by decide) _, h.did hb2 107 z (.rep B (.mk 5 0 { data := #[] } [{ data := #[95, 116, 121, 112, 101] }] [numJ 1])) (by rw [HV.out]; rfl) hz⟩
   · obtain ⟨c146_0, c146_1, c146_2, c146_3, c146_4, e146, hr146⟩ := HasRep.five (h.get 107 (hw _ rfl ⟨107, .data⟩ (by simp) rfl) (.rep B (.mk 5 0 { data := #[] } [{ data := #[95, 116, 121, 112, 101] }] [numJ 1])) (by rw [HV.out]; rfl))
     have t146 : a'.tmps[146]?.getD undef = .agg #[c146_0, c146_1, c146_2, c146_3, c146_4] := by rw [HA.out]; exact e146
     clear e146
     refine wpOp_step rfl fun K hK => ?_
     go_simp
     exact hK _ _ ⟨upd f 147 _, by rw [HA.out]; rfl, hf.upd 147 (by decide) _, h.same 108 _ (.pair B (.mk 5 0 { data := #[] } [{ data := #[95, 116, 121, 112, 101] }] [numJ 1]) 10) (by rw [HV.out]; rfl) ⟨_, _, _, _, _, rfl, hr146⟩⟩
   · obtain ⟨c40_0, c40_1, c40_2, c40_3, c40_4, e40, hr40⟩ := h.get 1 (hw _ rfl ⟨1, .data⟩ (by simp) rfl) (.pair B (zeroJ) 3) (by rw [HV.out]; rfl)
     have t40 : a'.tmps[40]?.getD undef = .agg #[c40_0, c40_1, c40_2, c40_3, c40_4, .int .i64 3] := by rw [HA.out]; exact e40
     clear e40
     obtain ⟨c42_0, c42_1, c42_2, c42_3, c42_4, e42, hr42⟩ := h.get 3 (hw _ rfl ⟨3, .data⟩ (by simp) rfl) (.pair B (numJ 1) 10) (by rw [HV.out]; rfl)
     have t42 : a'.tmps[42]?.getD undef = .agg #[c42_0, c42_1, c42_2, c42_3, c42_4, .int .i64 10] := by rw [HA.out]; exact e42
     clear e42
     obtain ⟨c44_0, c44_1, c44_2, c44_3, c44_4, e44, hr44⟩ := h.get 5 (hw _ rfl ⟨5, .data⟩ (by simp) rfl) (.pair B (objJ []) 6) (by rw [HV.out]; rfl)
     have t44 : a'.tmps[44]?.getD undef = .agg #[c44_0, c44_1, c44_2, c44_3, c44_4, .int .i64 6] := by rw [HA.out]; exact e44
     clear e44
     obtain ⟨c48_0, c48_1, c48_2, c48_3, c48_4, e48, hr48⟩ := h.get 9 (hw _ rfl ⟨9, .data⟩ (by simp) rfl) (.pair B (snapO { data := #[115, 110, 97, 112, 115, 104, 111, 116] } nineN (mJ1) 1) 0) (by rw [HV.out]; rfl)
     have t48 : a'.tmps[48]?.getD undef = .agg #[c48_0, c48_1, c48_2, c48_3, c48_4, .int .i64 0] := by rw [HA.out]; exact e48
     clear e48
     obtain ⟨c52_0, c52_1, c52_2, c52_3, c52_4, e52, hr52⟩ := h.get 13 (hw _ rfl ⟨13, .data⟩ (by simp) rfl) (.pair B (snapO { data := #[115, 110, 97, 112, 115, 104, 111, 116] } nineN (objJ []) 1099511627776) 0) (by rw [HV.out]; rfl)
     have t52 : a'.tmps[52]?.getD undef = .agg #[c52_0, c52_1, c52_2, c52_3, c52_4, .int .i64 0] := by rw [HA.out]; exact e52
     clear e52
     obtain ⟨c55_0, c55_1, c55_2, c55_3, c55_4, e55, hr55⟩ := h.get 16 (hw _ rfl ⟨16, .data⟩ (by simp) rfl) (.pair B (snapO { data := #[116, 97, 114, 103, 101, 116, 115] } { data := #[120] } (numJ 1) 0) 13) (by rw [HV.out]; rfl)
     have t55 : a'.tmps[55]?.getD undef = .agg #[c55_0, c55_1, c55_2, c55_3, c55_4, .int .i64 13] := by rw [HA.out]; exact e55
     clear e55
     obtain ⟨c58_0, c58_1, c58_2, c58_3, c58_4, e58, hr58⟩ := h.get 19 (hw _ rfl ⟨19, .data⟩ (by simp) rfl) (.pair B (snapO { data := #[115, 110, 97, 112, 115, 104, 111, 116] } { data := #[120] } (numJ 1) 0) 1) (by rw [HV.out]; rfl)
     have t58 : a'.tmps[58]?.getD undef = .agg #[c58_0, c58_1, c58_2, c58_3, c58_4, .int .i64 1] := by rw [HA.out]; exact e58
     clear e58
     obtain ⟨c62_0, c62_1, c62_2, c62_3, c62_4, e62, hr62⟩ := h.get 23 (hw _ rfl ⟨23, .data⟩ (by simp) rfl) (.pair B (snapO { data := #[115, 110, 97, 112, 115, 104, 111, 116] } nineN (mJ1) 1099511627777) 1) (by rw [HV.out]; rfl)
     have t62 : a'.tmps[62]?.getD undef = .agg #[c62_0, c62_1, c62_2, c62_3, c62_4, .int .i64 1] := by rw [HA.out]; exact e62
     clear e62
     obtain ⟨c65_0, c65_1, c65_2, c65_3, c65_4, e65, hr65⟩ := h.get 26 (hw _ rfl ⟨26, .data⟩ (by simp) rfl) (.pair B (snapO { data := #[115, 110, 97, 112, 115, 104, 111, 116] } { data := #[120] } (numJ 1) 1) 3) (by rw [HV.out]; rfl)
     have t65 : a'.tmps[65]?.getD undef = .agg #[c65_0, c65_1, c65_2, c65_3, c65_4, .int .i64 3] := by rw [HA.out]; exact e65
     clear e65
     obtain ⟨c69_0, c69_1, c69_2, c69_3, c69_4, e69, hr69⟩ := h.get 30 (hw _ rfl ⟨30, .data⟩ (by simp) rfl) (.pair B (snapO { data := #[115, 110, 97, 112, 115, 104, 111, 116] } nineN (numJ 1) 1) 10) (by rw [HV.out]; rfl)
     have t69 : a'.tmps[69]?.getD undef = .agg #[c69_0, c69_1, c69_2, c69_3, c69_4, .int .i64 10] := by rw [HA.out]; exact e69
     clear e69
     obtain ⟨c76_0, c76_1, c76_2, c76_3, c76_4, e76, hr76⟩ := h.get 37 (hw _ rfl ⟨37, .data⟩ (by simp) rfl) (.pair B (snapO { data := #[115, 110, 97, 112, 115, 104, 111, 116] } nineN (.mk 5 0 { data := #[] } [{ data := #[97] }] [pJ1]) 1) 3) (by rw [HV.out]; rfl)
     have t76 : a'.tmps[76]?.getD undef = .agg #[c76_0, c76_1, c76_2, c76_3, c76_4, .int .i64 3] := by rw [HA.out]; exact e76
     clear e76
     obtain ⟨c83_0, c83_1, c83_2, c83_3, c83_4, e83, hr83⟩ := h.get 44 (hw _ rfl ⟨44, .data⟩ (by simp) rfl) (.pair B (snapO { data := #[115, 110, 97, 112, 115, 104, 111, 116] } nineN (.mk 5 0 { data := #[] } [{ data := #[97, 46, 106, 115, 111, 110] }] [numJ 1]) 1) 10) (by rw [HV.out]; rfl)
     have t83 : a'.tmps[83]?.getD undef = .agg #[c83_0, c83_1, c83_2, c83_3, c83_4, .int .i64 10] := by rw [HA.out]; exact e83
     clear e83
     obtain ⟨c91_0, c91_1, c91_2, c91_3, c91_4, e91, hr91⟩ := h.get 52 (hw _ rfl ⟨52, .data⟩ (by simp) rfl) (.pair B (snapO { data := #[115, 110, 97, 112, 115, 104, 111, 116] } nineN (.mk 5 0 { data := #[] } [{ data := #[97, 46, 106, 115, 111, 110] }, { data := #[98] }] [objJ [], pJ1]) 1) 6) (by rw [HV.out]; rfl)
     have t91 : a'.tmps[91]?.getD undef = .agg #[c91_0, c91_1, c91_2, c91_3, c91_4, .int .i64 6] := by rw [HA.out]; exact e91
     clear e91
     obtain ⟨c102_0, c102_1, c102_2, c102_3, c102_4, e102, hr102⟩ := h.get 63 (hw _ rfl ⟨63, .data⟩ (by simp) rfl) (.pair B (snapO { data := #[115, 110, 97, 112, 115, 104, 111, 116] } nineN (.mk 5 0 { data := #[] } [{ data := #[97, 46, 106, 115, 111, 110] }] [.mk 5 0 { data := #[] } [{ data := #[108, 101, 110, 103, 116, 104] }, { data := #[118, 101, 114, 115, 105, 111, 110] }] [numJ (-1), numJ 1]]) 1) 1) (by rw [HV.out]; rfl)
     have t102 : a'.tmps[102]?.getD undef = .agg #[c102_0, c102_1, c102_2, c102_3, c102_4, .int .i64 1] := by rw [HA.out]; exact e102
     clear e102
     obtain ⟨c113_0, c113_1, c113_2, c113_3, c113_4, e113, hr113⟩ := h.get 74 (hw _ rfl ⟨74, .data⟩ (by simp) rfl) (.pair B (snapO { data := #[115, 110, 97, 112, 115, 104, 111, 116] } nineN (.mk 5 0 { data := #[] } [{ data := #[97, 46, 106, 115, 111, 110] }] [.mk 5 0 { data := #[] } [{ data := #[104, 97, 115, 104, 101, 115] }, { data := #[118, 101, 114, 115, 105, 111, 110] }] [objJ [], numJ 1]]) 1) 4) (by rw [HV.out]; rfl)
     have t113 : a'.tmps[113]?.getD undef = .agg #[c113_0, c113_1, c113_2, c113_3, c113_4, .int .i64 4] := by rw [HA.out]; exact e113
     clear e113
     obtain ⟨c124_0, c124_1, c124_2, c124_3, c124_4, e124, hr124⟩ := h.get 85 (hw _ rfl ⟨85, .data⟩ (by simp) rfl) (.pair B (snapO { data := #[115, 110, 97, 112, 115, 104, 111, 116] } nineN (.mk 5 0 { data := #[] } [{ data := #[97, 46, 106, 115, 111, 110] }] [.mk 5 0 { data := #[] } [{ data := #[104, 97, 115, 104] }, { data := #[118, 101, 114, 115, 105, 111, 110] }] [objJ [], numJ 1]]) 1) 11) (by rw [HV.out]; rfl)
     have t124 : a'.tmps[124]?.getD undef = .agg #[c124_0, c124_1, c124_2, c124_3, c124_4, .int .i64 11] := by rw [HA.out]; exact e124
     clear e124
     obtain ⟨c134_0, c134_1, c134_2, c134_3, c134_4, e134, hr134⟩ := h.get 95 (hw _ rfl ⟨95, .data⟩ (by simp) rfl) (.pair B (.mk 5 0 { data := #[] } [{ data := #[95, 116, 121, 112, 101] }, { data := #[97] }, { data := #[101, 120, 112, 105, 114, 101, 115] }, { data := #[109, 101, 116, 97] }, { data := #[118, 101, 114, 115, 105, 111, 110] }] [txtJ { data := #[115, 110, 97, 112, 115, 104, 111, 116] }, objJ [], txtJ nineN, mJ1, numJ 1]) 11) (by rw [HV.out]; rfl)
     have t134 : a'.tmps[134]?.getD undef = .agg #[c134_0, c134_1, c134_2, c134_3, c134_4, .int .i64 11] := by rw [HA.out]; exact e134
     clear e134
     obtain ⟨c142_0, c142_1, c142_2, c142_3, c142_4, e142, hr142⟩ := h.get 103 (hw _ rfl ⟨103, .data⟩ (by simp) rfl) (.pair B (.mk 5 0 { data := #[] } [{ data := #[95, 116, 121, 112, 101] }, { data := #[101, 120, 112, 105, 114, 101, 115] }, { data := #[118, 101, 114, 115, 105, 111, 110] }] [txtJ { data := #[115, 110, 97, 112, 115, 104, 111, 116] }, txtJ nineN, numJ 1]) 6) (by rw [HV.out]; rfl)
     have t142 : a'.tmps[142]?.getD undef = .agg #[c142_0, c142_1, c142_2, c142_3, c142_4, .int .i64 6] := by rw [HA.out]; exact e142
     clear e142
     obtain ⟨c147_0, c147_1, c147_2, c147_3, c147_4, e147, hr147⟩ := h.get 108 (hw _ rfl ⟨108, .data⟩ (by simp) rfl) (.pair B (.mk 5 0 { data := #[] } [{ data := #[95, 116, 121, 112, 101] }] [numJ 1]) 10) (by rw [HV.out]; rfl)
     have t147 : a'.tmps[147]?.getD undef = .agg #[c147_0, c147_1, c147_2, c147_3, c147_4, .int .i64 10] := by rw [HA.out]; exact e147
     clear e147
     have hbA : ∀ o, Below w'.heap.size w' (w'.alloc o) := fun o => (Below.refl _ _).alloc (Nat.le_refl _) o
     refine wpOp_step rfl fun K hK => ?_
     go_simp
     exact hK _ _ ⟨upd f 148 _, by rw [HA.out]; rfl, hf.upd 148 (by decide) _, h.new _ 109 _ (.tab B 55 rows23) (by rw [HV.out]; rfl) ⟨_, _, rfl, hB, heap_alloc_new _ _, fun i hi => match i, hi with | 0, _ => ⟨⟨_, _, _, _, _, rfl, rfl, rfl, rfl, rfl, hr40.mono (hbA _)⟩, rfl⟩ | 1, _ => ⟨⟨_, _, _, _, _, rfl, rfl, rfl, rfl, rfl, hr42.mono (hbA _)⟩, rfl⟩ | 2, _ => ⟨⟨_, _, _, _, _, rfl, rfl, rfl, rfl, rfl, hr44.mono (hbA _)⟩, rfl⟩ | 3, _ => ⟨⟨_, _, _, _, _, rfl, rfl, rfl, rfl, rfl, hr48.mono (hbA _)⟩, rfl⟩ | 4, _ => ⟨⟨_, _, _, _, _, rfl, rfl, rfl, rfl, rfl, hr52.mono (hbA _)⟩, rfl⟩ | 5, _ => ⟨⟨_, _, _, _, _, rfl, rfl, rfl, rfl, rfl, hr55.mono (hbA _)⟩, rfl⟩ | 6, _ => ⟨⟨_, _, _, _, _, rfl, rfl, rfl, rfl, rfl, hr58.mono (hbA _)⟩, rfl⟩ | 7, _ => ⟨⟨_, _, _, _, _, rfl, rfl, rfl, rfl, rfl, hr62.mono (hbA _)⟩, rfl⟩ | 8, _ => ⟨⟨_, _, _, _, _, rfl, rfl, rfl, rfl, rfl, hr65.mono (hbA _)⟩, rfl⟩ | 9, _ => ⟨⟨_, _, _, _, _, rfl, rfl, rfl, rfl, rfl, hr69.mono (hbA _)⟩, rfl⟩ | 10, _ => ⟨⟨_, _, _, _, _, rfl, rfl, rfl, rfl, rfl, hr76.mono (hbA _)⟩, rfl⟩ | 11, _ => ⟨⟨_, _, _, _, _, rfl, rfl, rfl, rfl, rfl, hr83.mono (hbA _)⟩, rfl⟩ | 12, _ => ⟨⟨_, _, _, _, _, rfl, rfl, rfl, rfl, rfl, hr91.mono (hbA _)⟩, rfl⟩ | 13, _ => ⟨⟨_, _, _, _, _, rfl, rfl, rfl, rfl, rfl, hr102.mono (hbA _)⟩, rfl⟩ | 14, _ => ⟨⟨_, _, _, _, _, rfl, rfl, rfl, rfl, rfl, hr113.mono (hbA _)⟩, rfl⟩ | 15, _ => ⟨⟨_, _, _, _, _, rfl, rfl, rfl, rfl, rfl, hr124.mono (hbA _)⟩, rfl⟩ | 16, _ => ⟨⟨_, _, _, _, _, rfl, rfl, rfl, rfl, rfl, hr134.mono (hbA _)⟩, rfl⟩ | 17, _ => ⟨⟨_, _, _, _, _, rfl, rfl, rfl, rfl, rfl, hr142.mono (hbA _)⟩, rfl⟩ | 18, _ => ⟨⟨_, _, _, _, _, rfl, rfl, rfl, rfl, rfl, hr147.mono (hbA _)⟩, rfl⟩ | n + 19, hn19 => absurd (show n + 19 < 19 from hn19) (by omega)⟩⟩
   · obtain ⟨b, cs, e148, -⟩ := h.get 109 (hw _ rfl ⟨109, .data⟩ (by simp) rfl) (.tab B 55 rows23) (by rw [HV.out]; rfl)
     have t148 : a'.tmps[148]?.getD undef = .slice (some ⟨b, 0, none⟩) 19 19 := by rw [HA.out]; exact e148
     clear e148
     refine wpOp_step rfl fun K hK => ?_
     go_simp
     exact hK _ _ ⟨upd f 149 _, by rw [HA.out]; rfl, hf.upd 149 (by decide) _, h.same 110 _ (.con (.int .i64 19)) (by rw [HV.out]; rfl) rfl⟩
   · refine wpOp_step rfl fun K hK => ?_
     go_simp
     exact hK _ _ ⟨upd f 150 _, by rw [HA.out]; rfl, hf.upd 150 (by decide) _, h.same 111 _ (.con (.int .i64 0)) (by rw [HV.out]; rfl) rfl⟩
   · omega
 case last =>
   rintro d a' w' hall ⟨f, rfl, hf, h⟩
   obtain ⟨b, cs, e148, hb, hm, hc⟩ := h.get 109 (hall 109 (by omega)) (.tab B 55 rows23) (by rw [HV.out]; rfl)
   have e149 : f 149 = .int .i64 19 := h.get 110 (hall 110 (by omega)) (.con (.int .i64 19)) (by rw [HV.out]; rfl)
   have e150 : f 150 = .int .i64 0 := h.get 111 (hall 111 (by omega)) (.con (.int .i64 0)) (by rw [HV.out]; rfl)
   have hle := h.1
   go_step
   go_step
   exact HK.out f w' hf hle ⟨b, cs, e148, hb, hm, hc⟩ e149 e150
end Go.Proofs.YtgghgcilpfdbjaaGreatDoor
