/- The contract of legatelaw17.JudgeCounts. Printed by gencounts.py. -/
import Derived.Test.YtaekmmnpdbmoeaaGreatDoorJh31
import Derived.Test.YtaekmmnpdbmoeaaGreatDoorJh28
import Derived.Test.YtaekmmnpdbmoeaaGreatDoorJk05
import Derived.Test.YtaekmmnpdbmoeaaGreatDoorJh29
import Derived.Test.YtaekmmnpdbmoeaaGreatDoorJk10

namespace Go.Proofs.YtaekmmnpdbmoeaaGreatDoor
open Go.RowKit
theorem vq11 {V l : List MP} (h : Hid (V = l)) {j : Nat} {f : MP} (e : l[j]? = some f) : V[j]? = some f := by rw [h.out]; exact e
end Go.Proofs.YtaekmmnpdbmoeaaGreatDoor

namespace Go.Proofs.YtaekmmnpdbmoeaaGreatDoor
open Go.RowKit

set_option maxHeartbeats 2000000 in
set_option maxRecDepth 100000 in
theorem lawCounts (hm : Bool) (vl : List Ver3) (va : Option Addr) (vc : Nat) (u : JV) (l : List Sig2) (an ai sa : Option Addr) (cn ci sc : Nat) (t : Int) (ids : List ByteArray) (ia : Option Addr) (ic : Nat) (keys : List Key2) (ka : Option Addr) (kc : Nat) (w : World)
   (hV : TrisAt w 0 w.heap.size va vl) (hvl : vl.length ≤ 9223372036854775807) (hI : JudgeIn w u l an ai sa cn ci ids ia keys ka) (hn : u.num) (hT : Tabs w) (hP : Pow10 w) :
   Calls Tryz.prog 4 #[.bool hm, .slice va vl.length vc, envV u an ai cn ci sa l.length sc, .agg #[.int .i64 t, .slice ia ids.length ic], .slice ka keys.length kc] w fun e w' => e = .returned (.bool true) ∧ Below w.heap.size w w' := by
 obtain ⟨W0, hW0⟩ : ∃ W0, W0 = (w.alloc (.cells #[.int .u8 u.kind, .int .i64 u.n, .string u.t, .slice an u.names.length cn, .slice ai u.items.length ci, .slice sa l.length sc] 47)).alloc (.cells #[.int .i64 t, .slice ia ids.length ic] 49) := ⟨_, rfl⟩
 have HB0 := Lib.hid (show Below w.heap.size w W0 by rw [hW0]; exact below_n2 w _ _)
 have HZ0 := Lib.hid (show W0.heap.size = w.heap.size + 2 by rw [hW0]; simp)
 have hb0 : W0.heap[w.heap.size]? = some (.cells #[.int .u8 u.kind, .int .i64 u.n, .string u.t, .slice an u.names.length cn, .slice ai u.items.length ci, .slice sa l.length sc] 47 (0, 0)) := by
   rw [hW0, Below.heap_alloc _ _ _ (by simp)]; exact heap_alloc_new w _
 have hb1 : W0.heap[w.heap.size + 1]? = some (.cells #[.int .i64 t, .slice ia ids.length ic] 49 (0, 0)) := by
   rw [hW0]
   have := heap_alloc_new (w.alloc (.cells #[.int .u8 u.kind, .int .i64 u.n, .string u.t, .slice an u.names.length cn, .slice ai u.items.length ci, .slice sa l.length sc] 47)) (.cells #[.int .i64 t, .slice ia ids.length ic] 49)
   simpa using this
 have HS := Lib.hid (show ∀ w' : World, Below W0.heap.size W0 w' → w'.cell? ⟨w.heap.size, 0, none⟩ = some (.int .u8 u.kind) ∧ w'.cell? ⟨w.heap.size, 1, none⟩ = some (.int .i64 u.n) ∧ w'.cell? ⟨w.heap.size, 2, none⟩ = some (.string u.t) ∧ w'.cell? ⟨w.heap.size, 3, none⟩ = some (.slice an u.names.length cn) ∧ w'.cell? ⟨w.heap.size, 4, none⟩ = some (.slice ai u.items.length ci) ∧ w'.cell? ⟨w.heap.size, 5, none⟩ = some (.slice sa l.length sc) ∧
     w'.cell? ⟨w.heap.size + 1, 0, none⟩ = some (.int .i64 t) ∧ w'.cell? ⟨w.heap.size + 1, 1, none⟩ = some (.slice ia ids.length ic) from fun w' h => by
   have y0 := (h.block _ (heap_lt hb0)).trans hb0
   have y1 := (h.block _ (heap_lt hb1)).trans hb1
   exact ⟨box_cell y0 rfl, box_cell y0 rfl, box_cell y0 rfl, box_cell y0 rfl, box_cell y0 rfl, box_cell y0 rfl, box_cell y1 rfl, box_cell y1 rfl⟩)
 have HBT := Lib.hid (show ∀ w' : World, Below W0.heap.size W0 w' → Below w.heap.size w w' from fun w' h => HB0.out.trans (h.mono HB0.out.size))
 have HT := Lib.hid (show ∀ w' : World, Below W0.heap.size W0 w' → Tabs w' from fun w' h => hT.below (HBT.out w' h))
 have HP := Lib.hid (show ∀ w' : World, Below W0.heap.size W0 w' → Pow10 w' from fun w' h => hP.below (HBT.out w' h))
 have HA := Lib.hid (show ∀ w' : World, Below W0.heap.size W0 w' → Calls Tryz.prog 14 #[] w' (fun e w'' => e = .returned (.bool true) ∧ Below w'.heap.size w' w'') from fun w' h => lawAwake17 w' (HT.out w' h) (HP.out w' h))
 have HLV := Lib.hid (lawLongVerdicts vl va vc W0 (hV.below HB0.out (Nat.le_refl _) (Nat.le_refl _) HB0.out.size) hvl)
 have HV := Lib.hid (show ∀ w' : World, Below W0.heap.size W0 w' → TrisAt w' 0 w'.heap.size va vl from fun w' h => hV.below (HBT.out w' h) (Nat.le_refl _) (Nat.le_refl _) (HBT.out w' h).size)
 have HI := Lib.hid (show ∀ w' : World, Below W0.heap.size W0 w' → JudgeIn w' u l an ai sa cn ci ids ia keys ka from fun w' h => hI.below (HBT.out w' h))
 have HLG := Lib.hid (show ∀ w' : World, Below W0.heap.size W0 w' → Calls Tryz.prog 20 #[.agg #[.int .u8 u.kind, .int .i64 u.n, .string u.t, .slice an u.names.length cn, .slice ai u.items.length ci, .slice sa l.length sc], .agg #[.int .i64 t, .slice ia ids.length ic], .slice ka keys.length kc] w' (LongPost17 u l ids keys w') from fun w' h => lawLong17 u l an ai sa cn ci sc t ids ia ic keys ka kc w' (HI.out w' h))
 have HW0 := Lib.hid hW0
 have HNUM := Lib.hid hn
 unfold envV
 clear hV hvl hT hP hb0 hb1 hW0 hI hn
 go_enter Tryz.func4, Tryz.ntmps4
 go_wp2_with fail
 rw [← HW0.out]
 refine HLV.out.mono ?_
 clear HLV HW0
 rintro e w1 ⟨b, rfl, hb, hb1⟩
 have HB1 := Lib.hid hb1
 clear hb1
 obtain ⟨q0, q1, q2, q3, q4, q5, q6, q7⟩ := HS.out w1 HB1.out
 cases b
 case true =>
   clear hb
   go_wp2_with fail
   refine (HA.out w1 HB1.out).mono ?_
   rintro e w99 ⟨rfl, hb9⟩
   have HB9 := Lib.hid (HB1.out.trans (hb9.mono HB1.out.size))
   clear hb9
   go_wp2
   go_ret
   exact ⟨rfl, HBT.out _ HB9.out⟩
 have HVZ := Lib.hid (hb rfl).1
 clear hb
 go_wp2_with fail
 refine (HLG.out w1 HB1.out).mono ?_
 clear HLG q0 q1 q2 q3 q4 q5 q6 q7
 rintro e w2 ⟨b, rfl, hb, hb2⟩
 have HB2 := Lib.hid (HB1.out.trans (hb2.mono HB1.out.size))
 clear hb2
 obtain ⟨q0, q1, q2, q3, q4, q5, q6, q7⟩ := HS.out w2 HB2.out
 cases b
 case true =>
   clear hb
   go_wp2_with fail
   refine (HA.out w2 HB2.out).mono ?_
   rintro e w99 ⟨rfl, hb9⟩
   have HB9 := Lib.hid (HB2.out.trans (hb9.mono HB2.out.size))
   clear hb9
   go_wp2
   go_ret
   exact ⟨rfl, HBT.out _ HB9.out⟩
 have HNL := Lib.hid (hb rfl)
 clear hb
 have HBO := Lib.hid (lawBoth hm vl va vc w2 (HV.out w2 HB2.out) HVZ.out)
 obtain ⟨v, hv⟩ : ∃ v, v = verOf hm vl := ⟨_, rfl⟩
 rw [← hv] at HBO
 clear hv
 go_wp2_with fail
 refine HBO.out.mono ?_
 clear HBO q0 q1 q2 q3 q4 q5 q6 q7
 rintro e w3 ⟨x, y, rfl, hx, hy, hb3⟩
 have HB3 := Lib.hid (HB2.out.trans (hb3.mono HB2.out.size))
 have HX := Lib.hid hx
 have HY := Lib.hid hy
 clear hx hy hb3
 have HZ := Lib.hid (show ∀ w' : World, Below w3.heap.size w3 w' → Below W0.heap.size W0 w' from fun w' h => HB3.out.trans (h.mono HB3.out.size))
 have HSZ := Lib.hid (fun (w' : World) (h : Below w3.heap.size w3 w') => HS.out w' (HZ.out w' h))
 obtain ⟨n, hn⟩ : ∃ n : Nat, n = countV v u l t ids keys := ⟨_, rfl⟩
 obtain ⟨g, hg⟩ : ∃ g : Bool, g = enoughV v u l t ids keys := ⟨_, rfl⟩
 have HC1 := Lib.hid (show ∀ w' : World, Below w3.heap.size w3 w' → Calls Tryz.prog 21 #[x, .agg #[.int .u8 u.kind, .int .i64 u.n, .string u.t, .slice an u.names.length cn, .slice ai u.items.length ci, .slice sa l.length sc], .agg #[.int .i64 t, .slice ia ids.length ic], .slice ka keys.length kc] w' (fun e w'' => e = .returned (.int .i64 (n : Int)) ∧ Below w'.heap.size w' w'') from fun w' h => by
   have hI := HI.out w' (HZ.out w' h)
   rw [hn]
   exact judgeCount v x u l an ai sa cn ci sc t ids ia ic keys ka kc w' (HX.out.below h) (HNL.out.env hI) (HNL.out.auth hI) (HNL.out.row hI) HNUM.out (HP.out w' (HZ.out w' h)) (HT.out w' (HZ.out w' h)))
 have HC2 := Lib.hid (show ∀ w' : World, Below w3.heap.size w3 w' → Calls Tryz.prog 22 #[y, .agg #[.int .u8 u.kind, .int .i64 u.n, .string u.t, .slice an u.names.length cn, .slice ai u.items.length ci, .slice sa l.length sc], .agg #[.int .i64 t, .slice ia ids.length ic], .slice ka keys.length kc] w' (fun e w'' => e = .returned (.int .i64 (n : Int)) ∧ Below w'.heap.size w' w'') from fun w' h => by
   have hI := HI.out w' (HZ.out w' h)
   rw [hn]
   exact ref17Count v y u l an ai sa cn ci sc t ids ia ic keys ka kc w' (HY.out.below h) (HNL.out.env hI) (HNL.out.auth hI) (HNL.out.row hI) HNUM.out)
 have HE1 := Lib.hid (show ∀ w' : World, Below w3.heap.size w3 w' → Calls Tryz.prog 23 #[x, .agg #[.int .u8 u.kind, .int .i64 u.n, .string u.t, .slice an u.names.length cn, .slice ai u.items.length ci, .slice sa l.length sc], .agg #[.int .i64 t, .slice ia ids.length ic], .slice ka keys.length kc] w' (fun e w'' => e = .returned (.bool g) ∧ Below w'.heap.size w' w'') from fun w' h => by
   have hI := HI.out w' (HZ.out w' h)
   rw [hg]
   exact judgeEnough v x u l an ai sa cn ci sc t ids ia ic keys ka kc w' (HX.out.below h) (HNL.out.env hI) (HNL.out.auth hI) (HNL.out.row hI) HNUM.out (HP.out w' (HZ.out w' h)) (HT.out w' (HZ.out w' h)))
 have HE2 := Lib.hid (show ∀ w' : World, Below w3.heap.size w3 w' → Calls Tryz.prog 24 #[y, .agg #[.int .u8 u.kind, .int .i64 u.n, .string u.t, .slice an u.names.length cn, .slice ai u.items.length ci, .slice sa l.length sc], .agg #[.int .i64 t, .slice ia ids.length ic], .slice ka keys.length kc] w' (fun e w'' => e = .returned (.bool g) ∧ Below w'.heap.size w' w'') from fun w' h => by
   have hI := HI.out w' (HZ.out w' h)
   rw [hg]
   exact ref17Enough v y u l an ai sa cn ci sc t ids ia ic keys ka kc w' (HY.out.below h) (HNL.out.env hI) (HNL.out.auth hI) (HNL.out.row hI) HNUM.out)
 have HA3 := Lib.hid (fun (w' : World) (h : Below w3.heap.size w3 w') => HA.out w' (HZ.out w' h))
 clear hn hg
 have hgg : (g == g) = true := beq_self_eq_true _
 go_upto_region 4 with fail
 obtain ⟨V, hV⟩ : ∃ V : List MP, V = [.con (x), .con (.agg #[.int .u8 u.kind, .int .i64 u.n, .string u.t, .slice an u.names.length cn, .slice ai u.items.length ci, .slice sa l.length sc]), .con (.agg #[.int .i64 t, .slice ia ids.length ic]), .con (.slice ka keys.length kc), .con (.int .i64 (n : Int)), .con (y), .con (.agg #[.int .u8 u.kind, .int .i64 u.n, .string u.t, .slice an u.names.length cn, .slice ai u.items.length ci, .slice sa l.length sc]), .con (.agg #[.int .i64 t, .slice ia ids.length ic]), .con (.slice ka keys.length kc), .con (.int .i64 (n : Int)), .con (.bool true), .con (.bool true), .con (x), .con (.agg #[.int .u8 u.kind, .int .i64 u.n, .string u.t, .slice an u.names.length cn, .slice ai u.items.length ci, .slice sa l.length sc]), .con (.agg #[.int .i64 t, .slice ia ids.length ic]), .con (.slice ka keys.length kc), .con (.bool g), .con (y), .con (.agg #[.int .u8 u.kind, .int .i64 u.n, .string u.t, .slice an u.names.length cn, .slice ai u.items.length ci, .slice sa l.length sc]), .con (.agg #[.int .i64 t, .slice ia ids.length ic]), .con (.slice ka keys.length kc), .con (.bool g), .con (.bool true), .con (.bool true), .con (.bool true), .con (.bool true), .con (.bool true)] := ⟨_, rfl⟩
 have HV := Lib.hid hV
 clear hV
 refine wp_region_inv 27 (fun d a' w' => ∃ XC XD XE XF XG XH XI XJ XK XL XM XN XO XP XQ XR XS XT XU XV XW XX XY XZ Xa Xb Xc, a' = ⟨#[.bool hm, .slice va vl.length vc, .agg #[.int .u8 u.kind, .int .i64 u.n, .string u.t, .slice an u.names.length cn, .slice ai u.items.length ci, .slice sa l.length sc], .agg #[.int .i64 t, .slice ia ids.length ic], .slice ka keys.length kc, undef, undef, .pointer (some ⟨w.heap.size, 0, none⟩), .pointer (some ⟨w.heap.size + 1, 0, none⟩), undef, .bool false, x, y, .slice va vl.length vc, .bool false, .bool false, .agg #[.int .u8 u.kind, .int .i64 u.n, .string u.t, .slice an u.names.length cn, .slice ai u.items.length ci, .slice sa l.length sc], .agg #[.int .i64 t, .slice ia ids.length ic], .slice ka keys.length kc, .bool false, .bool false, undef, .tuple #[x, y], .bool hm, .slice va vl.length vc, .tuple #[x, y], x, y, XC, XD, XE, XF, XG, XH, XI, XJ, XK, XL, XM, XN, XO, XP, XQ, XR, XS, XT, XU, XV, XW, XX, XY, XZ, Xa, Xb, Xc], []⟩ ∧ RegI w3 V d w' [XC, XD, XE, XF, XG, XH, XI, XJ, XK, XL, XM, XN, XO, XP, XQ, XR, XS, XT, XU, XV, XW, XX, XY, XZ, Xa, Xb, Xc]) (by kernel_rfl) (by kernel_rfl) ?first ?step ?last
 case first => exact ⟨_, _, _, _, _, _, _, _, _, _, _, _, _, _, _, _, _, _, _, _, _, _, _, _, _, _, _, rfl, RegI.first _ _ _ (by rw [HV.out]; rfl)⟩
 case step =>
   rintro d a' w' ⟨XC, XD, XE, XF, XG, XH, XI, XJ, XK, XL, XM, XN, XO, XP, XQ, XR, XS, XT, XU, XV, XW, XX, XY, XZ, Xa, Xb, Xc, rfl, h⟩ q hq hn hw
   rcases q with _ | _ | _ | _ | _ | _ | _ | _ | _ | _ | _ | _ | _ | _ | _ | _ | _ | _ | _ | _ | _ | _ | _ | _ | _ | _ | _ | q
   · refine wpOp_step rfl fun K hK => ?_
     go_simp
     exact hK _ _ ⟨_, XD, XE, XF, XG, XH, XI, XJ, XK, XL, XM, XN, XO, XP, XQ, XR, XS, XT, XU, XV, XW, XX, XY, XZ, Xa, Xb, Xc, rfl, h.same 0 _ (.con (x)) (vq11 HV rfl) rfl⟩
   · obtain ⟨q0, q1, q2, q3, q4, q5, q6, q7⟩ := HSZ.out w' h.1
     refine wpOp_step rfl fun K hK => ?_
     go_simp
     exact hK _ _ ⟨XC, _, XE, XF, XG, XH, XI, XJ, XK, XL, XM, XN, XO, XP, XQ, XR, XS, XT, XU, XV, XW, XX, XY, XZ, Xa, Xb, Xc, rfl, h.same 1 _ (.con (.agg #[.int .u8 u.kind, .int .i64 u.n, .string u.t, .slice an u.names.length cn, .slice ai u.items.length ci, .slice sa l.length sc])) (vq11 HV rfl) rfl⟩
   · obtain ⟨q0, q1, q2, q3, q4, q5, q6, q7⟩ := HSZ.out w' h.1
     refine wpOp_step rfl fun K hK => ?_
     go_simp
     exact hK _ _ ⟨XC, XD, _, XF, XG, XH, XI, XJ, XK, XL, XM, XN, XO, XP, XQ, XR, XS, XT, XU, XV, XW, XX, XY, XZ, Xa, Xb, Xc, rfl, h.same 2 _ (.con (.agg #[.int .i64 t, .slice ia ids.length ic])) (vq11 HV rfl) rfl⟩
   · refine wpOp_step rfl fun K hK => ?_
     go_simp
     exact hK _ _ ⟨XC, XD, XE, _, XG, XH, XI, XJ, XK, XL, XM, XN, XO, XP, XQ, XR, XS, XT, XU, XV, XW, XX, XY, XZ, Xa, Xb, Xc, rfl, h.same 3 _ (.con (.slice ka keys.length kc)) (vq11 HV rfl) rfl⟩
   · obtain rfl : XC = x := h.get 0 (hw _ rfl ⟨0, .data⟩ (by simp) rfl) (.con (x)) (vq11 HV rfl) _ rfl
     obtain rfl : XD = .agg #[.int .u8 u.kind, .int .i64 u.n, .string u.t, .slice an u.names.length cn, .slice ai u.items.length ci, .slice sa l.length sc] := h.get 1 (hw _ rfl ⟨1, .data⟩ (by simp) rfl) (.con (.agg #[.int .u8 u.kind, .int .i64 u.n, .string u.t, .slice an u.names.length cn, .slice ai u.items.length ci, .slice sa l.length sc])) (vq11 HV rfl) _ rfl
     obtain rfl : XE = .agg #[.int .i64 t, .slice ia ids.length ic] := h.get 2 (hw _ rfl ⟨2, .data⟩ (by simp) rfl) (.con (.agg #[.int .i64 t, .slice ia ids.length ic])) (vq11 HV rfl) _ rfl
     obtain rfl : XF = .slice ka keys.length kc := h.get 3 (hw _ rfl ⟨3, .data⟩ (by simp) rfl) (.con (.slice ka keys.length kc)) (vq11 HV rfl) _ rfl
     obtain ⟨q0, q1, q2, q3, q4, q5, q6, q7⟩ := HSZ.out w' h.1
     refine wpOp_step rfl fun K hK => ?_
     go_simp
     refine (HC1.out w' h.1).mono ?_
     rintro e w2 ⟨rfl, hb2⟩
     exact hK _ _ ⟨_, _, _, _, _, XH, XI, XJ, XK, XL, XM, XN, XO, XP, XQ, XR, XS, XT, XU, XV, XW, XX, XY, XZ, Xa, Xb, Xc, rfl, h.did hb2 4 _ (.con (.int .i64 (n : Int))) (vq11 HV rfl) rfl⟩
   · refine wpOp_step rfl fun K hK => ?_
     go_simp
     exact hK _ _ ⟨XC, XD, XE, XF, XG, _, XI, XJ, XK, XL, XM, XN, XO, XP, XQ, XR, XS, XT, XU, XV, XW, XX, XY, XZ, Xa, Xb, Xc, rfl, h.same 5 _ (.con (y)) (vq11 HV rfl) rfl⟩
   · obtain ⟨q0, q1, q2, q3, q4, q5, q6, q7⟩ := HSZ.out w' h.1
     refine wpOp_step rfl fun K hK => ?_
     go_simp
     exact hK _ _ ⟨XC, XD, XE, XF, XG, XH, _, XJ, XK, XL, XM, XN, XO, XP, XQ, XR, XS, XT, XU, XV, XW, XX, XY, XZ, Xa, Xb, Xc, rfl, h.same 6 _ (.con (.agg #[.int .u8 u.kind, .int .i64 u.n, .string u.t, .slice an u.names.length cn, .slice ai u.items.length ci, .slice sa l.length sc])) (vq11 HV rfl) rfl⟩
   · obtain ⟨q0, q1, q2, q3, q4, q5, q6, q7⟩ := HSZ.out w' h.1
     refine wpOp_step rfl fun K hK => ?_
     go_simp
     exact hK _ _ ⟨XC, XD, XE, XF, XG, XH, XI, _, XK, XL, XM, XN, XO, XP, XQ, XR, XS, XT, XU, XV, XW, XX, XY, XZ, Xa, Xb, Xc, rfl, h.same 7 _ (.con (.agg #[.int .i64 t, .slice ia ids.length ic])) (vq11 HV rfl) rfl⟩
   · refine wpOp_step rfl fun K hK => ?_
     go_simp
     exact hK _ _ ⟨XC, XD, XE, XF, XG, XH, XI, XJ, _, XL, XM, XN, XO, XP, XQ, XR, XS, XT, XU, XV, XW, XX, XY, XZ, Xa, Xb, Xc, rfl, h.same 8 _ (.con (.slice ka keys.length kc)) (vq11 HV rfl) rfl⟩
   · obtain rfl : XH = y := h.get 5 (hw _ rfl ⟨5, .data⟩ (by simp) rfl) (.con (y)) (vq11 HV rfl) _ rfl
     obtain rfl : XI = .agg #[.int .u8 u.kind, .int .i64 u.n, .string u.t, .slice an u.names.length cn, .slice ai u.items.length ci, .slice sa l.length sc] := h.get 6 (hw _ rfl ⟨6, .data⟩ (by simp) rfl) (.con (.agg #[.int .u8 u.kind, .int .i64 u.n, .string u.t, .slice an u.names.length cn, .slice ai u.items.length ci, .slice sa l.length sc])) (vq11 HV rfl) _ rfl
     obtain rfl : XJ = .agg #[.int .i64 t, .slice ia ids.length ic] := h.get 7 (hw _ rfl ⟨7, .data⟩ (by simp) rfl) (.con (.agg #[.int .i64 t, .slice ia ids.length ic])) (vq11 HV rfl) _ rfl
     obtain rfl : XK = .slice ka keys.length kc := h.get 8 (hw _ rfl ⟨8, .data⟩ (by simp) rfl) (.con (.slice ka keys.length kc)) (vq11 HV rfl) _ rfl
     obtain ⟨q0, q1, q2, q3, q4, q5, q6, q7⟩ := HSZ.out w' h.1
     refine wpOp_step rfl fun K hK => ?_
     go_simp
     refine (HC2.out w' h.1).mono ?_
     rintro e w2 ⟨rfl, hb2⟩
     exact hK _ _ ⟨XC, XD, XE, XF, XG, _, _, _, _, _, XM, XN, XO, XP, XQ, XR, XS, XT, XU, XV, XW, XX, XY, XZ, Xa, Xb, Xc, rfl, h.did hb2 9 _ (.con (.int .i64 (n : Int))) (vq11 HV rfl) rfl⟩
   · obtain rfl : XG = .int .i64 (n : Int) := h.get 4 (hw _ rfl ⟨4, .data⟩ (by simp) rfl) (.con (.int .i64 (n : Int))) (vq11 HV rfl) _ rfl
     obtain rfl : XL = .int .i64 (n : Int) := h.get 9 (hw _ rfl ⟨9, .data⟩ (by simp) rfl) (.con (.int .i64 (n : Int))) (vq11 HV rfl) _ rfl
     refine wpOp_step rfl fun K hK => ?_
     go_simp
     exact hK _ _ ⟨XC, XD, XE, XF, _, XH, XI, XJ, XK, _, _, XN, XO, XP, XQ, XR, XS, XT, XU, XV, XW, XX, XY, XZ, Xa, Xb, Xc, rfl, h.same 10 _ (.con (.bool true)) (vq11 HV rfl) rfl⟩
   · obtain rfl : XM = .bool true := h.get 10 (hw _ rfl ⟨10, .data⟩ (by simp) rfl) (.con (.bool true)) (vq11 HV rfl) _ rfl
     refine wpOp_step rfl fun K hK => ?_
     go_simp
     exact hK _ _ ⟨XC, XD, XE, XF, XG, XH, XI, XJ, XK, XL, _, _, XO, XP, XQ, XR, XS, XT, XU, XV, XW, XX, XY, XZ, Xa, Xb, Xc, rfl, h.same 11 _ (.con (.bool true)) (vq11 HV rfl) rfl⟩
   · obtain rfl : XN = .bool true := h.get 11 (hw _ rfl ⟨11, .guard⟩ (by simp) rfl) (.con (.bool true)) (vq11 HV rfl) _ rfl
     refine wpOp_step rfl fun K hK => ?_
     go_simp
     exact hK _ _ ⟨XC, XD, XE, XF, XG, XH, XI, XJ, XK, XL, XM, _, _, XP, XQ, XR, XS, XT, XU, XV, XW, XX, XY, XZ, Xa, Xb, Xc, rfl, h.same 12 _ (.con (x)) (vq11 HV rfl) rfl⟩
   · obtain rfl : XN = .bool true := h.get 11 (hw _ rfl ⟨11, .guard⟩ (by simp) rfl) (.con (.bool true)) (vq11 HV rfl) _ rfl
     obtain ⟨q0, q1, q2, q3, q4, q5, q6, q7⟩ := HSZ.out w' h.1
     refine wpOp_step rfl fun K hK => ?_
     go_simp
     exact hK _ _ ⟨XC, XD, XE, XF, XG, XH, XI, XJ, XK, XL, XM, _, XO, _, XQ, XR, XS, XT, XU, XV, XW, XX, XY, XZ, Xa, Xb, Xc, rfl, h.same 13 _ (.con (.agg #[.int .u8 u.kind, .int .i64 u.n, .string u.t, .slice an u.names.length cn, .slice ai u.items.length ci, .slice sa l.length sc])) (vq11 HV rfl) rfl⟩
   · obtain rfl : XN = .bool true := h.get 11 (hw _ rfl ⟨11, .guard⟩ (by simp) rfl) (.con (.bool true)) (vq11 HV rfl) _ rfl
     obtain ⟨q0, q1, q2, q3, q4, q5, q6, q7⟩ := HSZ.out w' h.1
     refine wpOp_step rfl fun K hK => ?_
     go_simp
     exact hK _ _ ⟨XC, XD, XE, XF, XG, XH, XI, XJ, XK, XL, XM, _, XO, XP, _, XR, XS, XT, XU, XV, XW, XX, XY, XZ, Xa, Xb, Xc, rfl, h.same 14 _ (.con (.agg #[.int .i64 t, .slice ia ids.length ic])) (vq11 HV rfl) rfl⟩
   · obtain rfl : XN = .bool true := h.get 11 (hw _ rfl ⟨11, .guard⟩ (by simp) rfl) (.con (.bool true)) (vq11 HV rfl) _ rfl
     refine wpOp_step rfl fun K hK => ?_
     go_simp
     exact hK _ _ ⟨XC, XD, XE, XF, XG, XH, XI, XJ, XK, XL, XM, _, XO, XP, XQ, _, XS, XT, XU, XV, XW, XX, XY, XZ, Xa, Xb, Xc, rfl, h.same 15 _ (.con (.slice ka keys.length kc)) (vq11 HV rfl) rfl⟩
   · obtain rfl : XN = .bool true := h.get 11 (hw _ rfl ⟨11, .chain⟩ (by simp) rfl) (.con (.bool true)) (vq11 HV rfl) _ rfl
     obtain rfl : XO = x := h.get 12 (hw _ rfl ⟨12, .data⟩ (by simp) rfl) (.con (x)) (vq11 HV rfl) _ rfl
     obtain rfl : XP = .agg #[.int .u8 u.kind, .int .i64 u.n, .string u.t, .slice an u.names.length cn, .slice ai u.items.length ci, .slice sa l.length sc] := h.get 13 (hw _ rfl ⟨13, .data⟩ (by simp) rfl) (.con (.agg #[.int .u8 u.kind, .int .i64 u.n, .string u.t, .slice an u.names.length cn, .slice ai u.items.length ci, .slice sa l.length sc])) (vq11 HV rfl) _ rfl
     obtain rfl : XQ = .agg #[.int .i64 t, .slice ia ids.length ic] := h.get 14 (hw _ rfl ⟨14, .data⟩ (by simp) rfl) (.con (.agg #[.int .i64 t, .slice ia ids.length ic])) (vq11 HV rfl) _ rfl
     obtain rfl : XR = .slice ka keys.length kc := h.get 15 (hw _ rfl ⟨15, .data⟩ (by simp) rfl) (.con (.slice ka keys.length kc)) (vq11 HV rfl) _ rfl
     obtain ⟨q0, q1, q2, q3, q4, q5, q6, q7⟩ := HSZ.out w' h.1
     refine wpOp_step rfl fun K hK => ?_
     go_simp
     refine (HE1.out w' h.1).mono ?_
     rintro e w2 ⟨rfl, hb2⟩
     exact hK _ _ ⟨XC, XD, XE, XF, XG, XH, XI, XJ, XK, XL, XM, _, _, _, _, _, _, XT, XU, XV, XW, XX, XY, XZ, Xa, Xb, Xc, rfl, h.did hb2 16 _ (.con (.bool g)) (vq11 HV rfl) rfl⟩
   · obtain rfl : XN = .bool true := h.get 11 (hw _ rfl ⟨11, .guard⟩ (by simp) rfl) (.con (.bool true)) (vq11 HV rfl) _ rfl
     refine wpOp_step rfl fun K hK => ?_
     go_simp
     exact hK _ _ ⟨XC, XD, XE, XF, XG, XH, XI, XJ, XK, XL, XM, _, XO, XP, XQ, XR, XS, _, XU, XV, XW, XX, XY, XZ, Xa, Xb, Xc, rfl, h.same 17 _ (.con (y)) (vq11 HV rfl) rfl⟩
   · obtain rfl : XN = .bool true := h.get 11 (hw _ rfl ⟨11, .guard⟩ (by simp) rfl) (.con (.bool true)) (vq11 HV rfl) _ rfl
     obtain ⟨q0, q1, q2, q3, q4, q5, q6, q7⟩ := HSZ.out w' h.1
     refine wpOp_step rfl fun K hK => ?_
     go_simp
     exact hK _ _ ⟨XC, XD, XE, XF, XG, XH, XI, XJ, XK, XL, XM, _, XO, XP, XQ, XR, XS, XT, _, XV, XW, XX, XY, XZ, Xa, Xb, Xc, rfl, h.same 18 _ (.con (.agg #[.int .u8 u.kind, .int .i64 u.n, .string u.t, .slice an u.names.length cn, .slice ai u.items.length ci, .slice sa l.length sc])) (vq11 HV rfl) rfl⟩
   · obtain rfl : XN = .bool true := h.get 11 (hw _ rfl ⟨11, .guard⟩ (by simp) rfl) (.con (.bool true)) (vq11 HV rfl) _ rfl
     obtain ⟨q0, q1, q2, q3, q4, q5, q6, q7⟩ := HSZ.out w' h.1
     refine wpOp_step rfl fun K hK => ?_
     go_simp
     exact hK _ _ ⟨XC, XD, XE, XF, XG, XH, XI, XJ, XK, XL, XM, _, XO, XP, XQ, XR, XS, XT, XU, _, XW, XX, XY, XZ, Xa, Xb, Xc, rfl, h.same 19 _ (.con (.agg #[.int .i64 t, .slice ia ids.length ic])) (vq11 HV rfl) rfl⟩
   · obtain rfl : XN = .bool true := h.get 11 (hw _ rfl ⟨11, .guard⟩ (by simp) rfl) (.con (.bool true)) (vq11 HV rfl) _ rfl
     refine wpOp_step rfl fun K hK => ?_
     go_simp
     exact hK _ _ ⟨XC, XD, XE, XF, XG, XH, XI, XJ, XK, XL, XM, _, XO, XP, XQ, XR, XS, XT, XU, XV, _, XX, XY, XZ, Xa, Xb, Xc, rfl, h.same 20 _ (.con (.slice ka keys.length kc)) (vq11 HV rfl) rfl⟩
   · obtain rfl : XN = .bool true := h.get 11 (hw _ rfl ⟨11, .guard⟩ (by simp) rfl) (.con (.bool true)) (vq11 HV rfl) _ rfl
     obtain rfl : XT = y := h.get 17 (hw _ rfl ⟨17, .data⟩ (by simp) rfl) (.con (y)) (vq11 HV rfl) _ rfl
     obtain rfl : XU = .agg #[.int .u8 u.kind, .int .i64 u.n, .string u.t, .slice an u.names.length cn, .slice ai u.items.length ci, .slice sa l.length sc] := h.get 18 (hw _ rfl ⟨18, .data⟩ (by simp) rfl) (.con (.agg #[.int .u8 u.kind, .int .i64 u.n, .string u.t, .slice an u.names.length cn, .slice ai u.items.length ci, .slice sa l.length sc])) (vq11 HV rfl) _ rfl
     obtain rfl : XV = .agg #[.int .i64 t, .slice ia ids.length ic] := h.get 19 (hw _ rfl ⟨19, .data⟩ (by simp) rfl) (.con (.agg #[.int .i64 t, .slice ia ids.length ic])) (vq11 HV rfl) _ rfl
     obtain rfl : XW = .slice ka keys.length kc := h.get 20 (hw _ rfl ⟨20, .data⟩ (by simp) rfl) (.con (.slice ka keys.length kc)) (vq11 HV rfl) _ rfl
     obtain ⟨q0, q1, q2, q3, q4, q5, q6, q7⟩ := HSZ.out w' h.1
     refine wpOp_step rfl fun K hK => ?_
     go_simp
     refine (HE2.out w' h.1).mono ?_
     rintro e w2 ⟨rfl, hb2⟩
     exact hK _ _ ⟨XC, XD, XE, XF, XG, XH, XI, XJ, XK, XL, XM, _, XO, XP, XQ, XR, XS, _, _, _, _, _, XY, XZ, Xa, Xb, Xc, rfl, h.did hb2 21 _ (.con (.bool g)) (vq11 HV rfl) rfl⟩
   · obtain rfl : XN = .bool true := h.get 11 (hw _ rfl ⟨11, .guard⟩ (by simp) rfl) (.con (.bool true)) (vq11 HV rfl) _ rfl
     obtain rfl : XS = .bool g := h.get 16 (hw _ rfl ⟨16, .data⟩ (by simp) rfl) (.con (.bool g)) (vq11 HV rfl) _ rfl
     obtain rfl : XX = .bool g := h.get 21 (hw _ rfl ⟨21, .data⟩ (by simp) rfl) (.con (.bool g)) (vq11 HV rfl) _ rfl
     refine wpOp_step rfl fun K hK => ?_
     go_simp
     exact hK _ _ ⟨XC, XD, XE, XF, XG, XH, XI, XJ, XK, XL, XM, _, XO, XP, XQ, XR, _, XT, XU, XV, XW, _, _, XZ, Xa, Xb, Xc, rfl, h.same 22 _ (.con (.bool true)) (vq11 HV rfl) rfl⟩
   · obtain rfl : XN = .bool true := h.get 11 (hw _ rfl ⟨11, .data⟩ (by simp) rfl) (.con (.bool true)) (vq11 HV rfl) _ rfl
     obtain rfl : XY = .bool true := h.get 22 (hw _ rfl ⟨22, .data⟩ (by simp) rfl) (.con (.bool true)) (vq11 HV rfl) _ rfl
     refine wpOp_step rfl fun K hK => ?_
     go_simp
     exact hK _ _ ⟨XC, XD, XE, XF, XG, XH, XI, XJ, XK, XL, XM, _, XO, XP, XQ, XR, XS, XT, XU, XV, XW, XX, _, _, Xa, Xb, Xc, rfl, h.same 23 _ (.con (.bool true)) (vq11 HV rfl) rfl⟩
   · obtain rfl : XZ = .bool true := h.get 23 (hw _ rfl ⟨23, .data⟩ (by simp) rfl) (.con (.bool true)) (vq11 HV rfl) _ rfl
     refine wpOp_step rfl fun K hK => ?_
     go_simp
     exact hK _ _ ⟨XC, XD, XE, XF, XG, XH, XI, XJ, XK, XL, XM, XN, XO, XP, XQ, XR, XS, XT, XU, XV, XW, XX, XY, _, _, Xb, Xc, rfl, h.same 24 _ (.con (.bool true)) (vq11 HV rfl) rfl⟩
   · obtain rfl : Xa = .bool true := h.get 24 (hw _ rfl ⟨24, .chain⟩ (by simp) rfl) (.con (.bool true)) (vq11 HV rfl) _ rfl
     obtain ⟨q0, q1, q2, q3, q4, q5, q6, q7⟩ := HSZ.out w' h.1
     refine wpOp_step rfl fun K hK => ?_
     go_simp
     refine (HA3.out w' h.1).mono ?_
     rintro e w2 ⟨rfl, hb2⟩
     exact hK _ _ ⟨XC, XD, XE, XF, XG, XH, XI, XJ, XK, XL, XM, XN, XO, XP, XQ, XR, XS, XT, XU, XV, XW, XX, XY, XZ, _, _, Xc, rfl, h.did hb2 25 _ (.con (.bool true)) (vq11 HV rfl) rfl⟩
   · obtain rfl : Xa = .bool true := h.get 24 (hw _ rfl ⟨24, .data⟩ (by simp) rfl) (.con (.bool true)) (vq11 HV rfl) _ rfl
     obtain rfl : Xb = .bool true := h.get 25 (hw _ rfl ⟨25, .data⟩ (by simp) rfl) (.con (.bool true)) (vq11 HV rfl) _ rfl
     refine wpOp_step rfl fun K hK => ?_
     go_simp
     exact hK _ _ ⟨XC, XD, XE, XF, XG, XH, XI, XJ, XK, XL, XM, XN, XO, XP, XQ, XR, XS, XT, XU, XV, XW, XX, XY, XZ, _, _, _, rfl, h.same 26 _ (.con (.bool true)) (vq11 HV rfl) rfl⟩
   · omega
 case last =>
   rintro d a' w' hall ⟨XC, XD, XE, XF, XG, XH, XI, XJ, XK, XL, XM, XN, XO, XP, XQ, XR, XS, XT, XU, XV, XW, XX, XY, XZ, Xa, Xb, Xc, rfl, h⟩
   have hle := h.1
   obtain rfl : Xc = .bool true := h.get 26 (hall _ (by omega)) (.con (.bool true)) (vq11 HV rfl) _ rfl
   have HLE := Lib.hid hle
   clear h hall hle HV
   go_wp2
   go_ret
   exact ⟨by simp, HBT.out _ (HZ.out _ HLE.out)⟩

end Go.Proofs.YtaekmmnpdbmoeaaGreatDoor
