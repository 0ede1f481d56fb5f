/- The contract of legateref17.Enough. Printed by genref17c.py. -/
import Derived.Test.YtaekmmnpdbmoeaaGreatDoorJk09
import Derived.Test.YtaekmmnpdbmoeaaGreatDoorJh28

namespace Go.Proofs.YtaekmmnpdbmoeaaGreatDoor
open Go.RowKit
theorem vq10 {V l : List MP} (h : Hid (V = l)) {j : Nat} {f : MP} (e : l[j]? = some f) : V[j]? = some f := by rw [h.out]; exact e
end Go.Proofs.YtaekmmnpdbmoeaaGreatDoor

namespace Go.Proofs.YtaekmmnpdbmoeaaGreatDoor
open Go.RowKit

set_option maxHeartbeats 4000000 in
set_option maxRecDepth 100000 in
theorem ref17Enough (v : Ver) (x : Value) (u : JV) (l : List Sig2) (an ai sa : Option Addr) (cn ci sc : Nat) (t : Int) (ids : List ByteArray) (ia : Option Addr) (ic : Nat) (keys : List Key2) (ka : Option Addr) (kc : Nat) (w : World)
   (hV : RVer w x v) (hE : EnvAt w u l an ai sa cn ci) (hA : AuthAt w ids ia) (hK : KeyRow w keys ka) (hn : u.num) :
   Calls Tryz.prog 24 #[x, envV u an ai cn ci sa l.length sc, .agg #[.int .i64 t, .slice ia ids.length ic], .slice ka keys.length kc] w fun e w' => e = .returned (.bool (enoughV v u l t ids keys)) ∧ Below w.heap.size w w' := by
 obtain ⟨W, hW⟩ : ∃ W, W = (w.alloc (.cells #[.int .u8 u.kind, .int .i64 u.n, .string u.t, .slice an u.names.length cn, .slice ai u.items.length ci, .slice sa l.length sc] 47)).alloc (.cells #[.int .i64 t, .slice ia ids.length ic] 49) := ⟨_, rfl⟩
 have HBW := Lib.hid (show Below w.heap.size w W by rw [hW]; exact below_n2 w _ _)
 have hx0 : W.heap[w.heap.size]? = some (.cells #[.int .u8 u.kind, .int .i64 u.n, .string u.t, .slice an u.names.length cn, .slice ai u.items.length ci, .slice sa l.length sc] 47 (0, 0)) := by
   rw [hW, Below.heap_alloc _ _ _ (by simp)]; exact heap_alloc_new w _
 have hx1 : W.heap[w.heap.size + 1]? = some (.cells #[.int .i64 t, .slice ia ids.length ic] 49 (0, 0)) := by
   rw [hW]
   have := heap_alloc_new (w.alloc (.cells #[.int .u8 u.kind, .int .i64 u.n, .string u.t, .slice an u.names.length cn, .slice ai u.items.length ci, .slice sa l.length sc] 47)) (.cells #[.int .i64 t, .slice ia ids.length ic] 49)
   simpa using this
 have HS := Lib.hid (show ∀ w' : World, Below W.heap.size W w' → w'.cell? ⟨w.heap.size, 0, none⟩ = some (.int .u8 u.kind) ∧ w'.cell? ⟨w.heap.size, 1, none⟩ = some (.int .i64 u.n) ∧ w'.cell? ⟨w.heap.size, 2, none⟩ = some (.string u.t) ∧ w'.cell? ⟨w.heap.size, 3, none⟩ = some (.slice an u.names.length cn) ∧ w'.cell? ⟨w.heap.size, 4, none⟩ = some (.slice ai u.items.length ci) ∧ w'.cell? ⟨w.heap.size, 5, none⟩ = some (.slice sa l.length sc) ∧
     w'.cell? ⟨w.heap.size + 1, 0, none⟩ = some (.int .i64 t) ∧ w'.cell? ⟨w.heap.size + 1, 1, none⟩ = some (.slice ia ids.length ic) from fun w' h => by
   have y0 := (h.block _ (heap_lt hx0)).trans hx0
   have y1 := (h.block _ (heap_lt hx1)).trans hx1
   exact ⟨box_cell y0 rfl, box_cell y0 rfl, box_cell y0 rfl, box_cell y0 rfl, box_cell y0 rfl, box_cell y0 rfl, box_cell y1 rfl, box_cell y1 rfl⟩)
 have HWT := Lib.hid (show ∀ w' : World, Below W.heap.size W w' → Below w.heap.size w w' from fun w' h => HBW.out.trans (h.mono HBW.out.size))
 have HW := Lib.hid hW
 clear hx0 hx1 hW
 have HSG := Lib.hid (show Calls Tryz.prog 50 #[.agg #[.int .u8 u.kind, .int .i64 u.n, .string u.t, .slice an u.names.length cn, .slice ai u.items.length ci, .slice sa l.length sc]] W (fun e w' => e = .returned (.tuple #[.string ⟨(signS u l).toArray⟩, .int .i64 (signE u l)]) ∧ Below W.heap.size W w') from ref16Signed u l an ai sa cn ci sc W (hE.below HBW.out) hn)
 obtain ⟨ok, hok⟩ : ∃ ok, ok = authOk t ids := ⟨_, rfl⟩
 obtain ⟨ek, hek⟩ : ∃ ek, ek = envOk u l := ⟨_, rfl⟩
 obtain ⟨CV, hCV⟩ : ∃ CV : Nat, CV = countV v u l t ids keys := ⟨_, rfl⟩
 have HAM := Lib.hid (show ∀ w' : World, Below W.heap.size W w' → Calls Tryz.prog 51 #[.agg #[.int .i64 t, .slice ia ids.length ic]] w' (fun e w'' => e = .returned (.bool ok) ∧ Below w'.heap.size w' w'') from fun w' h => by rw [hok]; exact ref15May t ids ia ic w' (hA.below (HWT.out w' h)).strs (fun s hs => by have := hA.sizes s hs; omega) hA.len)
 have HCO := Lib.hid (show ∀ w' : World, Below W.heap.size W w' → Calls Tryz.prog 22 #[x, .agg #[.int .u8 u.kind, .int .i64 u.n, .string u.t, .slice an u.names.length cn, .slice ai u.items.length ci, .slice sa l.length sc], .agg #[.int .i64 t, .slice ia ids.length ic], .slice ka keys.length kc] w' (fun e w'' => e = .returned (.int .i64 (CV : Int)) ∧ Below w'.heap.size w' w'') from fun w' h => by
   rw [hCV]
   exact ref17Count v x u l an ai sa cn ci sc t ids ia ic keys ka kc w' (hV.below (HWT.out w' h)) (hE.below (HWT.out w' h)) (hA.below (HWT.out w' h)) (hK.below (HWT.out w' h)) hn)
 have HEV := Lib.hid (show enoughV v u l t ids keys = (ok && decide (t ≤ (CV : Int))) by unfold enoughV; rw [hok, hCV])
 have HE0 := Lib.hid (show ek = false → enoughV v u l t ids keys = false from fun h => (enough_bad (fun h2 => by rw [← hek, h] at h2; cases h2.2)).2)
 unfold signS signE at HSG
 rw [← hek] at HSG
 obtain ⟨EV, hEV⟩ : ∃ EV, EV = enoughV v u l t ids keys := ⟨_, rfl⟩
 rw [← hEV] at HEV HE0 ⊢
 obtain ⟨M, hM⟩ : ∃ M : ByteArray, M = ⟨(if ek = true then u.enc else []).toArray⟩ := ⟨_, rfl⟩
 rw [← hM] at HSG
 unfold envV
 clear hV hE hA hK hn hok hek hCV hEV hM
 obtain ⟨q0, q1, q2, q3, q4, q5, q6, q7⟩ := HS.out W (Below.refl _ _)
 go_enter Tryz.func24, Tryz.ntmps24
 go_wp2_with fail
 rw [← HW.out]
 refine HSG.out.mono ?_
 clear HSG q0 q1 q2 q3 q4 q5 q6 q7
 rintro e w1 ⟨rfl, hb1⟩
 have HB1 := Lib.hid hb1
 clear hb1
 have HC := Lib.hid (fun (w' : World) (h : Below w1.heap.size w1 w') => HS.out w' (HB1.out.trans (h.mono HB1.out.size)))
 have HAM1 := Lib.hid (fun (w' : World) (h : Below w1.heap.size w1 w') => HAM.out w' (HB1.out.trans (h.mono HB1.out.size)))
 have HCO1 := Lib.hid (fun (w' : World) (h : Below w1.heap.size w1 w') => HCO.out w' (HB1.out.trans (h.mono HB1.out.size)))
 clear HAM HCO
 cases ek
 case false =>
   rw [if_neg (by simp)]
   have HF := Lib.hid (HE0.out rfl)
   go_upto_region 2 with fail
   obtain ⟨V, hV⟩ : ∃ V : List MP, V = [.con (.int .i64 3), .con (.bool false), .con (.bool false), .any, .any, .con (.bool false), .con (.bool false), .any, .any, .any, .any, .any, .any, .any, .any, .con (.bool false)] := ⟨_, rfl⟩
   have HV := Lib.hid hV
   clear hV
   refine wp_region_inv 16 (fun d a' w' => ∃ Xq Xr Xs Xt Xu Xv Xw Xx Xy Xz XA XB XC XD XE XF, a' = ⟨#[x, .agg #[.int .u8 u.kind, .int .i64 u.n, .string u.t, .slice an u.names.length cn, .slice ai u.items.length ci, .slice sa l.length sc], .agg #[.int .i64 t, .slice ia ids.length ic], .slice ka keys.length kc, undef, .pointer (some ⟨w.heap.size, 0, none⟩), .pointer (some ⟨w.heap.size + 1, 0, none⟩), undef, .bool false, .string M, .int .i64 3, .tuple #[.string M, .int .i64 3], .agg #[.int .u8 u.kind, .int .i64 u.n, .string u.t, .slice an u.names.length cn, .slice ai u.items.length ci, .slice sa l.length sc], .tuple #[.string M, .int .i64 3], .string M, .int .i64 3, Xq, Xr, Xs, Xt, Xu, Xv, Xw, Xx, Xy, Xz, XA, XB, XC, XD, XE, XF], []⟩ ∧ RegI w1 V d w' [Xq, Xr, Xs, Xt, Xu, Xv, Xw, Xx, Xy, Xz, XA, XB, XC, XD, XE, XF]) (by kernel_rfl) (by kernel_rfl) ?first ?step ?last
   case first => exact ⟨_, _, _, _, _, _, _, _, _, _, _, _, _, _, _, _, rfl, RegI.first _ _ _ (by rw [HV.out]; rfl)⟩
   case step =>
     rintro d a' w' ⟨Xq, Xr, Xs, Xt, Xu, Xv, Xw, Xx, Xy, Xz, XA, XB, XC, XD, XE, XF, rfl, h⟩ q hq hn hw
     rcases q with _ | _ | _ | _ | _ | _ | _ | _ | _ | _ | _ | _ | _ | _ | _ | _ | q
     · refine wpOp_step rfl fun K hK => ?_
       go_simp
       exact hK _ _ ⟨_, Xr, Xs, Xt, Xu, Xv, Xw, Xx, Xy, Xz, XA, XB, XC, XD, XE, XF, rfl, h.same 0 _ (.con (.int .i64 3)) (vq10 HV rfl) rfl⟩
     · obtain rfl : Xq = .int .i64 3 := h.get 0 (hw _ rfl ⟨0, .data⟩ (by simp) rfl) (.con (.int .i64 3)) (vq10 HV rfl) _ rfl
       refine wpOp_step rfl fun K hK => ?_
       go_simp
       exact hK _ _ ⟨_, _, Xs, Xt, Xu, Xv, Xw, Xx, Xy, Xz, XA, XB, XC, XD, XE, XF, rfl, h.same 1 _ (.con (.bool false)) (vq10 HV rfl) rfl⟩
     · obtain rfl : Xr = .bool false := h.get 1 (hw _ rfl ⟨1, .data⟩ (by simp) rfl) (.con (.bool false)) (vq10 HV rfl) _ rfl
       refine wpOp_step rfl fun K hK => ?_
       go_simp
       exact hK _ _ ⟨Xq, _, _, Xt, Xu, Xv, Xw, Xx, Xy, Xz, XA, XB, XC, XD, XE, XF, rfl, h.same 2 _ (.con (.bool false)) (vq10 HV rfl) rfl⟩
     · obtain rfl : Xs = .bool false := h.get 2 (hw _ rfl ⟨2, .guard⟩ (by simp) rfl) (.con (.bool false)) (vq10 HV rfl) _ rfl
       refine wpOp_step rfl fun K hK => ?_
       go_simp
       exact hK _ _ ⟨Xq, Xr, _, _, Xu, Xv, Xw, Xx, Xy, Xz, XA, XB, XC, XD, XE, XF, rfl, h.same 3 _ .any (vq10 HV rfl) trivial⟩
     · obtain rfl : Xs = .bool false := h.get 2 (hw _ rfl ⟨2, .chain⟩ (by simp) rfl) (.con (.bool false)) (vq10 HV rfl) _ rfl
       refine wpOp_step rfl fun K hK => ?_
       go_simp
       exact hK _ _ ⟨Xq, Xr, _, Xt, _, Xv, Xw, Xx, Xy, Xz, XA, XB, XC, XD, XE, XF, rfl, h.same 4 _ .any (vq10 HV rfl) trivial⟩
     · obtain rfl : Xs = .bool false := h.get 2 (hw _ rfl ⟨2, .data⟩ (by simp) rfl) (.con (.bool false)) (vq10 HV rfl) _ rfl
       refine wpOp_step rfl fun K hK => ?_
       go_simp
       exact hK _ _ ⟨Xq, Xr, _, Xt, Xu, _, Xw, Xx, Xy, Xz, XA, XB, XC, XD, XE, XF, rfl, h.same 5 _ (.con (.bool false)) (vq10 HV rfl) rfl⟩
     · obtain rfl : Xv = .bool false := h.get 5 (hw _ rfl ⟨5, .data⟩ (by simp) rfl) (.con (.bool false)) (vq10 HV rfl) _ rfl
       refine wpOp_step rfl fun K hK => ?_
       go_simp
       exact hK _ _ ⟨Xq, Xr, Xs, Xt, Xu, _, _, Xx, Xy, Xz, XA, XB, XC, XD, XE, XF, rfl, h.same 6 _ (.con (.bool false)) (vq10 HV rfl) rfl⟩
     · obtain rfl : Xw = .bool false := h.get 6 (hw _ rfl ⟨6, .guard⟩ (by simp) rfl) (.con (.bool false)) (vq10 HV rfl) _ rfl
       refine wpOp_step rfl fun K hK => ?_
       go_simp
       exact hK _ _ ⟨Xq, Xr, Xs, Xt, Xu, Xv, _, _, Xy, Xz, XA, XB, XC, XD, XE, XF, rfl, h.same 7 _ .any (vq10 HV rfl) trivial⟩
     · obtain rfl : Xw = .bool false := h.get 6 (hw _ rfl ⟨6, .guard⟩ (by simp) rfl) (.con (.bool false)) (vq10 HV rfl) _ rfl
       refine wpOp_step rfl fun K hK => ?_
       go_simp
       exact hK _ _ ⟨Xq, Xr, Xs, Xt, Xu, Xv, _, Xx, _, Xz, XA, XB, XC, XD, XE, XF, rfl, h.same 8 _ .any (vq10 HV rfl) trivial⟩
     · obtain rfl : Xw = .bool false := h.get 6 (hw _ rfl ⟨6, .guard⟩ (by simp) rfl) (.con (.bool false)) (vq10 HV rfl) _ rfl
       refine wpOp_step rfl fun K hK => ?_
       go_simp
       exact hK _ _ ⟨Xq, Xr, Xs, Xt, Xu, Xv, _, Xx, Xy, _, XA, XB, XC, XD, XE, XF, rfl, h.same 9 _ .any (vq10 HV rfl) trivial⟩
     · obtain rfl : Xw = .bool false := h.get 6 (hw _ rfl ⟨6, .guard⟩ (by simp) rfl) (.con (.bool false)) (vq10 HV rfl) _ rfl
       refine wpOp_step rfl fun K hK => ?_
       go_simp
       exact hK _ _ ⟨Xq, Xr, Xs, Xt, Xu, Xv, _, Xx, Xy, Xz, _, XB, XC, XD, XE, XF, rfl, h.same 10 _ .any (vq10 HV rfl) trivial⟩
     · obtain rfl : Xw = .bool false := h.get 6 (hw _ rfl ⟨6, .chain⟩ (by simp) rfl) (.con (.bool false)) (vq10 HV rfl) _ rfl
       refine wpOp_step rfl fun K hK => ?_
       go_simp
       exact hK _ _ ⟨Xq, Xr, Xs, Xt, Xu, Xv, _, Xx, Xy, Xz, XA, _, XC, XD, XE, XF, rfl, h.same 11 _ .any (vq10 HV rfl) trivial⟩
     · obtain rfl : Xw = .bool false := h.get 6 (hw _ rfl ⟨6, .guard⟩ (by simp) rfl) (.con (.bool false)) (vq10 HV rfl) _ rfl
       refine wpOp_step rfl fun K hK => ?_
       go_simp
       exact hK _ _ ⟨Xq, Xr, Xs, Xt, Xu, Xv, _, Xx, Xy, Xz, XA, XB, _, XD, XE, XF, rfl, h.same 12 _ .any (vq10 HV rfl) trivial⟩
     · obtain rfl : Xw = .bool false := h.get 6 (hw _ rfl ⟨6, .guard⟩ (by simp) rfl) (.con (.bool false)) (vq10 HV rfl) _ rfl
       refine wpOp_step rfl fun K hK => ?_
       go_simp
       exact hK _ _ ⟨Xq, Xr, Xs, Xt, Xu, Xv, _, Xx, Xy, Xz, XA, XB, XC, _, XE, XF, rfl, h.same 13 _ .any (vq10 HV rfl) trivial⟩
     · obtain rfl : Xw = .bool false := h.get 6 (hw _ rfl ⟨6, .guard⟩ (by simp) rfl) (.con (.bool false)) (vq10 HV rfl) _ rfl
       refine wpOp_step rfl fun K hK => ?_
       go_simp
       exact hK _ _ ⟨Xq, Xr, Xs, Xt, Xu, Xv, _, Xx, Xy, Xz, XA, XB, XC, XD, _, XF, rfl, h.same 14 _ .any (vq10 HV rfl) trivial⟩
     · obtain rfl : Xw = .bool false := h.get 6 (hw _ rfl ⟨6, .data⟩ (by simp) rfl) (.con (.bool false)) (vq10 HV rfl) _ rfl
       refine wpOp_step rfl fun K hK => ?_
       go_simp
       exact hK _ _ ⟨Xq, Xr, Xs, Xt, Xu, Xv, _, Xx, Xy, Xz, XA, XB, XC, XD, XE, _, rfl, h.same 15 _ (.con (.bool false)) (vq10 HV rfl) rfl⟩
     · omega
   case last =>
     rintro d a' w' hall ⟨Xq, Xr, Xs, Xt, Xu, Xv, Xw, Xx, Xy, Xz, XA, XB, XC, XD, XE, XF, rfl, h⟩
     have hle := h.1
     obtain rfl : XF = .bool false := h.get 15 (hall _ (by omega)) (.con (.bool false)) (vq10 HV rfl) _ rfl
     have HLE := Lib.hid hle
     clear h hall hle HV
     go_wp2
     go_ret
     exact ⟨ret_bool HF.out.symm, HWT.out _ (HB1.out.trans (HLE.out.mono HB1.out.size))⟩
 case true =>
   rw [if_pos rfl]
   clear HE0
   cases ok
   case false =>
     go_upto_region 2 with fail
     obtain ⟨V, hV⟩ : ∃ V : List MP, V = [.con (.int .i64 0), .con (.bool true), .con (.bool true), .con (.agg #[.int .i64 t, .slice ia ids.length ic]), .con (.bool false), .con (.bool false), .con (.bool false), .any, .any, .any, .any, .any, .any, .any, .any, .con (.bool false)] := ⟨_, rfl⟩
     have HV := Lib.hid hV
     clear hV
     refine wp_region_inv 16 (fun d a' w' => ∃ Xq Xr Xs Xt Xu Xv Xw Xx Xy Xz XA XB XC XD XE XF, a' = ⟨#[x, .agg #[.int .u8 u.kind, .int .i64 u.n, .string u.t, .slice an u.names.length cn, .slice ai u.items.length ci, .slice sa l.length sc], .agg #[.int .i64 t, .slice ia ids.length ic], .slice ka keys.length kc, undef, .pointer (some ⟨w.heap.size, 0, none⟩), .pointer (some ⟨w.heap.size + 1, 0, none⟩), undef, .bool false, .string M, .int .i64 0, .tuple #[.string M, .int .i64 0], .agg #[.int .u8 u.kind, .int .i64 u.n, .string u.t, .slice an u.names.length cn, .slice ai u.items.length ci, .slice sa l.length sc], .tuple #[.string M, .int .i64 0], .string M, .int .i64 0, Xq, Xr, Xs, Xt, Xu, Xv, Xw, Xx, Xy, Xz, XA, XB, XC, XD, XE, XF], []⟩ ∧ RegI w1 V d w' [Xq, Xr, Xs, Xt, Xu, Xv, Xw, Xx, Xy, Xz, XA, XB, XC, XD, XE, XF]) (by kernel_rfl) (by kernel_rfl) ?first ?step ?last
     case first => exact ⟨_, _, _, _, _, _, _, _, _, _, _, _, _, _, _, _, rfl, RegI.first _ _ _ (by rw [HV.out]; rfl)⟩
     case step =>
       rintro d a' w' ⟨Xq, Xr, Xs, Xt, Xu, Xv, Xw, Xx, Xy, Xz, XA, XB, XC, XD, XE, XF, rfl, h⟩ q hq hn hw
       rcases q with _ | _ | _ | _ | _ | _ | _ | _ | _ | _ | _ | _ | _ | _ | _ | _ | q
       · refine wpOp_step rfl fun K hK => ?_
         go_simp
         exact hK _ _ ⟨_, Xr, Xs, Xt, Xu, Xv, Xw, Xx, Xy, Xz, XA, XB, XC, XD, XE, XF, rfl, h.same 0 _ (.con (.int .i64 0)) (vq10 HV rfl) rfl⟩
       · obtain rfl : Xq = .int .i64 0 := h.get 0 (hw _ rfl ⟨0, .data⟩ (by simp) rfl) (.con (.int .i64 0)) (vq10 HV rfl) _ rfl
         refine wpOp_step rfl fun K hK => ?_
         go_simp
         exact hK _ _ ⟨_, _, Xs, Xt, Xu, Xv, Xw, Xx, Xy, Xz, XA, XB, XC, XD, XE, XF, rfl, h.same 1 _ (.con (.bool true)) (vq10 HV rfl) rfl⟩
       · obtain rfl : Xr = .bool true := h.get 1 (hw _ rfl ⟨1, .data⟩ (by simp) rfl) (.con (.bool true)) (vq10 HV rfl) _ rfl
         refine wpOp_step rfl fun K hK => ?_
         go_simp
         exact hK _ _ ⟨Xq, _, _, Xt, Xu, Xv, Xw, Xx, Xy, Xz, XA, XB, XC, XD, XE, XF, rfl, h.same 2 _ (.con (.bool true)) (vq10 HV rfl) rfl⟩
       · obtain rfl : Xs = .bool true := h.get 2 (hw _ rfl ⟨2, .guard⟩ (by simp) rfl) (.con (.bool true)) (vq10 HV rfl) _ rfl
         obtain ⟨q0, q1, q2, q3, q4, q5, q6, q7⟩ := HC.out w' h.1
         refine wpOp_step rfl fun K hK => ?_
         go_simp
         exact hK _ _ ⟨Xq, Xr, _, _, Xu, Xv, Xw, Xx, Xy, Xz, XA, XB, XC, XD, XE, XF, rfl, h.same 3 _ (.con (.agg #[.int .i64 t, .slice ia ids.length ic])) (vq10 HV rfl) rfl⟩
       · obtain rfl : Xs = .bool true := h.get 2 (hw _ rfl ⟨2, .chain⟩ (by simp) rfl) (.con (.bool true)) (vq10 HV rfl) _ rfl
         obtain rfl : Xt = .agg #[.int .i64 t, .slice ia ids.length ic] := h.get 3 (hw _ rfl ⟨3, .data⟩ (by simp) rfl) (.con (.agg #[.int .i64 t, .slice ia ids.length ic])) (vq10 HV rfl) _ rfl
         obtain ⟨q0, q1, q2, q3, q4, q5, q6, q7⟩ := HC.out w' h.1
         refine wpOp_step rfl fun K hK => ?_
         go_simp
         refine (HAM1.out w' h.1).mono ?_
         rintro e w2 ⟨rfl, hb2⟩
         exact hK _ _ ⟨Xq, Xr, _, _, _, Xv, Xw, Xx, Xy, Xz, XA, XB, XC, XD, XE, XF, rfl, h.did hb2 4 _ (.con (.bool false)) (vq10 HV rfl) rfl⟩
       · obtain rfl : Xs = .bool true := h.get 2 (hw _ rfl ⟨2, .data⟩ (by simp) rfl) (.con (.bool true)) (vq10 HV rfl) _ rfl
         obtain rfl : Xu = .bool false := h.get 4 (hw _ rfl ⟨4, .data⟩ (by simp) rfl) (.con (.bool false)) (vq10 HV rfl) _ rfl
         refine wpOp_step rfl fun K hK => ?_
         go_simp
         exact hK _ _ ⟨Xq, Xr, _, Xt, _, _, Xw, Xx, Xy, Xz, XA, XB, XC, XD, XE, XF, rfl, h.same 5 _ (.con (.bool false)) (vq10 HV rfl) rfl⟩
       · obtain rfl : Xv = .bool false := h.get 5 (hw _ rfl ⟨5, .data⟩ (by simp) rfl) (.con (.bool false)) (vq10 HV rfl) _ rfl
         refine wpOp_step rfl fun K hK => ?_
         go_simp
         exact hK _ _ ⟨Xq, Xr, Xs, Xt, Xu, _, _, Xx, Xy, Xz, XA, XB, XC, XD, XE, XF, rfl, h.same 6 _ (.con (.bool false)) (vq10 HV rfl) rfl⟩
       · obtain rfl : Xw = .bool false := h.get 6 (hw _ rfl ⟨6, .guard⟩ (by simp) rfl) (.con (.bool false)) (vq10 HV rfl) _ rfl
         refine wpOp_step rfl fun K hK => ?_
         go_simp
         exact hK _ _ ⟨Xq, Xr, Xs, Xt, Xu, Xv, _, _, Xy, Xz, XA, XB, XC, XD, XE, XF, rfl, h.same 7 _ .any (vq10 HV rfl) trivial⟩
       · obtain rfl : Xw = .bool false := h.get 6 (hw _ rfl ⟨6, .guard⟩ (by simp) rfl) (.con (.bool false)) (vq10 HV rfl) _ rfl
         refine wpOp_step rfl fun K hK => ?_
         go_simp
         exact hK _ _ ⟨Xq, Xr, Xs, Xt, Xu, Xv, _, Xx, _, Xz, XA, XB, XC, XD, XE, XF, rfl, h.same 8 _ .any (vq10 HV rfl) trivial⟩
       · obtain rfl : Xw = .bool false := h.get 6 (hw _ rfl ⟨6, .guard⟩ (by simp) rfl) (.con (.bool false)) (vq10 HV rfl) _ rfl
         refine wpOp_step rfl fun K hK => ?_
         go_simp
         exact hK _ _ ⟨Xq, Xr, Xs, Xt, Xu, Xv, _, Xx, Xy, _, XA, XB, XC, XD, XE, XF, rfl, h.same 9 _ .any (vq10 HV rfl) trivial⟩
       · obtain rfl : Xw = .bool false := h.get 6 (hw _ rfl ⟨6, .guard⟩ (by simp) rfl) (.con (.bool false)) (vq10 HV rfl) _ rfl
         refine wpOp_step rfl fun K hK => ?_
         go_simp
         exact hK _ _ ⟨Xq, Xr, Xs, Xt, Xu, Xv, _, Xx, Xy, Xz, _, XB, XC, XD, XE, XF, rfl, h.same 10 _ .any (vq10 HV rfl) trivial⟩
       · obtain rfl : Xw = .bool false := h.get 6 (hw _ rfl ⟨6, .chain⟩ (by simp) rfl) (.con (.bool false)) (vq10 HV rfl) _ rfl
         refine wpOp_step rfl fun K hK => ?_
         go_simp
         exact hK _ _ ⟨Xq, Xr, Xs, Xt, Xu, Xv, _, Xx, Xy, Xz, XA, _, XC, XD, XE, XF, rfl, h.same 11 _ .any (vq10 HV rfl) trivial⟩
       · obtain rfl : Xw = .bool false := h.get 6 (hw _ rfl ⟨6, .guard⟩ (by simp) rfl) (.con (.bool false)) (vq10 HV rfl) _ rfl
         refine wpOp_step rfl fun K hK => ?_
         go_simp
         exact hK _ _ ⟨Xq, Xr, Xs, Xt, Xu, Xv, _, Xx, Xy, Xz, XA, XB, _, XD, XE, XF, rfl, h.same 12 _ .any (vq10 HV rfl) trivial⟩
       · obtain rfl : Xw = .bool false := h.get 6 (hw _ rfl ⟨6, .guard⟩ (by simp) rfl) (.con (.bool false)) (vq10 HV rfl) _ rfl
         refine wpOp_step rfl fun K hK => ?_
         go_simp
         exact hK _ _ ⟨Xq, Xr, Xs, Xt, Xu, Xv, _, Xx, Xy, Xz, XA, XB, XC, _, XE, XF, rfl, h.same 13 _ .any (vq10 HV rfl) trivial⟩
       · obtain rfl : Xw = .bool false := h.get 6 (hw _ rfl ⟨6, .guard⟩ (by simp) rfl) (.con (.bool false)) (vq10 HV rfl) _ rfl
         refine wpOp_step rfl fun K hK => ?_
         go_simp
         exact hK _ _ ⟨Xq, Xr, Xs, Xt, Xu, Xv, _, Xx, Xy, Xz, XA, XB, XC, XD, _, XF, rfl, h.same 14 _ .any (vq10 HV rfl) trivial⟩
       · obtain rfl : Xw = .bool false := h.get 6 (hw _ rfl ⟨6, .data⟩ (by simp) rfl) (.con (.bool false)) (vq10 HV rfl) _ rfl
         refine wpOp_step rfl fun K hK => ?_
         go_simp
         exact hK _ _ ⟨Xq, Xr, Xs, Xt, Xu, Xv, _, Xx, Xy, Xz, XA, XB, XC, XD, XE, _, rfl, h.same 15 _ (.con (.bool false)) (vq10 HV rfl) rfl⟩
       · omega
     case last =>
       rintro d a' w' hall ⟨Xq, Xr, Xs, Xt, Xu, Xv, Xw, Xx, Xy, Xz, XA, XB, XC, XD, XE, XF, rfl, h⟩
       have hle := h.1
       obtain rfl : XF = .bool false := h.get 15 (hall _ (by omega)) (.con (.bool false)) (vq10 HV rfl) _ rfl
       have HLE := Lib.hid hle
       clear h hall hle HV
       go_wp2
       go_ret
       exact ⟨ret_bool (by rw [HEV.out]; rfl), HWT.out _ (HB1.out.trans (HLE.out.mono HB1.out.size))⟩
   case true =>
     obtain ⟨tb, ht2⟩ : ∃ tb : Bool, decide (t ≤ (CV : Int)) = tb := ⟨_, rfl⟩
     have HF := Lib.hid (show EV = tb by rw [HEV.out, ht2]; rfl)
     go_upto_region 2 with fail
     obtain ⟨V, hV⟩ : ∃ V : List MP, V = [.con (.int .i64 0), .con (.bool true), .con (.bool true), .con (.agg #[.int .i64 t, .slice ia ids.length ic]), .con (.bool true), .con (.bool true), .con (.bool true), .con (x), .con (.agg #[.int .u8 u.kind, .int .i64 u.n, .string u.t, .slice an u.names.length cn, .slice ai u.items.length ci, .slice sa l.length sc]), .con (.agg #[.int .i64 t, .slice ia ids.length ic]), .con (.slice ka keys.length kc), .con (.int .i64 (CV : Int)), .con (.pointer (some ⟨w.heap.size + 1, 0, none⟩)), .con (.int .i64 t), .con (.bool tb), .con (.bool tb)] := ⟨_, rfl⟩
     have HV := Lib.hid hV
     clear hV
     refine wp_region_inv 16 (fun d a' w' => ∃ Xq Xr Xs Xt Xu Xv Xw Xx Xy Xz XA XB XC XD XE XF, a' = ⟨#[x, .agg #[.int .u8 u.kind, .int .i64 u.n, .string u.t, .slice an u.names.length cn, .slice ai u.items.length ci, .slice sa l.length sc], .agg #[.int .i64 t, .slice ia ids.length ic], .slice ka keys.length kc, undef, .pointer (some ⟨w.heap.size, 0, none⟩), .pointer (some ⟨w.heap.size + 1, 0, none⟩), undef, .bool false, .string M, .int .i64 0, .tuple #[.string M, .int .i64 0], .agg #[.int .u8 u.kind, .int .i64 u.n, .string u.t, .slice an u.names.length cn, .slice ai u.items.length ci, .slice sa l.length sc], .tuple #[.string M, .int .i64 0], .string M, .int .i64 0, Xq, Xr, Xs, Xt, Xu, Xv, Xw, Xx, Xy, Xz, XA, XB, XC, XD, XE, XF], []⟩ ∧ RegI w1 V d w' [Xq, Xr, Xs, Xt, Xu, Xv, Xw, Xx, Xy, Xz, XA, XB, XC, XD, XE, XF]) (by kernel_rfl) (by kernel_rfl) ?first ?step ?last
     case first => exact ⟨_, _, _, _, _, _, _, _, _, _, _, _, _, _, _, _, rfl, RegI.first _ _ _ (by rw [HV.out]; rfl)⟩
     case step =>
       rintro d a' w' ⟨Xq, Xr, Xs, Xt, Xu, Xv, Xw, Xx, Xy, Xz, XA, XB, XC, XD, XE, XF, rfl, h⟩ q hq hn hw
       rcases q with _ | _ | _ | _ | _ | _ | _ | _ | _ | _ | _ | _ | _ | _ | _ | _ | q
       · refine wpOp_step rfl fun K hK => ?_
         go_simp
         exact hK _ _ ⟨_, Xr, Xs, Xt, Xu, Xv, Xw, Xx, Xy, Xz, XA, XB, XC, XD, XE, XF, rfl, h.same 0 _ (.con (.int .i64 0)) (vq10 HV rfl) rfl⟩
       · obtain rfl : Xq = .int .i64 0 := h.get 0 (hw _ rfl ⟨0, .data⟩ (by simp) rfl) (.con (.int .i64 0)) (vq10 HV rfl) _ rfl
         refine wpOp_step rfl fun K hK => ?_
         go_simp
         exact hK _ _ ⟨_, _, Xs, Xt, Xu, Xv, Xw, Xx, Xy, Xz, XA, XB, XC, XD, XE, XF, rfl, h.same 1 _ (.con (.bool true)) (vq10 HV rfl) rfl⟩
       · obtain rfl : Xr = .bool true := h.get 1 (hw _ rfl ⟨1, .data⟩ (by simp) rfl) (.con (.bool true)) (vq10 HV rfl) _ rfl
         refine wpOp_step rfl fun K hK => ?_
         go_simp
         exact hK _ _ ⟨Xq, _, _, Xt, Xu, Xv, Xw, Xx, Xy, Xz, XA, XB, XC, XD, XE, XF, rfl, h.same 2 _ (.con (.bool true)) (vq10 HV rfl) rfl⟩
       · obtain rfl : Xs = .bool true := h.get 2 (hw _ rfl ⟨2, .guard⟩ (by simp) rfl) (.con (.bool true)) (vq10 HV rfl) _ rfl
         obtain ⟨q0, q1, q2, q3, q4, q5, q6, q7⟩ := HC.out w' h.1
         refine wpOp_step rfl fun K hK => ?_
         go_simp
         exact hK _ _ ⟨Xq, Xr, _, _, Xu, Xv, Xw, Xx, Xy, Xz, XA, XB, XC, XD, XE, XF, rfl, h.same 3 _ (.con (.agg #[.int .i64 t, .slice ia ids.length ic])) (vq10 HV rfl) rfl⟩
       · obtain rfl : Xs = .bool true := h.get 2 (hw _ rfl ⟨2, .chain⟩ (by simp) rfl) (.con (.bool true)) (vq10 HV rfl) _ rfl
         obtain rfl : Xt = .agg #[.int .i64 t, .slice ia ids.length ic] := h.get 3 (hw _ rfl ⟨3, .data⟩ (by simp) rfl) (.con (.agg #[.int .i64 t, .slice ia ids.length ic])) (vq10 HV rfl) _ rfl
         obtain ⟨q0, q1, q2, q3, q4, q5, q6, q7⟩ := HC.out w' h.1
         refine wpOp_step rfl fun K hK => ?_
         go_simp
         refine (HAM1.out w' h.1).mono ?_
         rintro e w2 ⟨rfl, hb2⟩
         exact hK _ _ ⟨Xq, Xr, _, _, _, Xv, Xw, Xx, Xy, Xz, XA, XB, XC, XD, XE, XF, rfl, h.did hb2 4 _ (.con (.bool true)) (vq10 HV rfl) rfl⟩
       · obtain rfl : Xs = .bool true := h.get 2 (hw _ rfl ⟨2, .data⟩ (by simp) rfl) (.con (.bool true)) (vq10 HV rfl) _ rfl
         obtain rfl : Xu = .bool true := h.get 4 (hw _ rfl ⟨4, .data⟩ (by simp) rfl) (.con (.bool true)) (vq10 HV rfl) _ rfl
         refine wpOp_step rfl fun K hK => ?_
         go_simp
         exact hK _ _ ⟨Xq, Xr, _, Xt, _, _, Xw, Xx, Xy, Xz, XA, XB, XC, XD, XE, XF, rfl, h.same 5 _ (.con (.bool true)) (vq10 HV rfl) rfl⟩
       · obtain rfl : Xv = .bool true := h.get 5 (hw _ rfl ⟨5, .data⟩ (by simp) rfl) (.con (.bool true)) (vq10 HV rfl) _ rfl
         refine wpOp_step rfl fun K hK => ?_
         go_simp
         exact hK _ _ ⟨Xq, Xr, Xs, Xt, Xu, _, _, Xx, Xy, Xz, XA, XB, XC, XD, XE, XF, rfl, h.same 6 _ (.con (.bool true)) (vq10 HV rfl) rfl⟩
       · obtain rfl : Xw = .bool true := h.get 6 (hw _ rfl ⟨6, .guard⟩ (by simp) rfl) (.con (.bool true)) (vq10 HV rfl) _ rfl
         refine wpOp_step rfl fun K hK => ?_
         go_simp
         exact hK _ _ ⟨Xq, Xr, Xs, Xt, Xu, Xv, _, _, Xy, Xz, XA, XB, XC, XD, XE, XF, rfl, h.same 7 _ (.con (x)) (vq10 HV rfl) rfl⟩
       · obtain rfl : Xw = .bool true := h.get 6 (hw _ rfl ⟨6, .guard⟩ (by simp) rfl) (.con (.bool true)) (vq10 HV rfl) _ rfl
         obtain ⟨q0, q1, q2, q3, q4, q5, q6, q7⟩ := HC.out w' h.1
         refine wpOp_step rfl fun K hK => ?_
         go_simp
         exact hK _ _ ⟨Xq, Xr, Xs, Xt, Xu, Xv, _, Xx, _, Xz, XA, XB, XC, XD, XE, XF, rfl, h.same 8 _ (.con (.agg #[.int .u8 u.kind, .int .i64 u.n, .string u.t, .slice an u.names.length cn, .slice ai u.items.length ci, .slice sa l.length sc])) (vq10 HV rfl) rfl⟩
       · obtain rfl : Xw = .bool true := h.get 6 (hw _ rfl ⟨6, .guard⟩ (by simp) rfl) (.con (.bool true)) (vq10 HV rfl) _ rfl
         obtain ⟨q0, q1, q2, q3, q4, q5, q6, q7⟩ := HC.out w' h.1
         refine wpOp_step rfl fun K hK => ?_
         go_simp
         exact hK _ _ ⟨Xq, Xr, Xs, Xt, Xu, Xv, _, Xx, Xy, _, XA, XB, XC, XD, XE, XF, rfl, h.same 9 _ (.con (.agg #[.int .i64 t, .slice ia ids.length ic])) (vq10 HV rfl) rfl⟩
       · obtain rfl : Xw = .bool true := h.get 6 (hw _ rfl ⟨6, .guard⟩ (by simp) rfl) (.con (.bool true)) (vq10 HV rfl) _ rfl
         refine wpOp_step rfl fun K hK => ?_
         go_simp
         exact hK _ _ ⟨Xq, Xr, Xs, Xt, Xu, Xv, _, Xx, Xy, Xz, _, XB, XC, XD, XE, XF, rfl, h.same 10 _ (.con (.slice ka keys.length kc)) (vq10 HV rfl) rfl⟩
       · obtain rfl : Xw = .bool true := h.get 6 (hw _ rfl ⟨6, .chain⟩ (by simp) rfl) (.con (.bool true)) (vq10 HV rfl) _ rfl
         obtain rfl : Xx = x := h.get 7 (hw _ rfl ⟨7, .data⟩ (by simp) rfl) (.con (x)) (vq10 HV rfl) _ rfl
         obtain rfl : Xy = .agg #[.int .u8 u.kind, .int .i64 u.n, .string u.t, .slice an u.names.length cn, .slice ai u.items.length ci, .slice sa l.length sc] := h.get 8 (hw _ rfl ⟨8, .data⟩ (by simp) rfl) (.con (.agg #[.int .u8 u.kind, .int .i64 u.n, .string u.t, .slice an u.names.length cn, .slice ai u.items.length ci, .slice sa l.length sc])) (vq10 HV rfl) _ rfl
         obtain rfl : Xz = .agg #[.int .i64 t, .slice ia ids.length ic] := h.get 9 (hw _ rfl ⟨9, .data⟩ (by simp) rfl) (.con (.agg #[.int .i64 t, .slice ia ids.length ic])) (vq10 HV rfl) _ rfl
         obtain rfl : XA = .slice ka keys.length kc := h.get 10 (hw _ rfl ⟨10, .data⟩ (by simp) rfl) (.con (.slice ka keys.length kc)) (vq10 HV rfl) _ rfl
         obtain ⟨q0, q1, q2, q3, q4, q5, q6, q7⟩ := HC.out w' h.1
         refine wpOp_step rfl fun K hK => ?_
         go_simp
         refine (HCO1.out w' h.1).mono ?_
         rintro e w2 ⟨rfl, hb2⟩
         exact hK _ _ ⟨Xq, Xr, Xs, Xt, Xu, Xv, _, _, _, _, _, _, XC, XD, XE, XF, rfl, h.did hb2 11 _ (.con (.int .i64 (CV : Int))) (vq10 HV rfl) rfl⟩
       · obtain rfl : Xw = .bool true := h.get 6 (hw _ rfl ⟨6, .guard⟩ (by simp) rfl) (.con (.bool true)) (vq10 HV rfl) _ rfl
         refine wpOp_step rfl fun K hK => ?_
         go_simp
         exact hK _ _ ⟨Xq, Xr, Xs, Xt, Xu, Xv, _, Xx, Xy, Xz, XA, XB, _, XD, XE, XF, rfl, h.same 12 _ (.con (.pointer (some ⟨w.heap.size + 1, 0, none⟩))) (vq10 HV rfl) rfl⟩
       · obtain rfl : Xw = .bool true := h.get 6 (hw _ rfl ⟨6, .guard⟩ (by simp) rfl) (.con (.bool true)) (vq10 HV rfl) _ rfl
         obtain rfl : XC = .pointer (some ⟨w.heap.size + 1, 0, none⟩) := h.get 12 (hw _ rfl ⟨12, .data⟩ (by simp) rfl) (.con (.pointer (some ⟨w.heap.size + 1, 0, none⟩))) (vq10 HV rfl) _ rfl
         obtain ⟨q0, q1, q2, q3, q4, q5, q6, q7⟩ := HC.out w' h.1
         refine wpOp_step rfl fun K hK => ?_
         go_simp
         exact hK _ _ ⟨Xq, Xr, Xs, Xt, Xu, Xv, _, Xx, Xy, Xz, XA, XB, _, _, XE, XF, rfl, h.same 13 _ (.con (.int .i64 t)) (vq10 HV rfl) rfl⟩
       · obtain rfl : Xw = .bool true := h.get 6 (hw _ rfl ⟨6, .guard⟩ (by simp) rfl) (.con (.bool true)) (vq10 HV rfl) _ rfl
         obtain rfl : XB = .int .i64 (CV : Int) := h.get 11 (hw _ rfl ⟨11, .data⟩ (by simp) rfl) (.con (.int .i64 (CV : Int))) (vq10 HV rfl) _ rfl
         obtain rfl : XD = .int .i64 t := h.get 13 (hw _ rfl ⟨13, .data⟩ (by simp) rfl) (.con (.int .i64 t)) (vq10 HV rfl) _ rfl
         refine wpOp_step rfl fun K hK => ?_
         go_simp
         exact hK _ _ ⟨Xq, Xr, Xs, Xt, Xu, Xv, _, Xx, Xy, Xz, XA, _, XC, _, _, XF, rfl, h.same 14 _ (.con (.bool tb)) (vq10 HV rfl) rfl⟩
       · obtain rfl : Xw = .bool true := h.get 6 (hw _ rfl ⟨6, .data⟩ (by simp) rfl) (.con (.bool true)) (vq10 HV rfl) _ rfl
         obtain rfl : XE = .bool tb := h.get 14 (hw _ rfl ⟨14, .data⟩ (by simp) rfl) (.con (.bool tb)) (vq10 HV rfl) _ rfl
         refine wpOp_step rfl fun K hK => ?_
         go_simp
         exact hK _ _ ⟨Xq, Xr, Xs, Xt, Xu, Xv, _, Xx, Xy, Xz, XA, XB, XC, XD, _, _, rfl, h.same 15 _ (.con (.bool tb)) (vq10 HV rfl) rfl⟩
       · omega
     case last =>
       rintro d a' w' hall ⟨Xq, Xr, Xs, Xt, Xu, Xv, Xw, Xx, Xy, Xz, XA, XB, XC, XD, XE, XF, rfl, h⟩
       have hle := h.1
       obtain rfl : XF = .bool tb := h.get 15 (hall _ (by omega)) (.con (.bool tb)) (vq10 HV rfl) _ rfl
       have HLE := Lib.hid hle
       clear h hall hle HV
       go_wp2
       go_ret
       exact ⟨ret_bool HF.out.symm, HWT.out _ (HB1.out.trans (HLE.out.mono HB1.out.size))⟩

end Go.Proofs.YtaekmmnpdbmoeaaGreatDoor
