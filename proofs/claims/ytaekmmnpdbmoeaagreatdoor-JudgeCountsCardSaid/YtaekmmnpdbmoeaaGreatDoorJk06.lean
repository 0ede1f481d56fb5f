/- The contract of legateref16.whole. Printed by gensobj.py. -/
import Derived.Test.YtaekmmnpdbmoeaaGreatDoorJh27
import Derived.Outline
import Derived.OwnWalk

namespace Go.Proofs.YtaekmmnpdbmoeaaGreatDoor
open Go.RowKit
theorem vq6 {V l : List MP} (h : Hid (V = l)) {j : Nat} {f : MP} (e : l[j]? = some f) : V[j]? = some f := by rw [h.out]; exact e
end Go.Proofs.YtaekmmnpdbmoeaaGreatDoor

namespace Go.Proofs.YtaekmmnpdbmoeaaGreatDoor
open Go.RowKit

theorem ref11TextOf (t : ByteArray) (w : World) : Calls Tryz.prog 123 #[.string t] w fun e w' => e = .returned (.agg #[.int .u8 3, .int .i64 0, .string t, .slice none 0 0, .slice none 0 0]) ∧ w' = w.alloc (.cells #[.int .u8 3, .int .i64 0, .string t, .slice none 0 0, .slice none 0 0] 44) := by
 go_enter Tryz.func123, Tryz.ntmps123
 go_wp2
 exact bodyPost_ret (results_cell_row Tryz.results123 _ _ w.heap.size 44 _ (0, 0) _ rfl (heap_alloc_new w _) Tryz.underlying44 rfl (by kernel_rfl)) rfl ⟨rfl, rfl⟩

set_option maxHeartbeats 4000000 in
set_option maxRecDepth 100000 in
theorem refWhole (v : JV) (l : List Sig2) (an ai sa : Option Addr) (cn ci c : Nat) (w : World) (hR : Rep w 0 w.heap.size v (.agg #[.int .u8 v.kind, .int .i64 v.n, .string v.t, .slice an v.names.length cn, .slice ai v.items.length ci])) (hK : KeysAt w 0 w.heap.size sa l) (hl : l.length ≤ 1000) :
   Calls Tryz.prog 102 #[.agg #[.int .u8 v.kind, .int .i64 v.n, .string v.t, .slice an v.names.length cn, .slice ai v.items.length ci, .slice sa l.length c]] w (fun e w' =>
     ∃ an' ai', e = .returned (.agg #[.int .u8 5, .int .i64 0, .string { data := #[] }, .slice an' 2 2, .slice ai' 2 2]) ∧ Rep w' 0 w'.heap.size (envJ v l) (.agg #[.int .u8 5, .int .i64 0, .string { data := #[] }, .slice an' 2 2, .slice ai' 2 2]) ∧ Below w.heap.size w w') := by
 obtain ⟨i1, hi1, hy0, hy1, hy2⟩ := info_parts infoValue
 have HR := Lib.hid hR
 have HK := Lib.hid hK
 clear hR hK
 obtain ⟨W, hW⟩ : ∃ W, W = ((w.alloc (.cells #[.int .u8 v.kind, .int .i64 v.n, .string v.t, .slice an v.names.length cn, .slice ai v.items.length ci, .slice sa l.length c] 47)).alloc (.cells #[.int .u8 0, .int .i64 0, .string { data := #[] }, .slice none 0 0, .slice none 0 0] 44)).alloc (.cells #[.int .u8 4, .int .i64 0, .string { data := #[] }, .slice none 0 0, .slice none 0 0] 44) := ⟨_, rfl⟩
 have HW := Lib.hid hW
 have hWz : W.heap.size = w.heap.size + 3 := by rw [hW]; simp
 have HWZ := Lib.hid hWz
 have HBW := Lib.hid (show Below w.heap.size w W by rw [hW]; exact below_n3 w _ _ _)
 have HX0 := Lib.hid (show W.heap[w.heap.size]? = some (.cells #[.int .u8 v.kind, .int .i64 v.n, .string v.t, .slice an v.names.length cn, .slice ai v.items.length ci, .slice sa l.length c] 47 (0, 0)) by
   rw [hW, Below.heap_alloc _ _ _ (by simp; omega), Below.heap_alloc _ _ _ (by simp)]; exact heap_alloc_new w _)
 have HX1 := Lib.hid (show W.rowIs (w.heap.size + 1) 44 5 (pick5 (.int .u8 0) (.int .i64 0) (.string { data := #[] }) (.slice none 0 0) (.slice none 0 0)) by
   have := rowIs_box5 (w.alloc (.cells #[.int .u8 v.kind, .int .i64 v.n, .string v.t, .slice an v.names.length cn, .slice ai v.items.length ci, .slice sa l.length c] 47)) (.int .u8 0) (.int .i64 0) (.string { data := #[] }) (.slice none 0 0) (.slice none 0 0) 44
   rw [show (w.alloc (.cells #[.int .u8 v.kind, .int .i64 v.n, .string v.t, .slice an v.names.length cn, .slice ai v.items.length ci, .slice sa l.length c] 47)).heap.size = w.heap.size + 1 by simp] at this
   rw [hW]; exact this.alloc _)
 have HX2 := Lib.hid (show W.rowIs (w.heap.size + 2) 44 5 (pick5 (.int .u8 4) (.int .i64 0) (.string { data := #[] }) (.slice none 0 0) (.slice none 0 0)) by
   have := rowIs_box5 ((w.alloc (.cells #[.int .u8 v.kind, .int .i64 v.n, .string v.t, .slice an v.names.length cn, .slice ai v.items.length ci, .slice sa l.length c] 47)).alloc (.cells #[.int .u8 0, .int .i64 0, .string { data := #[] }, .slice none 0 0, .slice none 0 0] 44)) (.int .u8 4) (.int .i64 0) (.string { data := #[] }) (.slice none 0 0) (.slice none 0 0) 44
   rw [hW]
   simpa using this)
 clear hW hWz
 go_enter Tryz.func102, Tryz.ntmps102
 go_wp2_with fail
 rw [← HW.out]
 go_loopw [4] (fun i wr => ∃ (k : Nat) (vi : Value) (cs : List Value), k ≤ l.length ∧ i = .int .i64 k ∧ SigsAt W wr (w.heap.size + 2) vi k l cs) (fun i _ => l.length - (intOf i).toNat)
 case atStart => exact ⟨0, _, [], by omega, rfl, ⟨Touch.refl _ _, HX2.out, ⟨rfl, .inl ⟨rfl, rfl⟩⟩, RepRow.nil _ _ _⟩⟩
 case round =>
   obtain ⟨k, vi, cs, hk, rfl, hS⟩ := hrel
   obtain ⟨va, vc, rfl⟩ := owns_slice hS.own
   have HS := Lib.hid hS
   have hwz : w.heap.size + 3 ≤ wr.heap.size := by rw [← HWZ.out]; exact hS.touch.size
   have hcz : w.heap.size + 2 < wr.heap.size := by omega
   by_cases hlt : k < l.length
   · have hnb : (Value.slice va k vc).ownBlock ≠ some (w.heap.size + 2) := fun e => by have := (hS.own.lt _ e).1; have := HWZ.out; omega
     have hnb2 : (Value.slice va k vc).ownBlock ≠ some wr.heap.size := fun e => by have := (hS.own.lt _ e).2; omega
     have c4 : wr.cell? ⟨w.heap.size + 2, 4, none⟩ = some (.slice va k vc) := hS.row.cell (i := 4) (by decide)
     have f4 := hS.row.frozen 4
     obtain ⟨b, off, ha, _, hb, e0, e1⟩ := HK.out.at k hlt
     subst ha
     have eb : ∀ o, wr.cell? ⟨b, o, none⟩ = w.cell? ⟨b, o, none⟩ := fun o => World.cell?_of_block (w := w) (by
       rw [hS.touch.block b (by have := HWZ.out; omega) (by omega), HBW.out.block b hb])
     rw [← eb] at e0 e1
     have HSN := Lib.hid (fun (w3 w4 : World) (g cap bn bi B T T' : Nat) (i0 g0 : ByteArray) (h0 : i0 = l[k].1) (h1 : g0 = l[k].2) => hS.snoc (w3 := w3) (w4 := w4) (g := g) (cap := cap) (bn := bn) (bi := bi) (B := B) (T := T) (T' := T') (i0 := i0) (g0 := g0) (by have := HWZ.out; omega) hlt h0 h1)
     have HO := Lib.hid hS.own
     obtain ⟨i, hi⟩ : ∃ i, i = l[k].1 := ⟨_, rfl⟩
     obtain ⟨g, hg⟩ : ∃ g, g = l[k].2 := ⟨_, rfl⟩
     rw [← hi] at e0
     rw [← hg] at e1
     have HSN := Lib.hid (fun (w3 w4 : World) (g2 cap bn bi B T T' : Nat) => HSN.out w3 w4 g2 cap bn bi B T T' i g hi hg)
     clear hi hg eb hS
     have hWz3 : W.heap.size ≤ wr.heap.size := by have := HWZ.out; omega
     have hWW := Lib.hid hWz3
     clear hWz3
     have hx0 : wr.heap[w.heap.size]? = some (.cells #[.int .u8 v.kind, .int .i64 v.n, .string v.t, .slice an v.names.length cn, .slice ai v.items.length ci, .slice (some ⟨b, off, none⟩) l.length c] 47 (0, 0)) := by
       rw [HS.out.touch.block _ (by have := HWZ.out; omega) (by omega)]; exact HX0.out
     have b5 : wr.cell? ⟨w.heap.size, 5, none⟩ = some (.slice (some ⟨b, off, none⟩) l.length c) := box_cell hx0 rfl
     have m0 : (0 : Int) ≤ (k : Int) := by omega
     have m1 : (k : Int) < (l.length : Int) := by omega
     have hlm : l.length ≤ 1000 := hl
     clear hx0
     go_upto_region 5 with fail
     obtain ⟨wb, hwb⟩ : ∃ wb, wb = wr := ⟨_, rfl⟩
     rw [← hwb]
     have hbz : wb.heap.size = wr.heap.size := by rw [hwb]
     have c4 : wb.cell? ⟨w.heap.size + 1 + 1, 4, none⟩ = some (.slice va k vc) := by rw [hwb]; exact c4
     have f4 : wb.frozen? ⟨w.heap.size + 1 + 1, 4, none⟩ = false := by rw [hwb]; exact f4
     have b5 : wb.cell? ⟨w.heap.size, 5, none⟩ = some (.slice (some ⟨b, off, none⟩) l.length c) := by rw [hwb]; exact b5
     have e0 : wb.cell? ⟨b, off + k * 2, none⟩ = some (.string i) := by rw [hwb]; exact e0
     have e1 : wb.cell? ⟨b, off + k * 2 + 1, none⟩ = some (.string g) := by rw [hwb]; exact e1
     have HOB := Lib.hid (show wb.ownsRow W.heap.size 44 5 (.slice va k vc) k cs by rw [hwb]; exact HO.out)
     have p0 : w.heap.size + 1 + 1 < wb.heap.size := by omega
     have p1 : w.heap.size < wb.heap.size := by omega
     have p2 : b < wb.heap.size := by omega
     have HWB := Lib.hid (show Below wr.heap.size wr wb by rw [hwb]; exact Below.refl _ _)
     have hbz2 : wr.heap.size ≤ wb.heap.size := by omega
     have HBZ := Lib.hid hbz
     clear hwb hbz
     obtain ⟨V, hV⟩ : ∃ V : List MP, V = [.con (.pointer (some ⟨w.heap.size + 1 + 1, 4, none⟩)), .con (.slice va k vc), .row wb.heap.size 2 9 #[.string nKeyid, .string nSig], .con (.pointer (some ⟨w.heap.size, 5, none⟩)), .con (.slice (some ⟨b, off, none⟩) l.length c), .con (.int .i64 (k : Int)), .con (.pointer (some ⟨b, off + k * 2, none⟩)), .con (.pointer (some ⟨b, off + k * 2, none⟩)), .con (.string i), .con (.agg #[.int .u8 3, .int .i64 0, .string i, .slice none 0 0, .slice none 0 0]), .con (.pointer (some ⟨w.heap.size, 5, none⟩)), .con (.slice (some ⟨b, off, none⟩) l.length c), .con (.int .i64 (k : Int)), .con (.pointer (some ⟨b, off + k * 2, none⟩)), .con (.pointer (some ⟨b, off + k * 2 + 1, none⟩)), .con (.string g), .con (.agg #[.int .u8 3, .int .i64 0, .string g, .slice none 0 0, .slice none 0 0]), .row wb.heap.size 2 44 #[.int .u8 3, .int .i64 0, .string i, .slice none 0 0, .slice none 0 0, .int .u8 3, .int .i64 0, .string g, .slice none 0 0, .slice none 0 0], .obj wb.heap.size 9 44 #[.string nKeyid, .string nSig] #[.int .u8 3, .int .i64 0, .string i, .slice none 0 0, .slice none 0 0, .int .u8 3, .int .i64 0, .string g, .slice none 0 0, .slice none 0 0], .one wb.heap.size 44 9 44 #[.string nKeyid, .string nSig] #[.int .u8 3, .int .i64 0, .string i, .slice none 0 0, .slice none 0 0, .int .u8 3, .int .i64 0, .string g, .slice none 0 0, .slice none 0 0]] := ⟨_, rfl⟩
     have HV := Lib.hid hV
     clear hV
     refine wp_region_inv 20 (fun d a' w' => ∃ Xn Xo Xp Xq Xr Xs Xt Xu Xv Xw Xx Xy Xz XA XB XC XD XE XF XG, a' = ⟨#[.agg #[.int .u8 v.kind, .int .i64 v.n, .string v.t, .slice an v.names.length cn, .slice ai v.items.length ci, .slice (some ⟨b, off, none⟩) l.length c], .pointer (some ⟨w.heap.size, 0, none⟩), .pointer (some ⟨w.heap.size + 1, 0, none⟩), .pointer (some ⟨w.heap.size + 1 + 1, 0, none⟩), .int .i64 (k : Int), .agg #[.int .u8 4, .int .i64 0, .string { data := #[] }, .slice none 0 0, .slice none 0 0], .int .i64 (k : Int), .pointer (some ⟨w.heap.size, 5, none⟩), .slice (some ⟨b, off, none⟩) l.length c, .int .i64 (l.length : Int), .bool true, u11, u12, Xn, Xo, Xp, Xq, Xr, Xs, Xt, Xu, Xv, Xw, Xx, Xy, Xz, XA, XB, XC, XD, XE, XF, XG, u33, u34, undef, undef, undef, undef, undef, undef], []⟩ ∧ RegI wb V d w' [Xn, Xo, Xp, Xq, Xr, Xs, Xt, Xu, Xv, Xw, Xx, Xy, Xz, XA, XB, XC, XD, XE, XF, XG]) (by kernel_rfl) (by kernel_rfl) ?first ?step ?last
     case first => exact ⟨_, _, _, _, _, _, _, _, _, _, _, _, _, _, _, _, _, _, _, _, rfl, RegI.first _ _ _ (by rw [HV.out]; rfl)⟩
     case step =>
       rintro d a' w' ⟨Xn, Xo, Xp, Xq, Xr, Xs, Xt, Xu, Xv, Xw, Xx, Xy, Xz, XA, XB, XC, XD, XE, XF, XG, rfl, h⟩ q hq hn hw
       have hbw := h.1.size
       rcases q with _ | _ | _ | _ | _ | _ | _ | _ | _ | _ | _ | _ | _ | _ | _ | _ | _ | _ | _ | _ | q
       · refine wpOp_step rfl fun K hK => ?_
         go_simp
         exact hK _ _ ⟨_, Xo, Xp, Xq, Xr, Xs, Xt, Xu, Xv, Xw, Xx, Xy, Xz, XA, XB, XC, XD, XE, XF, XG, rfl, h.same 0 _ (.con (.pointer (some ⟨w.heap.size + 1 + 1, 4, none⟩))) (vq6 HV rfl) rfl⟩
       · obtain rfl : Xn = .pointer (some ⟨w.heap.size + 1 + 1, 4, none⟩) := h.get 0 (hw _ rfl ⟨0, .data⟩ (by simp) rfl) (.con (.pointer (some ⟨w.heap.size + 1 + 1, 4, none⟩))) (vq6 HV rfl) _ rfl
         have cc := (h.1.cell p0).trans c4
         refine wpOp_step rfl fun K hK => ?_
         go_simp
         exact hK _ _ ⟨_, _, Xp, Xq, Xr, Xs, Xt, Xu, Xv, Xw, Xx, Xy, Xz, XA, XB, XC, XD, XE, XF, XG, rfl, h.same 1 _ (.con (.slice va k vc)) (vq6 HV rfl) rfl⟩
       · refine wpOp_step rfl fun K hK => ?_
         go_simp
         exact hK _ _ ⟨Xn, Xo, _, Xq, Xr, Xs, Xt, Xu, Xv, Xw, Xx, Xy, Xz, XA, XB, XC, XD, XE, XF, XG, rfl, h.new _ 2 _ (.row wb.heap.size 2 9 #[.string nKeyid, .string nSig]) (vq6 HV rfl) (IsRow.made _ hbw)⟩
       · refine wpOp_step rfl fun K hK => ?_
         go_simp
         exact hK _ _ ⟨Xn, Xo, Xp, _, Xr, Xs, Xt, Xu, Xv, Xw, Xx, Xy, Xz, XA, XB, XC, XD, XE, XF, XG, rfl, h.same 3 _ (.con (.pointer (some ⟨w.heap.size, 5, none⟩))) (vq6 HV rfl) rfl⟩
       · obtain rfl : Xq = .pointer (some ⟨w.heap.size, 5, none⟩) := h.get 3 (hw _ rfl ⟨3, .data⟩ (by simp) rfl) (.con (.pointer (some ⟨w.heap.size, 5, none⟩))) (vq6 HV rfl) _ rfl
         have cc := (h.1.cell p1).trans b5
         refine wpOp_step rfl fun K hK => ?_
         go_simp
         exact hK _ _ ⟨Xn, Xo, Xp, _, _, Xs, Xt, Xu, Xv, Xw, Xx, Xy, Xz, XA, XB, XC, XD, XE, XF, XG, rfl, h.same 4 _ (.con (.slice (some ⟨b, off, none⟩) l.length c)) (vq6 HV rfl) rfl⟩
       · refine wpOp_step rfl fun K hK => ?_
         go_simp
         exact hK _ _ ⟨Xn, Xo, Xp, Xq, Xr, _, Xt, Xu, Xv, Xw, Xx, Xy, Xz, XA, XB, XC, XD, XE, XF, XG, rfl, h.same 5 _ (.con (.int .i64 (k : Int))) (vq6 HV rfl) rfl⟩
       · obtain rfl : Xr = .slice (some ⟨b, off, none⟩) l.length c := h.get 4 (hw _ rfl ⟨4, .data⟩ (by simp) rfl) (.con (.slice (some ⟨b, off, none⟩) l.length c)) (vq6 HV rfl) _ rfl
         obtain rfl : Xs = .int .i64 (k : Int) := h.get 5 (hw _ rfl ⟨5, .data⟩ (by simp) rfl) (.con (.int .i64 (k : Int))) (vq6 HV rfl) _ rfl
         refine wpOp_step rfl fun K hK => ?_
         go_simp
         exact hK _ _ ⟨Xn, Xo, Xp, Xq, _, _, _, Xu, Xv, Xw, Xx, Xy, Xz, XA, XB, XC, XD, XE, XF, XG, rfl, h.same 6 _ (.con (.pointer (some ⟨b, off + k * 2, none⟩))) (vq6 HV rfl) rfl⟩
       · obtain rfl : Xt = .pointer (some ⟨b, off + k * 2, none⟩) := h.get 6 (hw _ rfl ⟨6, .data⟩ (by simp) rfl) (.con (.pointer (some ⟨b, off + k * 2, none⟩))) (vq6 HV rfl) _ rfl
         refine wpOp_step rfl fun K hK => ?_
         go_simp
         exact hK _ _ ⟨Xn, Xo, Xp, Xq, Xr, Xs, _, _, Xv, Xw, Xx, Xy, Xz, XA, XB, XC, XD, XE, XF, XG, rfl, h.same 7 _ (.con (.pointer (some ⟨b, off + k * 2, none⟩))) (vq6 HV rfl) rfl⟩
       · obtain rfl : Xu = .pointer (some ⟨b, off + k * 2, none⟩) := h.get 7 (hw _ rfl ⟨7, .data⟩ (by simp) rfl) (.con (.pointer (some ⟨b, off + k * 2, none⟩))) (vq6 HV rfl) _ rfl
         have cc := (h.1.cell p2).trans e0
         refine wpOp_step rfl fun K hK => ?_
         go_simp
         exact hK _ _ ⟨Xn, Xo, Xp, Xq, Xr, Xs, Xt, _, _, Xw, Xx, Xy, Xz, XA, XB, XC, XD, XE, XF, XG, rfl, h.same 8 _ (.con (.string i)) (vq6 HV rfl) rfl⟩
       · obtain rfl : Xv = .string i := h.get 8 (hw _ rfl ⟨8, .data⟩ (by simp) rfl) (.con (.string i)) (vq6 HV rfl) _ rfl
         refine wpOp_step rfl fun K hK => ?_
         go_simp
         refine (ref11TextOf _ w').mono ?_
         rintro e w2 ⟨rfl, rfl⟩
         exact hK _ _ ⟨Xn, Xo, Xp, Xq, Xr, Xs, Xt, Xu, _, _, Xx, Xy, Xz, XA, XB, XC, XD, XE, XF, XG, rfl, h.new _ 9 _ (.con (.agg #[.int .u8 3, .int .i64 0, .string i, .slice none 0 0, .slice none 0 0])) (vq6 HV rfl) rfl⟩
       · refine wpOp_step rfl fun K hK => ?_
         go_simp
         exact hK _ _ ⟨Xn, Xo, Xp, Xq, Xr, Xs, Xt, Xu, Xv, Xw, _, Xy, Xz, XA, XB, XC, XD, XE, XF, XG, rfl, h.same 10 _ (.con (.pointer (some ⟨w.heap.size, 5, none⟩))) (vq6 HV rfl) rfl⟩
       · obtain rfl : Xx = .pointer (some ⟨w.heap.size, 5, none⟩) := h.get 10 (hw _ rfl ⟨10, .data⟩ (by simp) rfl) (.con (.pointer (some ⟨w.heap.size, 5, none⟩))) (vq6 HV rfl) _ rfl
         have cc := (h.1.cell p1).trans b5
         refine wpOp_step rfl fun K hK => ?_
         go_simp
         exact hK _ _ ⟨Xn, Xo, Xp, Xq, Xr, Xs, Xt, Xu, Xv, Xw, _, _, Xz, XA, XB, XC, XD, XE, XF, XG, rfl, h.same 11 _ (.con (.slice (some ⟨b, off, none⟩) l.length c)) (vq6 HV rfl) rfl⟩
       · refine wpOp_step rfl fun K hK => ?_
         go_simp
         exact hK _ _ ⟨Xn, Xo, Xp, Xq, Xr, Xs, Xt, Xu, Xv, Xw, Xx, Xy, _, XA, XB, XC, XD, XE, XF, XG, rfl, h.same 12 _ (.con (.int .i64 (k : Int))) (vq6 HV rfl) rfl⟩
       · obtain rfl : Xy = .slice (some ⟨b, off, none⟩) l.length c := h.get 11 (hw _ rfl ⟨11, .data⟩ (by simp) rfl) (.con (.slice (some ⟨b, off, none⟩) l.length c)) (vq6 HV rfl) _ rfl
         obtain rfl : Xz = .int .i64 (k : Int) := h.get 12 (hw _ rfl ⟨12, .data⟩ (by simp) rfl) (.con (.int .i64 (k : Int))) (vq6 HV rfl) _ rfl
         refine wpOp_step rfl fun K hK => ?_
         go_simp
         exact hK _ _ ⟨Xn, Xo, Xp, Xq, Xr, Xs, Xt, Xu, Xv, Xw, Xx, _, _, _, XB, XC, XD, XE, XF, XG, rfl, h.same 13 _ (.con (.pointer (some ⟨b, off + k * 2, none⟩))) (vq6 HV rfl) rfl⟩
       · obtain rfl : XA = .pointer (some ⟨b, off + k * 2, none⟩) := h.get 13 (hw _ rfl ⟨13, .data⟩ (by simp) rfl) (.con (.pointer (some ⟨b, off + k * 2, none⟩))) (vq6 HV rfl) _ rfl
         refine wpOp_step rfl fun K hK => ?_
         go_simp
         exact hK _ _ ⟨Xn, Xo, Xp, Xq, Xr, Xs, Xt, Xu, Xv, Xw, Xx, Xy, Xz, _, _, XC, XD, XE, XF, XG, rfl, h.same 14 _ (.con (.pointer (some ⟨b, off + k * 2 + 1, none⟩))) (vq6 HV rfl) rfl⟩
       · obtain rfl : XB = .pointer (some ⟨b, off + k * 2 + 1, none⟩) := h.get 14 (hw _ rfl ⟨14, .data⟩ (by simp) rfl) (.con (.pointer (some ⟨b, off + k * 2 + 1, none⟩))) (vq6 HV rfl) _ rfl
         have cc := (h.1.cell p2).trans e1
         refine wpOp_step rfl fun K hK => ?_
         go_simp
         exact hK _ _ ⟨Xn, Xo, Xp, Xq, Xr, Xs, Xt, Xu, Xv, Xw, Xx, Xy, Xz, XA, _, _, XD, XE, XF, XG, rfl, h.same 15 _ (.con (.string g)) (vq6 HV rfl) rfl⟩
       · obtain rfl : XC = .string g := h.get 15 (hw _ rfl ⟨15, .data⟩ (by simp) rfl) (.con (.string g)) (vq6 HV rfl) _ rfl
         refine wpOp_step rfl fun K hK => ?_
         go_simp
         refine (ref11TextOf _ w').mono ?_
         rintro e w2 ⟨rfl, rfl⟩
         exact hK _ _ ⟨Xn, Xo, Xp, Xq, Xr, Xs, Xt, Xu, Xv, Xw, Xx, Xy, Xz, XA, XB, _, _, XE, XF, XG, rfl, h.new _ 16 _ (.con (.agg #[.int .u8 3, .int .i64 0, .string g, .slice none 0 0, .slice none 0 0])) (vq6 HV rfl) rfl⟩
       · obtain rfl : Xw = .agg #[.int .u8 3, .int .i64 0, .string i, .slice none 0 0, .slice none 0 0] := h.get 9 (hw _ rfl ⟨9, .data⟩ (by simp) rfl) (.con (.agg #[.int .u8 3, .int .i64 0, .string i, .slice none 0 0, .slice none 0 0])) (vq6 HV rfl) _ rfl
         obtain rfl : XD = .agg #[.int .u8 3, .int .i64 0, .string g, .slice none 0 0, .slice none 0 0] := h.get 16 (hw _ rfl ⟨16, .data⟩ (by simp) rfl) (.con (.agg #[.int .u8 3, .int .i64 0, .string g, .slice none 0 0, .slice none 0 0])) (vq6 HV rfl) _ rfl
         refine wpOp_step rfl fun K hK => ?_
         go_simp
         exact hK _ _ ⟨Xn, Xo, Xp, Xq, Xr, Xs, Xt, Xu, Xv, _, Xx, Xy, Xz, XA, XB, XC, _, _, XF, XG, rfl, h.new _ 17 _ (.row wb.heap.size 2 44 #[.int .u8 3, .int .i64 0, .string i, .slice none 0 0, .slice none 0 0, .int .u8 3, .int .i64 0, .string g, .slice none 0 0, .slice none 0 0]) (vq6 HV rfl) (IsRow.made _ hbw)⟩
       · obtain ⟨b15, k15, rfl, m15⟩ := h.get 2 (hw _ rfl ⟨2, .data⟩ (by simp) rfl) (.row wb.heap.size 2 9 #[.string nKeyid, .string nSig]) (vq6 HV rfl) _ rfl
         obtain ⟨b30, k30, rfl, m30⟩ := h.get 17 (hw _ rfl ⟨17, .data⟩ (by simp) rfl) (.row wb.heap.size 2 44 #[.int .u8 3, .int .i64 0, .string i, .slice none 0 0, .slice none 0 0, .int .u8 3, .int .i64 0, .string g, .slice none 0 0, .slice none 0 0]) (vq6 HV rfl) _ rfl
         refine wpOp_step rfl fun K hK => ?_
         go_simp
         exact hK _ _ ⟨Xn, Xo, _, Xq, Xr, Xs, Xt, Xu, Xv, Xw, Xx, Xy, Xz, XA, XB, XC, XD, _, _, XG, rfl, h.same 18 _ (.obj wb.heap.size 9 44 #[.string nKeyid, .string nSig] #[.int .u8 3, .int .i64 0, .string i, .slice none 0 0, .slice none 0 0, .int .u8 3, .int .i64 0, .string g, .slice none 0 0, .slice none 0 0]) (vq6 HV rfl) ⟨_, _, rfl, ⟨_, k15, rfl, m15⟩, ⟨_, k30, rfl, m30⟩⟩⟩
       · obtain ⟨y, z, rfl, ⟨b1, k1, rfl, m1⟩, ⟨b2, k2, rfl, m2⟩⟩ := h.get 18 (hw _ rfl ⟨18, .data⟩ (by simp) rfl) (.obj wb.heap.size 9 44 #[.string nKeyid, .string nSig] #[.int .u8 3, .int .i64 0, .string i, .slice none 0 0, .slice none 0 0, .int .u8 3, .int .i64 0, .string g, .slice none 0 0, .slice none 0 0]) (vq6 HV rfl) _ rfl
         refine wpOp_step rfl fun K hK => ?_
         go_simp
         exact hK _ _ ⟨Xn, Xo, Xp, Xq, Xr, Xs, Xt, Xu, Xv, Xw, Xx, Xy, Xz, XA, XB, XC, XD, XE, _, _, rfl, h.new _ 19 _ (.one wb.heap.size 44 9 44 #[.string nKeyid, .string nSig] #[.int .u8 3, .int .i64 0, .string i, .slice none 0 0, .slice none 0 0, .int .u8 3, .int .i64 0, .string g, .slice none 0 0, .slice none 0 0]) (vq6 HV rfl) ⟨_, _, IsRow.made _ hbw, IsRow.mono ((Below.refl _ _).alloc (Nat.le_refl _) _) ⟨_, k1, rfl, m1⟩, IsRow.mono ((Below.refl _ _).alloc (Nat.le_refl _) _) ⟨_, k2, rfl, m2⟩⟩⟩
       · omega
     case last =>
       rintro d a' w' hall ⟨Xn, Xo, Xp, Xq, Xr, Xs, Xt, Xu, Xv, Xw, Xx, Xy, Xz, XA, XB, XC, XD, XE, XF, XG, rfl, h⟩
       have hle := h.1
       obtain rfl : Xo = .slice va k vc := h.get 1 (hall _ (by omega)) (.con (.slice va k vc)) (vq6 HV rfl) _ rfl
       obtain ⟨y, z, ⟨be, hbe, rfl, hxe⟩, ⟨bn, hbn, rfl, hxn⟩, ⟨bi, hbi, rfl, hxi⟩⟩ := h.get 19 (hall _ (by omega)) (.one wb.heap.size 44 9 44 #[.string nKeyid, .string nSig] #[.int .u8 3, .int .i64 0, .string i, .slice none 0 0, .slice none 0 0, .int .u8 3, .int .i64 0, .string g, .slice none 0 0, .slice none 0 0]) (vq6 HV rfl) _ rfl
       have HLE := Lib.hid hle
       have HXN := Lib.hid hxn
       have HXI := Lib.hid hxi
       have HBN := Lib.hid hbn
       have HBI := Lib.hid hbi
       have hz2 := hle.size
       have HOW := Lib.hid (owns_below HOB.out hle)
       have hwk : k + 1 ≤ maxLen := by unfold maxLen; omega
       have HNE := Lib.hid (World.news_of_block (cs := #[.int .u8 5, .int .i64 0, .string { data := #[] }, .slice (some ⟨bn, 0, none⟩) 2 2, .slice (some ⟨bi, 0, none⟩) 2 2]) hxe)
       clear h hall hle hxn hxi hbn hbi hxe
       simp only [List.drop_succ_cons, List.drop_zero]
       refine (wpList_append_lies _ rfl (.tmp 14) (.tmp 32) 42 rfl W.heap.size 44 i1 _ 5 80 Tryz.underlying42 hi1 hy0 hy1 hy2 rfl (by decide) (.slice va k vc) k cs rfl HOW.out ⟨be, 0, none⟩ 1 1 (Array.toList #[.int .u8 5, .int .i64 0, .string { data := #[] }, .slice (some ⟨bn, 0, none⟩) 2 2, .slice (some ⟨bi, 0, none⟩) 2 2]) rfl rfl HNE.out ?q1 ?q2 ?q3 ?q4 ?q5 _ rfl ?_)
       case q1 => simp [Value.oneCell']
       case q2 => decide
       case q3 => exact hwk
       case q4 => omega
       case q5 => have := hWW.out; omega
       intro g2 cap4 w4 hown4 hgrow4 hat4 hlt4
       have c44 := grow_cellB hgrow4 HLE.out p0 (Ne.symm hnb) c4
       have f44 := grow_frozenB hgrow4 HLE.out p0 (Ne.symm hnb) f4
       have HSS := Lib.hid (HSN.out w' w4 g2 cap4 bn bi wb.heap.size _ _ (HWB.out.trans (HLE.out.mono HWB.out.size)) HWB.out.size HXN.out HXI.out HBN.out HBI.out hgrow4 hat4 hown4)
       clear hown4 hgrow4 hat4
       go_wp2
       go_roundw
       case rel => exact ⟨k + 1, _, _, by omega, by go_num, HSS.out⟩
       case measure => simp [intOf]; omega
   · have hke : k = l.length := by omega
     have htk : (l.take k).map sigJ = l.map sigJ := by rw [hke, List.take_length]
     have hreps := hS.reps
     rw [htk] at hreps
     obtain ⟨a', c', hvi, hci, hval⟩ := owns_vals hS.own hreps (by simp [hke])
     have HL := Lib.hid (show Rep wr W.heap.size wr.heap.size (sigsJ l) (.agg #[.int .u8 4, .int .i64 0, .string { data := #[] }, .slice none 0 0, .slice va k vc]) by
       rw [hvi]; exact Rep.mk (v := sigsJ l) (an := none) (cn := 0) (Nat.le_refl _) hci (.inl rfl) hval)
     have hxw : wr.heap[w.heap.size]? = some (.cells #[.int .u8 v.kind, .int .i64 v.n, .string v.t, .slice an v.names.length cn, .slice ai v.items.length ci, .slice sa l.length c] 47 (0, 0)) := by
       rw [hS.touch.block _ (by have := HWZ.out; omega) (by omega)]; exact HX0.out
     have hrr : wr.rowIs (w.heap.size + 1) 44 5 (pick5 (.int .u8 0) (.int .i64 0) (.string { data := #[] }) (.slice none 0 0) (.slice none 0 0)) := hS.touch.row HX1.out (by omega)
     have b0 : wr.cell? ⟨w.heap.size, 0, none⟩ = some (.int .u8 v.kind) := box_cell hxw rfl
     have b1 : wr.cell? ⟨w.heap.size, 1, none⟩ = some (.int .i64 v.n) := box_cell hxw rfl
     have b2 : wr.cell? ⟨w.heap.size, 2, none⟩ = some (.string v.t) := box_cell hxw rfl
     have b3 : wr.cell? ⟨w.heap.size, 3, none⟩ = some (.slice an v.names.length cn) := box_cell hxw rfl
     have b4 : wr.cell? ⟨w.heap.size, 4, none⟩ = some (.slice ai v.items.length ci) := box_cell hxw rfl
     have b5 : wr.cell? ⟨w.heap.size, 5, none⟩ = some (.slice sa l.length c) := box_cell hxw rfl
     have m1 : ¬ ((k : Int) < (l.length : Int)) := by omega
     have l0 : wr.cell? ⟨w.heap.size + 1 + 1, 0, none⟩ = some (.int .u8 4) := hS.row.cell (i := 0) (by decide)
     have l1 : wr.cell? ⟨w.heap.size + 1 + 1, 1, none⟩ = some (.int .i64 0) := hS.row.cell (i := 1) (by decide)
     have l2 : wr.cell? ⟨w.heap.size + 1 + 1, 2, none⟩ = some (.string { data := #[] }) := hS.row.cell (i := 2) (by decide)
     have l3 : wr.cell? ⟨w.heap.size + 1 + 1, 3, none⟩ = some (.slice none 0 0) := hS.row.cell (i := 3) (by decide)
     have l4 : wr.cell? ⟨w.heap.size + 1 + 1, 4, none⟩ = some (.slice va k vc) := hS.row.cell (i := 4) (by decide)
     have r0 := hrr.cell (i := 0) (by decide); have r1 := hrr.cell (i := 1) (by decide); have r2 := hrr.cell (i := 2) (by decide); have r3 := hrr.cell (i := 3) (by decide); have r4 := hrr.cell (i := 4) (by decide)
     have f0 := hrr.frozen 0; have f1 := hrr.frozen 1; have f2 := hrr.frozen 2; have f3 := hrr.frozen 3; have f4 := hrr.frozen 4
     simp only [pick5] at r0 r1 r2 r3 r4
     have HRR := Lib.hid hrr
     have HT := Lib.hid hS.touch
     have hz0 : w.heap.size < wr.heap.size := by omega
     have hz1 : w.heap.size + 1 < wr.heap.size := by omega
     have hz2 : w.heap.size + 1 + 1 < wr.heap.size := by omega
     have HKE := Lib.hid hke
     clear hS hreps hvi hci hval hxw hrr HS htk hke
     go_wp2
     refine bodyPost_ret (results_cell_row Tryz.results102 _ _ (w.heap.size + 1) 44 #[.int .u8 5, .int .i64 0, .string { data := #[] }, .slice (some ⟨wr.heap.size, 0, none⟩) 2 2, .slice (some ⟨wr.heap.size + 1, 0, none⟩) 2 2] (0, 0) _ rfl (row5_heap (((set5 _ _ _ _ _ HRR.out).alloc _).alloc _)) Tryz.underlying44 rfl (by kernel_rfl)) rfl ⟨_, _, rfl, ?_, ?_⟩
     · exact env_rep HWZ.out HBW.out HT.out HR.out HL.out
     · exact env_below HWZ.out HBW.out HT.out

end Go.Proofs.YtaekmmnpdbmoeaaGreatDoor
