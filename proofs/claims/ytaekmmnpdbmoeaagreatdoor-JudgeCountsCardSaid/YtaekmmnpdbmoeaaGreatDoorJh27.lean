/- The contract of sign.object. -/
import Derived.Test.YtaekmmnpdbmoeaaGreatDoorJh17
import Derived.Outline
import Derived.OwnWalk

namespace Go.Proofs.YtaekmmnpdbmoeaaGreatDoor
open Go.RowKit

set_option maxHeartbeats 4000000 in
set_option maxRecDepth 100000 in
theorem signObject (v : JV) (l : List Sig2) (an ai sa : Option Addr) (cn ci c : Nat) (w : World) (hR : Rep w 0 w.heap.size v (.agg #[.int .u8 v.kind, .int .i64 v.n, .string v.t, .slice an v.names.length cn, .slice ai v.items.length ci])) (hK : KeysAt w 0 w.heap.size sa l) (hl : l.length ≤ 1000) :
    Calls Tryz.prog 62 #[.agg #[.int .u8 v.kind, .int .i64 v.n, .string v.t, .slice an v.names.length cn, .slice ai v.items.length ci, .slice sa l.length c]] w (fun e w' =>
      ∃ an' ai', e = .returned (.agg #[.int .u8 5, .int .i64 0, .string { data := #[] }, .slice an' 2 2, .slice ai' 2 2]) ∧ Rep w' 0 w'.heap.size (envJ v l) (.agg #[.int .u8 5, .int .i64 0, .string { data := #[] }, .slice an' 2 2, .slice ai' 2 2]) ∧ Below w.heap.size w w') := by
  obtain ⟨i1, hi1, hy0, hy1, hy2⟩ := info_parts infoValue
  have HR := Lib.hid hR
  have HK := Lib.hid hK
  clear hR hK
  obtain ⟨W, hW⟩ : ∃ W, W = ((w.alloc (.cells #[.int .u8 v.kind, .int .i64 v.n, .string v.t, .slice an v.names.length cn, .slice ai v.items.length ci, .slice sa l.length c] 47)).alloc (.cells #[.int .u8 0, .int .i64 0, .string { data := #[] }, .slice none 0 0, .slice none 0 0] 44)).alloc (.cells #[.int .u8 4, .int .i64 0, .string { data := #[] }, .slice none 0 0, .slice none 0 0] 44) := ⟨_, rfl⟩
  have HW := Lib.hid hW
  have hWz : W.heap.size = w.heap.size + 3 := by rw [hW]; simp
  have HWZ := Lib.hid hWz
  have HBW := Lib.hid (show Below w.heap.size w W by rw [hW]; exact below_n3 w _ _ _)
  have HX0 := Lib.hid (show W.heap[w.heap.size]? = some (.cells #[.int .u8 v.kind, .int .i64 v.n, .string v.t, .slice an v.names.length cn, .slice ai v.items.length ci, .slice sa l.length c] 47 (0, 0)) by
    rw [hW, Below.heap_alloc _ _ _ (by simp; omega), Below.heap_alloc _ _ _ (by simp)]; exact heap_alloc_new w _)
  have HX1 := Lib.hid (show W.rowIs (w.heap.size + 1) 44 5 (pick5 (.int .u8 0) (.int .i64 0) (.string { data := #[] }) (.slice none 0 0) (.slice none 0 0)) by
    have := rowIs_box5 (w.alloc (.cells #[.int .u8 v.kind, .int .i64 v.n, .string v.t, .slice an v.names.length cn, .slice ai v.items.length ci, .slice sa l.length c] 47)) (.int .u8 0) (.int .i64 0) (.string { data := #[] }) (.slice none 0 0) (.slice none 0 0) 44
    rw [show (w.alloc (.cells #[.int .u8 v.kind, .int .i64 v.n, .string v.t, .slice an v.names.length cn, .slice ai v.items.length ci, .slice sa l.length c] 47)).heap.size = w.heap.size + 1 by simp] at this
    rw [hW]; exact this.alloc _)
  have HX2 := Lib.hid (show W.rowIs (w.heap.size + 2) 44 5 (pick5 (.int .u8 4) (.int .i64 0) (.string { data := #[] }) (.slice none 0 0) (.slice none 0 0)) by
    have := rowIs_box5 ((w.alloc (.cells #[.int .u8 v.kind, .int .i64 v.n, .string v.t, .slice an v.names.length cn, .slice ai v.items.length ci, .slice sa l.length c] 47)).alloc (.cells #[.int .u8 0, .int .i64 0, .string { data := #[] }, .slice none 0 0, .slice none 0 0] 44)) (.int .u8 4) (.int .i64 0) (.string { data := #[] }) (.slice none 0 0) (.slice none 0 0) 44
    rw [hW]
    simpa using this)
  clear hW hWz
  go_enter Tryz.func62, Tryz.ntmps62
  go_wp2_with fail
  rw [← HW.out]
  go_loopw [5, 10] (fun _ i wr => ∃ (k : Nat) (vi : Value) (cs : List Value), k ≤ l.length ∧ i = .int .i64 k ∧ SigsAt W wr (w.heap.size + 2) vi k l cs) (fun _ i _ => l.length - (intOf i).toNat)
  case atStart => exact ⟨0, _, [], by omega, rfl, ⟨Touch.refl _ _, HX2.out, ⟨rfl, .inl ⟨rfl, rfl⟩⟩, RepRow.nil _ _ _⟩⟩
  case round =>
    obtain ⟨k, vi, cs, hk, rfl, hS⟩ := hrel
    obtain ⟨va, vc, rfl⟩ := owns_slice hS.own
    have HS := Lib.hid hS
    have hwz : w.heap.size + 3 ≤ wr.heap.size := by rw [← HWZ.out]; exact hS.touch.size
    have hcz : w.heap.size + 2 < wr.heap.size := by omega
    by_cases hlt : k < l.length
    · have hnb : (Value.slice va k vc).ownBlock ≠ some (w.heap.size + 2) := fun e => by have := (hS.own.lt _ e).1; have := HWZ.out; omega
      have hnb2 : (Value.slice va k vc).ownBlock ≠ some wr.heap.size := fun e => by have := (hS.own.lt _ e).2; omega
      have c4 : wr.cell? ⟨w.heap.size + 2, 4, none⟩ = some (.slice va k vc) := hS.row.cell (i := 4) (by decide)
      have f4 := hS.row.frozen 4
      obtain ⟨b, off, ha, _, hb, e0, e1⟩ := HK.out.at k hlt
      subst ha
      have eb : ∀ o, wr.cell? ⟨b, o, none⟩ = w.cell? ⟨b, o, none⟩ := fun o => World.cell?_of_block (w := w) (by
        rw [hS.touch.block b (by have := HWZ.out; omega) (by omega), HBW.out.block b hb])
      rw [← eb] at e0 e1
      have HSN := Lib.hid (fun (w3 w4 : World) (g cap bn bi B T T' : Nat) (i0 g0 : ByteArray) (h0 : i0 = l[k].1) (h1 : g0 = l[k].2) => hS.snoc (w3 := w3) (w4 := w4) (g := g) (cap := cap) (bn := bn) (bi := bi) (B := B) (T := T) (T' := T') (i0 := i0) (g0 := g0) (by have := HWZ.out; omega) hlt h0 h1)
      have HO := Lib.hid hS.own
      obtain ⟨i, hi⟩ : ∃ i, i = l[k].1 := ⟨_, rfl⟩
      obtain ⟨g, hg⟩ : ∃ g, g = l[k].2 := ⟨_, rfl⟩
      rw [← hi] at e0
      rw [← hg] at e1
      have HSN := Lib.hid (fun (w3 w4 : World) (g2 cap bn bi B T T' : Nat) => HSN.out w3 w4 g2 cap bn bi B T T' i g hi hg)
      clear hi hg eb hS
      have hWz3 : W.heap.size ≤ wr.heap.size := by have := HWZ.out; omega
      have hWW := Lib.hid hWz3
      clear hWz3
      go_wp2_with fail
      have hcb' : w.heap.size + 1 + 1 < wr.heap.size := by omega
      obtain ⟨wb, hwb⟩ : ∃ wb, wb = wr.alloc (.cells #[.string i, .string g] 26) := ⟨_, rfl⟩
      rw [← hwb]
      have hbz : wb.heap.size = wr.heap.size + 1 := by rw [hwb]; simp
      have c4 : wb.cell? ⟨w.heap.size + 1 + 1, 4, none⟩ = some (.slice va k vc) := by rw [hwb, cell_alloc_lt _ hcb']; exact c4
      have f4 : wb.frozen? ⟨w.heap.size + 1 + 1, 4, none⟩ = false := by rw [hwb, World.frozen?_of_block (w := wr) (Below.heap_alloc wr _ _ hcb')]; exact f4
      have s0 : wb.cell? ⟨wr.heap.size, 0, none⟩ = some (.string i) := by rw [hwb]; exact box_cell (heap_alloc_new wr _) rfl
      have s1 : wb.cell? ⟨wr.heap.size, 1, none⟩ = some (.string g) := by rw [hwb]; exact box_cell (heap_alloc_new wr _) rfl
      have HOB := Lib.hid (show wb.ownsRow W.heap.size 44 5 (.slice va k vc) k cs by rw [hwb]; exact HO.out.alloc _)
      have p0 : w.heap.size + 1 + 1 < wb.heap.size := by omega
      have p1 : wr.heap.size < wb.heap.size := by omega
      have HWB := Lib.hid (show Below wr.heap.size wr wb by rw [hwb]; exact (Below.refl _ _).alloc (Nat.le_refl _) _)
      have HBZ := Lib.hid hbz
      clear hwb hbz e0 e1
      obtain ⟨V, hV⟩ : ∃ V : List MP, V = [.con (.pointer (some ⟨w.heap.size + 1 + 1, 4, none⟩)), .con (.slice va k vc), .row wb.heap.size 2 9 #[.string nKeyid, .string nSig], .con (.pointer (some ⟨wr.heap.size, 0, none⟩)), .con (.string i), .con (.agg #[.int .u8 3, .int .i64 0, .string i, .slice none 0 0, .slice none 0 0]), .con (.pointer (some ⟨wr.heap.size, 1, none⟩)), .con (.string g), .con (.agg #[.int .u8 3, .int .i64 0, .string g, .slice none 0 0, .slice none 0 0]), .row wb.heap.size 2 44 #[.int .u8 3, .int .i64 0, .string i, .slice none 0 0, .slice none 0 0, .int .u8 3, .int .i64 0, .string g, .slice none 0 0, .slice none 0 0], .obj wb.heap.size 9 44 #[.string nKeyid, .string nSig] #[.int .u8 3, .int .i64 0, .string i, .slice none 0 0, .slice none 0 0, .int .u8 3, .int .i64 0, .string g, .slice none 0 0, .slice none 0 0], .one wb.heap.size 44 9 44 #[.string nKeyid, .string nSig] #[.int .u8 3, .int .i64 0, .string i, .slice none 0 0, .slice none 0 0, .int .u8 3, .int .i64 0, .string g, .slice none 0 0, .slice none 0 0]] := ⟨_, rfl⟩
      have HV := Lib.hid hV
      clear hV
      refine wp_region_inv 12 (fun d a' w' => ∃ x14 x15 x16 x17 x18 x19 x20 x21 x22 x23 x24 x25, a' = ⟨#[.agg #[.int .u8 v.kind, .int .i64 v.n, .string v.t, .slice an v.names.length cn, .slice ai v.items.length ci, .slice (some ⟨b, off, none⟩) l.length c], .pointer (some ⟨w.heap.size, 0, none⟩), .pointer (some ⟨w.heap.size + 1, 0, none⟩), .pointer (some ⟨w.heap.size + 1 + 1, 0, none⟩), undef, .pointer (some ⟨wr.heap.size, 0, none⟩), .agg #[.int .u8 4, .int .i64 0, .string { data := #[] }, .slice none 0 0, .slice none 0 0], .pointer (some ⟨w.heap.size, 5, none⟩), .slice (some ⟨b, off, none⟩) l.length c, .int .i64 (l.length : Int), .int .i64 (k : Int), .bool true, .pointer (some ⟨b, off + k * 2, none⟩), .agg #[.string i, .string g], x14, x15, x16, x17, x18, x19, x20, x21, x22, x23, x24, x25, u26, u27, u28, undef, undef, undef, undef, undef, undef], []⟩ ∧ RegI wb V d w' [x14, x15, x16, x17, x18, x19, x20, x21, x22, x23, x24, x25]) (by kernel_rfl) (by kernel_rfl) ?first ?step ?last
      case first => exact ⟨_, _, _, _, _, _, _, _, _, _, _, _, rfl, RegI.first _ _ _ (by rw [HV.out]; rfl)⟩
      case step =>
        rintro d a' w' ⟨x14, x15, x16, x17, x18, x19, x20, x21, x22, x23, x24, x25, rfl, h⟩ q hq hn hw
        have hbw := h.1.size
        rcases q with _ | _ | _ | _ | _ | _ | _ | _ | _ | _ | _ | _ | q
        · refine wpOp_step rfl fun K hK => ?_
          go_simp
          exact hK _ _ ⟨_, x15, x16, x17, x18, x19, x20, x21, x22, x23, x24, x25, rfl, h.same 0 _ (.con (.pointer (some ⟨w.heap.size + 1 + 1, 4, none⟩))) (by rw [HV.out]; rfl) rfl⟩
        · obtain rfl : x14 = .pointer (some ⟨w.heap.size + 1 + 1, 4, none⟩) := h.get 0 (hw _ rfl ⟨0, .data⟩ (by simp) rfl) (.con (.pointer (some ⟨w.heap.size + 1 + 1, 4, none⟩))) (by rw [HV.out]; rfl) _ rfl
          have cc := (h.1.cell p0).trans c4
          refine wpOp_step rfl fun K hK => ?_
          go_simp
          exact hK _ _ ⟨_, _, x16, x17, x18, x19, x20, x21, x22, x23, x24, x25, rfl, h.same 1 _ (.con (.slice va k vc)) (by rw [HV.out]; rfl) rfl⟩
        · refine wpOp_step rfl fun K hK => ?_
          go_simp
          exact hK _ _ ⟨x14, x15, _, x17, x18, x19, x20, x21, x22, x23, x24, x25, rfl, h.new _ 2 _ (.row wb.heap.size 2 9 #[.string nKeyid, .string nSig]) (by rw [HV.out]; rfl) (IsRow.made _ hbw)⟩
        · refine wpOp_step rfl fun K hK => ?_
          go_simp
          exact hK _ _ ⟨x14, x15, x16, _, x18, x19, x20, x21, x22, x23, x24, x25, rfl, h.same 3 _ (.con (.pointer (some ⟨wr.heap.size, 0, none⟩))) (by rw [HV.out]; rfl) rfl⟩
        · obtain rfl : x17 = .pointer (some ⟨wr.heap.size, 0, none⟩) := h.get 3 (hw _ rfl ⟨3, .data⟩ (by simp) rfl) (.con (.pointer (some ⟨wr.heap.size, 0, none⟩))) (by rw [HV.out]; rfl) _ rfl
          have cc := (h.1.cell p1).trans s0
          refine wpOp_step rfl fun K hK => ?_
          go_simp
          exact hK _ _ ⟨x14, x15, x16, _, _, x19, x20, x21, x22, x23, x24, x25, rfl, h.same 4 _ (.con (.string i)) (by rw [HV.out]; rfl) rfl⟩
        · obtain rfl : x18 = .string i := h.get 4 (hw _ rfl ⟨4, .data⟩ (by simp) rfl) (.con (.string i)) (by rw [HV.out]; rfl) _ rfl
          refine wpOp_step rfl fun K hK => ?_
          go_simp
          refine (pickTextOf _ w').mono ?_
          rintro e w2 ⟨rfl, rfl⟩
          exact hK _ _ ⟨x14, x15, x16, x17, _, _, x20, x21, x22, x23, x24, x25, rfl, h.new _ 5 _ (.con (.agg #[.int .u8 3, .int .i64 0, .string i, .slice none 0 0, .slice none 0 0])) (by rw [HV.out]; rfl) rfl⟩
        · refine wpOp_step rfl fun K hK => ?_
          go_simp
          exact hK _ _ ⟨x14, x15, x16, x17, x18, x19, _, x21, x22, x23, x24, x25, rfl, h.same 6 _ (.con (.pointer (some ⟨wr.heap.size, 1, none⟩))) (by rw [HV.out]; rfl) rfl⟩
        · obtain rfl : x20 = .pointer (some ⟨wr.heap.size, 1, none⟩) := h.get 6 (hw _ rfl ⟨6, .data⟩ (by simp) rfl) (.con (.pointer (some ⟨wr.heap.size, 1, none⟩))) (by rw [HV.out]; rfl) _ rfl
          have cc := (h.1.cell p1).trans s1
          refine wpOp_step rfl fun K hK => ?_
          go_simp
          exact hK _ _ ⟨x14, x15, x16, x17, x18, x19, _, _, x22, x23, x24, x25, rfl, h.same 7 _ (.con (.string g)) (by rw [HV.out]; rfl) rfl⟩
        · obtain rfl : x21 = .string g := h.get 7 (hw _ rfl ⟨7, .data⟩ (by simp) rfl) (.con (.string g)) (by rw [HV.out]; rfl) _ rfl
          refine wpOp_step rfl fun K hK => ?_
          go_simp
          refine (pickTextOf _ w').mono ?_
          rintro e w2 ⟨rfl, rfl⟩
          exact hK _ _ ⟨x14, x15, x16, x17, x18, x19, x20, _, _, x23, x24, x25, rfl, h.new _ 8 _ (.con (.agg #[.int .u8 3, .int .i64 0, .string g, .slice none 0 0, .slice none 0 0])) (by rw [HV.out]; rfl) rfl⟩
        · obtain rfl : x19 = .agg #[.int .u8 3, .int .i64 0, .string i, .slice none 0 0, .slice none 0 0] := h.get 5 (hw _ rfl ⟨5, .data⟩ (by simp) rfl) (.con (.agg #[.int .u8 3, .int .i64 0, .string i, .slice none 0 0, .slice none 0 0])) (by rw [HV.out]; rfl) _ rfl
          obtain rfl : x22 = .agg #[.int .u8 3, .int .i64 0, .string g, .slice none 0 0, .slice none 0 0] := h.get 8 (hw _ rfl ⟨8, .data⟩ (by simp) rfl) (.con (.agg #[.int .u8 3, .int .i64 0, .string g, .slice none 0 0, .slice none 0 0])) (by rw [HV.out]; rfl) _ rfl
          refine wpOp_step rfl fun K hK => ?_
          go_simp
          exact hK _ _ ⟨x14, x15, x16, x17, x18, _, x20, x21, _, _, x24, x25, rfl, h.new _ 9 _ (.row wb.heap.size 2 44 #[.int .u8 3, .int .i64 0, .string i, .slice none 0 0, .slice none 0 0, .int .u8 3, .int .i64 0, .string g, .slice none 0 0, .slice none 0 0]) (by rw [HV.out]; rfl) (IsRow.made _ hbw)⟩
        · obtain ⟨b16, k16, rfl, m16⟩ := h.get 2 (hw _ rfl ⟨2, .data⟩ (by simp) rfl) (.row wb.heap.size 2 9 #[.string nKeyid, .string nSig]) (by rw [HV.out]; rfl) _ rfl
          obtain ⟨b23, k23, rfl, m23⟩ := h.get 9 (hw _ rfl ⟨9, .data⟩ (by simp) rfl) (.row wb.heap.size 2 44 #[.int .u8 3, .int .i64 0, .string i, .slice none 0 0, .slice none 0 0, .int .u8 3, .int .i64 0, .string g, .slice none 0 0, .slice none 0 0]) (by rw [HV.out]; rfl) _ rfl
          refine wpOp_step rfl fun K hK => ?_
          go_simp
          exact hK _ _ ⟨x14, x15, _, x17, x18, x19, x20, x21, x22, _, _, x25, rfl, h.same 10 _ (.obj wb.heap.size 9 44 #[.string nKeyid, .string nSig] #[.int .u8 3, .int .i64 0, .string i, .slice none 0 0, .slice none 0 0, .int .u8 3, .int .i64 0, .string g, .slice none 0 0, .slice none 0 0]) (by rw [HV.out]; rfl) ⟨_, _, rfl, ⟨_, k16, rfl, m16⟩, ⟨_, k23, rfl, m23⟩⟩⟩
        · obtain ⟨y, z, rfl, ⟨b1, k1, rfl, m1⟩, ⟨b2, k2, rfl, m2⟩⟩ := h.get 10 (hw _ rfl ⟨10, .data⟩ (by simp) rfl) (.obj wb.heap.size 9 44 #[.string nKeyid, .string nSig] #[.int .u8 3, .int .i64 0, .string i, .slice none 0 0, .slice none 0 0, .int .u8 3, .int .i64 0, .string g, .slice none 0 0, .slice none 0 0]) (by rw [HV.out]; rfl) _ rfl
          refine wpOp_step rfl fun K hK => ?_
          go_simp
          exact hK _ _ ⟨x14, x15, x16, x17, x18, x19, x20, x21, x22, x23, _, _, rfl, h.new _ 11 _ (.one wb.heap.size 44 9 44 #[.string nKeyid, .string nSig] #[.int .u8 3, .int .i64 0, .string i, .slice none 0 0, .slice none 0 0, .int .u8 3, .int .i64 0, .string g, .slice none 0 0, .slice none 0 0]) (by rw [HV.out]; rfl) ⟨_, _, IsRow.made _ hbw, IsRow.mono ((Below.refl _ _).alloc (Nat.le_refl _) _) ⟨_, k1, rfl, m1⟩, IsRow.mono ((Below.refl _ _).alloc (Nat.le_refl _) _) ⟨_, k2, rfl, m2⟩⟩⟩
        · omega
      case last =>
        rintro d a' w' hall ⟨x14, x15, x16, x17, x18, x19, x20, x21, x22, x23, x24, x25, rfl, h⟩
        have hle := h.1
        obtain rfl : x15 = .slice va k vc := h.get 1 (hall _ (by omega)) (.con (.slice va k vc)) (by rw [HV.out]; rfl) _ rfl
        obtain ⟨y, z, ⟨be, hbe, rfl, hxe⟩, ⟨bn, hbn, rfl, hxn⟩, ⟨bi, hbi, rfl, hxi⟩⟩ := h.get 11 (hall _ (by omega)) (.one wb.heap.size 44 9 44 #[.string nKeyid, .string nSig] #[.int .u8 3, .int .i64 0, .string i, .slice none 0 0, .slice none 0 0, .int .u8 3, .int .i64 0, .string g, .slice none 0 0, .slice none 0 0]) (by rw [HV.out]; rfl) _ rfl
        have HLE := Lib.hid hle
        have HXN := Lib.hid hxn
        have HXI := Lib.hid hxi
        have HBN := Lib.hid hbn
        have HBI := Lib.hid hbi
        have hz2 := hle.size
        have HOW := Lib.hid (owns_below HOB.out hle)
        have hwk : k + 1 ≤ maxLen := by unfold maxLen; omega
        have HNE := Lib.hid (World.news_of_block (cs := #[.int .u8 5, .int .i64 0, .string { data := #[] }, .slice (some ⟨bn, 0, none⟩) 2 2, .slice (some ⟨bi, 0, none⟩) 2 2]) hxe)
        clear h hall hle hxn hxi hbn hbi hxe
        simp only [List.drop_succ_cons, List.drop_zero]
        refine (wpList_append_lies _ rfl (.tmp 15) (.tmp 25) 42 rfl W.heap.size 44 i1 _ 5 80 Tryz.underlying42 hi1 hy0 hy1 hy2 rfl (by decide) (.slice va k vc) k cs rfl HOW.out ⟨be, 0, none⟩ 1 1 (Array.toList #[.int .u8 5, .int .i64 0, .string { data := #[] }, .slice (some ⟨bn, 0, none⟩) 2 2, .slice (some ⟨bi, 0, none⟩) 2 2]) rfl rfl HNE.out ?q1 ?q2 ?q3 ?q4 ?q5 _ rfl ?_)
        case q1 => simp [Value.oneCell']
        case q2 => decide
        case q3 => exact hwk
        case q4 => omega
        case q5 => have := hWW.out; omega
        intro g2 cap4 w4 hown4 hgrow4 hat4 hlt4
        have c44 := grow_cellB hgrow4 HLE.out p0 (Ne.symm hnb) c4
        have f44 := grow_frozenB hgrow4 HLE.out p0 (Ne.symm hnb) f4
        have HSS := Lib.hid (HSN.out w' w4 g2 cap4 bn bi wb.heap.size _ _ (HWB.out.trans (HLE.out.mono HWB.out.size)) HWB.out.size HXN.out HXI.out HBN.out HBI.out hgrow4 hat4 hown4)
        clear hown4 hgrow4 hat4
        go_wp2
        go_roundw
        case rel => exact ⟨k + 1, _, _, by omega, by go_num, HSS.out⟩
        case measure => simp [intOf]; omega
    · have hke : k = l.length := by omega
      have htk : (l.take k).map sigJ = l.map sigJ := by rw [hke, List.take_length]
      have hreps := hS.reps
      rw [htk] at hreps
      obtain ⟨a', c', hvi, hci, hval⟩ := owns_vals hS.own hreps (by simp [hke])
      have HL := Lib.hid (show Rep wr W.heap.size wr.heap.size (sigsJ l) (.agg #[.int .u8 4, .int .i64 0, .string { data := #[] }, .slice none 0 0, .slice va k vc]) by
        rw [hvi]; exact Rep.mk (v := sigsJ l) (an := none) (cn := 0) (Nat.le_refl _) hci (.inl rfl) hval)
      have hxw : wr.heap[w.heap.size]? = some (.cells #[.int .u8 v.kind, .int .i64 v.n, .string v.t, .slice an v.names.length cn, .slice ai v.items.length ci, .slice sa l.length c] 47 (0, 0)) := by
        rw [hS.touch.block _ (by have := HWZ.out; omega) (by omega)]; exact HX0.out
      have hrr : wr.rowIs (w.heap.size + 1) 44 5 (pick5 (.int .u8 0) (.int .i64 0) (.string { data := #[] }) (.slice none 0 0) (.slice none 0 0)) := hS.touch.row HX1.out (by omega)
      have b0 : wr.cell? ⟨w.heap.size, 0, none⟩ = some (.int .u8 v.kind) := box_cell hxw rfl
      have b1 : wr.cell? ⟨w.heap.size, 1, none⟩ = some (.int .i64 v.n) := box_cell hxw rfl
      have b2 : wr.cell? ⟨w.heap.size, 2, none⟩ = some (.string v.t) := box_cell hxw rfl
      have b3 : wr.cell? ⟨w.heap.size, 3, none⟩ = some (.slice an v.names.length cn) := box_cell hxw rfl
      have b4 : wr.cell? ⟨w.heap.size, 4, none⟩ = some (.slice ai v.items.length ci) := box_cell hxw rfl
      have l0 : wr.cell? ⟨w.heap.size + 1 + 1, 0, none⟩ = some (.int .u8 4) := hS.row.cell (i := 0) (by decide)
      have l1 : wr.cell? ⟨w.heap.size + 1 + 1, 1, none⟩ = some (.int .i64 0) := hS.row.cell (i := 1) (by decide)
      have l2 : wr.cell? ⟨w.heap.size + 1 + 1, 2, none⟩ = some (.string { data := #[] }) := hS.row.cell (i := 2) (by decide)
      have l3 : wr.cell? ⟨w.heap.size + 1 + 1, 3, none⟩ = some (.slice none 0 0) := hS.row.cell (i := 3) (by decide)
      have l4 : wr.cell? ⟨w.heap.size + 1 + 1, 4, none⟩ = some (.slice va k vc) := hS.row.cell (i := 4) (by decide)
      have r0 := hrr.cell (i := 0) (by decide); have r1 := hrr.cell (i := 1) (by decide); have r2 := hrr.cell (i := 2) (by decide); have r3 := hrr.cell (i := 3) (by decide); have r4 := hrr.cell (i := 4) (by decide)
      have f0 := hrr.frozen 0; have f1 := hrr.frozen 1; have f2 := hrr.frozen 2; have f3 := hrr.frozen 3; have f4 := hrr.frozen 4
      simp only [pick5] at r0 r1 r2 r3 r4
      have HRR := Lib.hid hrr
      have HT := Lib.hid hS.touch
      have hz0 : w.heap.size < wr.heap.size := by omega
      have hz1 : w.heap.size + 1 < wr.heap.size := by omega
      have hz2 : w.heap.size + 1 + 1 < wr.heap.size := by omega
      have HKE := Lib.hid hke
      clear hS hreps hvi hci hval hxw hrr HS htk hke
      go_wp2
      refine bodyPost_ret (results_cell_row Tryz.results62 _ _ (w.heap.size + 1) 44 #[.int .u8 5, .int .i64 0, .string { data := #[] }, .slice (some ⟨wr.heap.size, 0, none⟩) 2 2, .slice (some ⟨wr.heap.size + 1, 0, none⟩) 2 2] (0, 0) _ rfl (row5_heap (((set5 _ _ _ _ _ HRR.out).alloc _).alloc _)) Tryz.underlying44 rfl (by kernel_rfl)) rfl ⟨_, _, rfl, ?_, ?_⟩
      · exact env_rep HWZ.out HBW.out HT.out HR.out HL.out
      · exact env_below HWZ.out HBW.out HT.out

end Go.Proofs.YtaekmmnpdbmoeaaGreatDoor
