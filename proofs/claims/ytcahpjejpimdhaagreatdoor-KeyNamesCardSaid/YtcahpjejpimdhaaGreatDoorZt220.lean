/- The contract of legatelaw14.object and ex. -/
import Derived.Test.YtcahpjejpimdhaaGreatDoorZt215
import Derived.Deep.DeepCutAuto

namespace Go.Proofs.YtcahpjejpimdhaaGreatDoor
open Go.RowKit

theorem lawEx (w : World) : Calls Tryz.prog 43 #[] w fun e w' => e = .returned (.agg #[.string { data := #[101, 100, 50, 53, 53, 49, 57] }, .string { data := #[48, 48, 102, 102] }]) ∧ Below w.heap.size w w' := by
  go_enter Tryz.func43, Tryz.ntmps43
  go_wp2
  exact bodyPost_ret (results_cell_row Tryz.results43 _ _ w.heap.size 23 _ (0, 0) _ rfl (heap_alloc_new w _) Tryz.underlying23 rfl (by kernel_rfl)) rfl ⟨rfl, (Below.refl _ _).alloc (Nat.le_refl _) _⟩

theorem heap_two (w : World) (o o' : Obj) : ((w.alloc o).alloc o').heap[w.heap.size + 1]? = some o' := by
  have := heap_alloc_new (w.alloc o) o'
  rwa [show (w.alloc o).heap.size = w.heap.size + 1 by simp] at this
theorem heap_old (w : World) (o o' : Obj) : ((w.alloc o).alloc o').heap[w.heap.size]? = some o := (Below.heap_alloc _ _ _ (by simp)).trans (heap_alloc_new w o)

def ObjectPost (ns : List ByteArray) (its : List JV) (w : World) (e : Ending) (w' : World) : Prop :=
  ∃ an cn ai ci, e = .returned (.agg #[.int .u8 5, .int .i64 0, .string { data := #[] }, .slice an ns.length cn, .slice ai its.length ci]) ∧
    Rep w' w.heap.size w'.heap.size (.mk 5 0 { data := #[] } ns its) (.agg #[.int .u8 5, .int .i64 0, .string { data := #[] }, .slice an ns.length cn, .slice ai its.length ci]) ∧ Below w.heap.size w w'

set_option maxRecDepth 100000 in
set_option maxHeartbeats 4000000 in
theorem lawObject (t s : ByteArray) (w : World) (_ht : t.size ≤ 4096) (hs : s.size ≤ 4096) (h0 : 0 < t.size) :
    Calls Tryz.prog 41 #[.string t, .string s] w (ObjectPost (pubN :: (if s.size = 0 then [] else [schN])) (txtJ t :: (if s.size = 0 then [] else [txtJ s])) w) := by
  obtain ⟨i1, hi1, hy0, hy1, hy2⟩ := info_parts infoValue
  obtain ⟨i2, hi2, hx0, hx1, hx2⟩ := info_parts infoStr
  obtain ⟨hne, hem⟩ := toList_ne t h0
  have HO0 := Lib.hid (show ∃ vn vi cs, ObjAt ((w.alloc (.cells #[.int .u8 0, .int .i64 0, .string { data := #[] }, .slice none 0 0, .slice none 0 0] 29)).alloc (.cells #[.int .u8 5, .int .i64 0, .string { data := #[] }, .slice none 0 0, .slice none 0 0] 29)) ((w.alloc (.cells #[.int .u8 0, .int .i64 0, .string { data := #[] }, .slice none 0 0, .slice none 0 0] 29)).alloc (.cells #[.int .u8 5, .int .i64 0, .string { data := #[] }, .slice none 0 0, .slice none 0 0] 29)) (w.heap.size + 1) 29 9 29 vn vi [] [] cs ∧ vn = .slice none 0 0 ∧ vi = .slice none 0 0 from
    ⟨.slice none 0 0, .slice none 0 0, [], ⟨by simp, Touch.refl _ _, by
      have := rowIs_box5 (w.alloc (.cells #[.int .u8 0, .int .i64 0, .string { data := #[] }, .slice none 0 0, .slice none 0 0] 29)) (.int .u8 5) (.int .i64 0) (.string { data := #[] }) (.slice none 0 0) (.slice none 0 0) 29
      rwa [show (w.alloc (.cells #[.int .u8 0, .int .i64 0, .string { data := #[] }, .slice none 0 0, .slice none 0 0] 29)).heap.size = w.heap.size + 1 by simp] at this, World.ownsRow_nil _ _ _ _, World.ownsRow_nil _ _ _ _, RepRow.nil _ _ _, fun b hb => by simp [Value.ownBlock] at hb⟩, rfl, rfl⟩)
  go_enter Tryz.func41, Tryz.ntmps41
  go_upto_region 3 with fail
  obtain ⟨vn, vi, cs, hobj, hvn, hvi⟩ := HO0.out
  have HO := Lib.hid hobj
  clear hobj HO0
  obtain ⟨cb, hcb⟩ : ∃ cb, cb = w.heap.size + 1 := ⟨_, rfl⟩
  rw [← hcb] at HO ⊢
  have hwcb : w.heap.size < cb := by omega
  clear hcb
  have HRES := Lib.hid ((rowIs_box5 w (.int .u8 0) (.int .i64 0) (.string { data := #[] }) (.slice none 0 0) (.slice none 0 0) 29).alloc (.cells #[.int .u8 5, .int .i64 0, .string { data := #[] }, .slice none 0 0, .slice none 0 0] 29))
  have HB0 := Lib.hid (show Below w.heap.size w ((w.alloc (.cells #[.int .u8 0, .int .i64 0, .string { data := #[] }, .slice none 0 0, .slice none 0 0] 29)).alloc (.cells #[.int .u8 5, .int .i64 0, .string { data := #[] }, .slice none 0 0, .slice none 0 0] 29)) from ((Below.refl _ _).alloc (Nat.le_refl _) _).alloc (by simp) _)
  obtain ⟨W0, hW0⟩ : ∃ W0, W0 = ((w.alloc (.cells #[.int .u8 0, .int .i64 0, .string { data := #[] }, .slice none 0 0, .slice none 0 0] 29)).alloc (.cells #[.int .u8 5, .int .i64 0, .string { data := #[] }, .slice none 0 0, .slice none 0 0] 29)) := ⟨_, rfl⟩
  rw [← hW0] at HO HRES HB0 ⊢
  clear hW0
  obtain ⟨W, hW⟩ : ∃ W, W = W0 := ⟨_, rfl⟩
  have HO' := Lib.hid (show ObjAt W0 W cb 29 9 29 vn vi [] [] cs by rw [hW]; exact HO.out)
  rw [← hW]
  clear HO hW
  have HO := HO'
  clear HO' hvn hvi
  have hc3 : W.cell? ⟨cb, 3, none⟩ = some vn := HO.out.row.cell (by decide)
  have hc4 : W.cell? ⟨cb, 4, none⟩ = some vi := HO.out.row.cell (by decide)
  have HN := Lib.hid (show W.ownsRow W0.heap.size 9 1 vn 0 (([] : List ByteArray).map .string) from HO.out.names)
  have HNB := Lib.hid (show ∀ b, W.heap.size ≤ b → some b ≠ vn.ownBlock from fun b hb e => by have := (HO.out.names.lt _ e.symm).2; omega)
  have hzz := HO.out.touch.size
  have hcl : cb < W.heap.size := HO.out.row.lt
  have hcl2 : ¬ cb = W.heap.size := by omega
  have hcl3 : ¬ cb = W.heap.size + 1 := by omega
  go_cut [5] (fun s5 wx => s5 = .pointer (some ⟨cb, 0, none⟩) ∧ ∃ vn vi cs, ObjAt W0 wx cb 29 9 29 vn vi [pubN] [txtJ t] cs)
  case first =>
    go_region_law (first | (refine step_append_lies _ (by rfl) (.tmp 10) (.tmp 11) 26 (by rfl) W0.heap.size 9 i2 _ 1 16 Tryz.underlying26 hi2 hx0 hx1 hx2 rfl (by decide) vn 0 (([] : List ByteArray).map .string) (by rfl) (by first | exact HN.out.alloc _ | exact (HN.out.alloc _).alloc _) _ 1 1 [.string { data := #[112, 117, 98, 108, 105, 99] }] (by rfl) (by rfl) (by first | exact World.news_of_block (cs := #[.string { data := #[112, 117, 98, 108, 105, 99] }]) (t := 9) (fr := (0, 0)) (heap_alloc_new _ _) | exact World.news_of_block (cs := #[.string { data := #[112, 117, 98, 108, 105, 99] }]) (t := 9) (fr := (0, 0)) (heap_two _ _ _) | exact World.news_of_block (cs := #[.string { data := #[112, 117, 98, 108, 105, 99] }]) (t := 9) (fr := (0, 0)) (heap_old _ _ _)) (by simp [Value.oneCell']) (by omega) (by unfold maxLen; omega) (by omega) (by simp; omega) _ rfl ?_; intro g1 cap1 w4 hown4 hgrow4 hat4 hlt4; have HM4 := Lib.hid (mid4 (W0 := W0) (W := W) (T := 29) (e1 := 9) (e5 := 29) (ns := ([] : List ByteArray)) (its := ([] : List JV)) (cs := cs) (vn := vn) (vi := vi) HO.out (by first | exact (Below.refl _ _).drew.alloc (Nat.le_refl _) _ | exact ((Below.refl _ _).drew.alloc (Nat.le_refl _) _).alloc (by simp) _) { data := #[112, 117, 98, 108, 105, 99] } hgrow4 hat4 hown4); have k4 : w4.cell? ⟨cb, 4, none⟩ = some vi := HM4.out.row.cell (by decide); have k4b : (w4.alloc (.cells #[.int .u8 3, .int .i64 0, .string t, .slice none 0 0, .slice none 0 0] 29)).cell? ⟨cb, 4, none⟩ = some vi := (cell_alloc_lt _ HM4.out.row.lt).trans k4; first | (have HI : Hid (w4.heap[W.heap.size + 1]? = some (.cells #[.int .u8 3, .int .i64 0, .string t, .slice none 0 0, .slice none 0 0] 29 (0, 0))) := Lib.hid ((hgrow4.block _ (by simp) (HNB.out _ (by omega))).trans (heap_two _ _ _))) | (have HI : Hid (w4.heap[W.heap.size]? = some (.cells #[.int .u8 3, .int .i64 0, .string t, .slice none 0 0, .slice none 0 0] 29 (0, 0))) := Lib.hid ((hgrow4.block _ (by simp; omega) (HNB.out _ (by omega))).trans (heap_old _ _ _))) | skip; clear hown4 hgrow4 hat4) | (refine step_append_lies _ (by rfl) (.tmp 14) (.tmp 17) 27 (by rfl) W0.heap.size 29 i1 _ 5 80 Tryz.underlying27 hi1 hy0 hy1 hy2 rfl (by decide) vi 0 cs (by rfl) (by first | exact HM4.out.items.alloc _ | exact HM4.out.items) _ 1 1 (Array.toList #[.int .u8 3, .int .i64 0, .string t, .slice none 0 0, .slice none 0 0]) (by rfl) (by rfl) (by first | exact World.news_of_block (cs := #[.int .u8 3, .int .i64 0, .string t, .slice none 0 0, .slice none 0 0]) (t := 29) (fr := (0, 0)) (heap_alloc_new _ _) | exact World.news_of_block (cs := #[.int .u8 3, .int .i64 0, .string t, .slice none 0 0, .slice none 0 0]) (t := 29) (fr := (0, 0)) HI.out) (by simp [Value.oneCell']) (by omega) (by unfold maxLen; omega) (by omega) (by have := HM4.out.size; simp; omega) _ rfl ?_; intro g2 cap2 w6 hown6 hgrow6 hat6 hlt6; clear k4 k4b; obtain ⟨k3, k4, l3, l4⟩ := Mid4.stores (by first | exact HM4.out | exact HM4.out.alloc _) hgrow6; have HF := Lib.hid (Mid4.done (W0 := W0) (W := W) (ns := ([] : List ByteArray)) (its := ([] : List JV)) (cs := cs) (by first | exact HM4.out | exact HM4.out.alloc _) (txtJ t) none none 0 0 (fun w lo hi => rep_txt w lo hi t) hgrow6 hat6 hown6); clear hown6 hgrow6 hat6))
    all_goals (go_wp2_with fail; go_meet; exact ⟨rfl, _, _, _, HF.out⟩)
  case rest =>
    clear hc3 hc4 HN HNB hcl hcl2 hcl3 hzz HO hne hem
    obtain ⟨rfl, vn, vi, cs, hobj⟩ := hcut
    have HO := Lib.hid hobj
    clear hobj
    by_cases hs0 : s.size = 0
    · have hsn := toList_nil s hs0
      have HS0 := Lib.hid hs0
      clear hs0
      have hrow := HO.out.row
      obtain ⟨an, cn, ai, ci, rfl, rfl, hrep⟩ := HO.out.done
      have HRP := Lib.hid hrep
      have hres := HO.out.touch.row HRES.out (by omega)
      have hlt := HO.out.lt
      have hz := HO.out.touch.size
      have r0 := hrow.cell (i := 0) (by decide); have r1 := hrow.cell (i := 1) (by decide); have r2 := hrow.cell (i := 2) (by decide); have r3 := hrow.cell (i := 3) (by decide); have r4 := hrow.cell (i := 4) (by decide)
      have t0 := hres.cell (i := 0) (by decide); have t1 := hres.cell (i := 1) (by decide); have t2 := hres.cell (i := 2) (by decide); have t3 := hres.cell (i := 3) (by decide); have t4 := hres.cell (i := 4) (by decide)
      have s0 := hres.frozen 0; have s1 := hres.frozen 1; have s2 := hres.frozen 2; have s3 := hres.frozen 3; have s4 := hres.frozen 4
      simp only [pick5, List.length_cons, List.length_nil] at r0 r1 r2 r3 r4 t0 t1 t2 t3 t4
      have HRS := Lib.hid hres
      have HBW := Lib.hid (show Below w.heap.size w wc from HB0.out.trans (HO.out.touch.below HB0.out.size fun j hj e => by omega))
      clear hrow hres hrep HO
      go_wp2
      refine bodyPost_ret (results_cell_row Tryz.results41 _ _ w.heap.size 29 _ (0, 0) _ rfl (row5_heap (set5 _ _ _ _ _ HRS.out)) Tryz.underlying29 rfl (by kernel_rfl)) rfl ?_
      refine ⟨an, cn, ai, ci, ?_, ?_, below5 _ _ _ _ _ HBW.out (Nat.le_refl _)⟩
      · rfl
      · exact Rep.carry (by omega) (show wc.heap.size ≤ _ by simp [World.setCell]) (fun j hj _ => heap5 _ _ _ _ _ (by omega)) _ _ HRP.out
    · obtain ⟨hne, hem⟩ := toList_ne s (by omega)
      have HS0 := Lib.hid hs0
      clear hs0
      go_upto_region 5 with fail
      have hc3 : wc.cell? ⟨cb, 3, none⟩ = some vn := HO.out.row.cell (by decide)
      have hc4 : wc.cell? ⟨cb, 4, none⟩ = some vi := HO.out.row.cell (by decide)
      have HN := Lib.hid (show wc.ownsRow W0.heap.size 9 1 vn 1 (([pubN] : List ByteArray).map .string) from HO.out.names)
      have HNB := Lib.hid (show ∀ b, wc.heap.size ≤ b → some b ≠ vn.ownBlock from fun b hb e => by have := (HO.out.names.lt _ e.symm).2; omega)
      have hzz := HO.out.touch.size
      have hcl : cb < wc.heap.size := HO.out.row.lt
      have hcl2 : ¬ cb = wc.heap.size := by omega
      have hcl3 : ¬ cb = wc.heap.size + 1 := by omega
      go_cut [5] (fun s5 wx => s5 = .pointer (some ⟨cb, 0, none⟩) ∧ ∃ vn vi cs, ObjAt W0 wx cb 29 9 29 vn vi [pubN, schN] [txtJ t, txtJ s] cs)
      case first =>
        go_region_law (first | (refine step_append_lies _ (by rfl) (.tmp 24) (.tmp 25) 26 (by rfl) W0.heap.size 9 i2 _ 1 16 Tryz.underlying26 hi2 hx0 hx1 hx2 rfl (by decide) vn 1 (([pubN] : List ByteArray).map .string) (by rfl) (by first | exact HN.out.alloc _ | exact (HN.out.alloc _).alloc _) _ 1 1 [.string { data := #[115, 99, 104, 101, 109, 101] }] (by rfl) (by rfl) (by first | exact World.news_of_block (cs := #[.string { data := #[115, 99, 104, 101, 109, 101] }]) (t := 9) (fr := (0, 0)) (heap_alloc_new _ _) | exact World.news_of_block (cs := #[.string { data := #[115, 99, 104, 101, 109, 101] }]) (t := 9) (fr := (0, 0)) (heap_two _ _ _) | exact World.news_of_block (cs := #[.string { data := #[115, 99, 104, 101, 109, 101] }]) (t := 9) (fr := (0, 0)) (heap_old _ _ _)) (by simp [Value.oneCell']) (by omega) (by unfold maxLen; omega) (by omega) (by simp; omega) _ rfl ?_; intro g1 cap1 w4 hown4 hgrow4 hat4 hlt4; have HM4 := Lib.hid (mid4 (W0 := W0) (W := wc) (T := 29) (e1 := 9) (e5 := 29) (ns := ([pubN] : List ByteArray)) (its := ([txtJ t] : List JV)) (cs := cs) (vn := vn) (vi := vi) HO.out (by first | exact (Below.refl _ _).drew.alloc (Nat.le_refl _) _ | exact ((Below.refl _ _).drew.alloc (Nat.le_refl _) _).alloc (by simp) _) { data := #[115, 99, 104, 101, 109, 101] } hgrow4 hat4 hown4); have k4 : w4.cell? ⟨cb, 4, none⟩ = some vi := HM4.out.row.cell (by decide); have k4b : (w4.alloc (.cells #[.int .u8 3, .int .i64 0, .string s, .slice none 0 0, .slice none 0 0] 29)).cell? ⟨cb, 4, none⟩ = some vi := (cell_alloc_lt _ HM4.out.row.lt).trans k4; first | (have HI : Hid (w4.heap[wc.heap.size + 1]? = some (.cells #[.int .u8 3, .int .i64 0, .string s, .slice none 0 0, .slice none 0 0] 29 (0, 0))) := Lib.hid ((hgrow4.block _ (by simp) (HNB.out _ (by omega))).trans (heap_two _ _ _))) | (have HI : Hid (w4.heap[wc.heap.size]? = some (.cells #[.int .u8 3, .int .i64 0, .string s, .slice none 0 0, .slice none 0 0] 29 (0, 0))) := Lib.hid ((hgrow4.block _ (by simp; omega) (HNB.out _ (by omega))).trans (heap_old _ _ _))) | skip; clear hown4 hgrow4 hat4) | (refine step_append_lies _ (by rfl) (.tmp 28) (.tmp 31) 27 (by rfl) W0.heap.size 29 i1 _ 5 80 Tryz.underlying27 hi1 hy0 hy1 hy2 rfl (by decide) vi 1 cs (by rfl) (by first | exact HM4.out.items.alloc _ | exact HM4.out.items) _ 1 1 (Array.toList #[.int .u8 3, .int .i64 0, .string s, .slice none 0 0, .slice none 0 0]) (by rfl) (by rfl) (by first | exact World.news_of_block (cs := #[.int .u8 3, .int .i64 0, .string s, .slice none 0 0, .slice none 0 0]) (t := 29) (fr := (0, 0)) (heap_alloc_new _ _) | exact World.news_of_block (cs := #[.int .u8 3, .int .i64 0, .string s, .slice none 0 0, .slice none 0 0]) (t := 29) (fr := (0, 0)) HI.out) (by simp [Value.oneCell']) (by omega) (by unfold maxLen; omega) (by omega) (by have := HM4.out.size; simp; omega) _ rfl ?_; intro g2 cap2 w6 hown6 hgrow6 hat6 hlt6; clear k4 k4b; obtain ⟨k3, k4, l3, l4⟩ := Mid4.stores (by first | exact HM4.out | exact HM4.out.alloc _) hgrow6; have HF := Lib.hid (Mid4.done (W0 := W0) (W := wc) (ns := ([pubN] : List ByteArray)) (its := ([txtJ t] : List JV)) (cs := cs) (by first | exact HM4.out | exact HM4.out.alloc _) (txtJ s) none none 0 0 (fun w lo hi => rep_txt w lo hi s) hgrow6 hat6 hown6); clear hown6 hgrow6 hat6))
        all_goals (go_wp2_with fail; go_meet; exact ⟨rfl, _, _, _, HF.out⟩)
      case rest =>
        clear hc3 hc4 HN HNB hcl hcl2 hcl3 hzz HO hne hem
        obtain ⟨rfl, vn, vi, cs, hobj⟩ := hcut
        have HO := Lib.hid hobj
        clear hobj
        have hrow := HO.out.row
        obtain ⟨an, cn, ai, ci, rfl, rfl, hrep⟩ := HO.out.done
        have HRP := Lib.hid hrep
        have hres := HO.out.touch.row HRES.out (by omega)
        have hlt := HO.out.lt
        have hz := HO.out.touch.size
        have r0 := hrow.cell (i := 0) (by decide); have r1 := hrow.cell (i := 1) (by decide); have r2 := hrow.cell (i := 2) (by decide); have r3 := hrow.cell (i := 3) (by decide); have r4 := hrow.cell (i := 4) (by decide)
        have t0 := hres.cell (i := 0) (by decide); have t1 := hres.cell (i := 1) (by decide); have t2 := hres.cell (i := 2) (by decide); have t3 := hres.cell (i := 3) (by decide); have t4 := hres.cell (i := 4) (by decide)
        have s0 := hres.frozen 0; have s1 := hres.frozen 1; have s2 := hres.frozen 2; have s3 := hres.frozen 3; have s4 := hres.frozen 4
        simp only [pick5, List.length_cons, List.length_nil] at r0 r1 r2 r3 r4 t0 t1 t2 t3 t4
        have HRS := Lib.hid hres
        have HBW := Lib.hid (show Below w.heap.size w wc from HB0.out.trans (HO.out.touch.below HB0.out.size fun j hj e => by omega))
        clear hrow hres hrep HO
        go_wp2
        refine bodyPost_ret (results_cell_row Tryz.results41 _ _ w.heap.size 29 _ (0, 0) _ rfl (row5_heap (set5 _ _ _ _ _ HRS.out)) Tryz.underlying29 rfl (by kernel_rfl)) rfl ?_
        refine ⟨an, cn, ai, ci, ?_, ?_, below5 _ _ _ _ _ HBW.out (Nat.le_refl _)⟩
        · rfl
        · exact Rep.carry (by omega) (show wc.heap.size ≤ _ by simp [World.setCell]) (fun j hj _ => heap5 _ _ _ _ _ (by omega)) _ _ HRP.out

end Go.Proofs.YtcahpjejpimdhaaGreatDoor
