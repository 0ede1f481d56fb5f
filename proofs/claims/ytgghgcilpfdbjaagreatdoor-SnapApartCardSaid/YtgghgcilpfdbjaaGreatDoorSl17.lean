/- The contract of snap.PinValue, of a pin that may be, without hashes. The contract of legateref08.Same: equal in all parts. -/
import Derived.Test.YtgghgcilpfdbjaaGreatDoorSl16
import Derived.Test.YtgghgcilpfdbjaaGreatDoorSl09
import Derived.Outline
import Derived.OwnWalk
import Derived.Test.YtgghgcilpfdbjaaGreatDoorSl02
import Derived.Test.YtgghgcilpfdbjaaGreatDoorSl15
import Derived.Test.YtgghgcilpfdbjaaGreatDoorSl00
import Derived.StillTailTactics

namespace Go.Proofs.YtgghgcilpfdbjaaGreatDoor
open Go.RowKit Go.Shelf Go.Sort

theorem ins_two (a b : Mem) (h : ltOf cfM b a = true) : insertionSort (ltOf cfM) #[a, b] 0 2 = #[b, a] := by
  unfold insertionSort insOuter
  rw [if_pos (by decide)]
  unfold insOuter
  rw [if_neg (by decide)]
  unfold insInner
  have e : (decide (0 + 1 > 0) && ltOf cfM #[a, b][0 + 1]! #[a, b][0]!) = true := by simpa using h
  rw [if_pos e]
  unfold insInner
  rfl
theorem objVL (ln vr : Int) (blk cap : Nat) (w : World) (hH : HoldsK encM 6 w blk 0 #[memN verN vr, memN lenN ln]) (hb : blk < w.heap.size) :
    Calls Tryz.prog 42 #[.slice (some ⟨blk, 0, none⟩) 2 cap] w (ObjPost [lenN, verN] [numJ ln, numJ vr] w) := by
  refine pickObjectOf #[memN verN vr, memN lenN ln] #[memN lenN ln, memN verN vr] [numJ ln, numJ vr] blk 0 cap w 0 0 hH hb (by simp) ?_ rfl ?_ ?_ (by omega)
  · refine ins_two _ _ ?_
    show decide (Lib.compareBytes lenN.data.toList verN.data.toList < 0) = true
    decide
  · intro i hi
    match i, hi with
    | 0, _ => exact ⟨rep_num _ _ _ _, by simp [numJ, JV.wt, JV.wts, bytesSum, ByteArray.size], fun k h => by simp [numJ, JV.items] at h⟩
    | 1, _ => exact ⟨rep_num _ _ _ _, by simp [numJ, JV.wt, JV.wts, bytesSum, ByteArray.size], fun k h => by simp [numJ, JV.items] at h⟩
  · intro i hi
    obtain rfl : i = 0 := by simp at hi; omega
    show lenN ≠ verN
    decide
theorem objV (vr : Int) (blk cap : Nat) (w : World) (hH : HoldsK encM 6 w blk 0 #[memN verN vr]) (hb : blk < w.heap.size) :
    Calls Tryz.prog 42 #[.slice (some ⟨blk, 0, none⟩) 1 cap] w (ObjPost [verN] [numJ vr] w) := by
  refine pickObjectOf #[memN verN vr] #[memN verN vr] [numJ vr] blk 0 cap w 0 0 hH hb (by simp) ?_ rfl ?_ ?_ (by omega)
  · exact ins_sorted _ _ _ fun j hj => by simp at hj
  · intro i hi
    match i, hi with
    | 0, _ => exact ⟨rep_num _ _ _ _, by simp [numJ, JV.wt, JV.wts, bytesSum, ByteArray.size], fun k h => by simp [numJ, JV.items] at h⟩
  · intro i hi; simp at hi

theorem pinJ_len (nm : ByteArray) (vr : Int) {ln : Int} (h : ¬ ln = -1) : pinJ ⟨nm, vr, ln, []⟩ = .mk 5 0 { data := #[] } [lenN, verN] [numJ ln, numJ vr] := by simp [pinJ, pinM, h]
def PinValPost (p : PinV) (w : World) (e : Ending) (w' : World) : Prop :=
  ∃ an cn ai ci, e = .returned (.tuple #[.agg #[.int .u8 5, .int .i64 0, .string { data := #[] }, .slice an (pinJ p).names.length cn, .slice ai (pinJ p).items.length ci], .int .i64 0]) ∧
    Rep w' w.heap.size w'.heap.size (pinJ p) (.agg #[.int .u8 5, .int .i64 0, .string { data := #[] }, .slice an (pinJ p).names.length cn, .slice ai (pinJ p).items.length ci]) ∧ Below w.heap.size w w'

set_option maxHeartbeats 4000000 in
set_option maxRecDepth 100000 in
theorem snapPinValue (nm : ByteArray) (vr ln : Int) (ha : Option Addr) (hc : Nat) (w : World) (hn : nm.size ≤ 9223372036854775807) (hm : mayPin ⟨nm, vr, ln, []⟩ = true) :
    Calls Tryz.prog 27 #[.agg #[.string nm, .int .i64 vr, .int .i64 ln, .slice ha 0 hc]] w (PinValPost ⟨nm, vr, ln, []⟩ w) := by
  obtain ⟨W2, hW2⟩ : ∃ W2, W2 = (w.alloc (.cells #[.string nm, .int .i64 vr, .int .i64 ln, .slice ha 0 hc] 36)).alloc (.cells #[.int .u8 0, .int .i64 0, .string { data := #[] }, .slice none 0 0, .slice none 0 0] 30) := ⟨_, rfl⟩
  have hz1 : (w.alloc (.cells #[.string nm, .int .i64 vr, .int .i64 ln, .slice ha 0 hc] 36)).heap.size = w.heap.size + 1 := by simp
  have hz2 : W2.heap.size = w.heap.size + 2 := by rw [hW2]; simp
  have hb2 : Below w.heap.size w W2 := by rw [hW2]; exact ((Below.refl _ _).alloc (Nat.le_refl _) _).alloc (by simp) _
  have hx0 : W2.heap[w.heap.size]? = some (.cells #[.string nm, .int .i64 vr, .int .i64 ln, .slice ha 0 hc] 36 (0, 0)) := by rw [hW2, Below.heap_alloc _ _ _ (by simp)]; exact heap_alloc_new w _
  have hr0 : W2.rowIs (w.heap.size + 1) 30 5 (pick5 (.int .u8 0) (.int .i64 0) (.string { data := #[] }) (.slice none 0 0) (.slice none 0 0)) := by
    have := rowIs_box5 (w.alloc (.cells #[.string nm, .int .i64 vr, .int .i64 ln, .slice ha 0 hc] 36)) (.int .u8 0) (.int .i64 0) (.string { data := #[] }) (.slice none 0 0) (.slice none 0 0) 30
    rw [hz1, ← hW2] at this
    exact this
  have HMP := Lib.hid (snapMayPin nm vr ln [] ha hc W2 (.inl rfl) hn (by simp) (by simp))
  rw [hm] at HMP
  have HC := Lib.hid (show ∀ w' : World, Below W2.heap.size W2 w' → w'.cell? ⟨w.heap.size, 0, none⟩ = some (.string nm) ∧ w'.cell? ⟨w.heap.size, 1, none⟩ = some (.int .i64 vr) ∧ w'.cell? ⟨w.heap.size, 2, none⟩ = some (.int .i64 ln) ∧ w'.cell? ⟨w.heap.size, 3, none⟩ = some (.slice ha 0 hc) from fun w' h => by
    have x := (h.block _ (heap_lt hx0)).trans hx0
    exact ⟨box_cell x rfl, box_cell x rfl, box_cell x rfl, box_cell x rfl⟩)
  have HR0 := Lib.hid hr0
  have HB2 := Lib.hid hb2
  have HW := Lib.hid hW2
  have HZ2 := Lib.hid hz2
  have hz2' : w.heap.size < W2.heap.size := by omega
  clear hW2 hb2 hx0 hr0 hz1 hm
  obtain ⟨q0, q1, q2, q3⟩ := HC.out W2 (Below.refl _ _)
  go_enter Tryz.func27, Tryz.ntmps27
  go_upto_region 1 with fail
  rw [← HW.out]
  go_wp2_with fail
  refine HMP.out.mono ?_
  clear HMP q0 q1 q2 q3
  rintro e w1 ⟨rfl, hb1⟩
  have HB1 := Lib.hid hb1
  obtain ⟨q0, q1, q2, q3⟩ := HC.out w1 HB1.out
  clear hb1
  go_wp2_with fail
  refine (pickNumOf vr w1).mono ?_
  rintro e w' ⟨rfl, rfl⟩
  clear q0 q1 q2 q3
  go_upto_region 4 with fail
  obtain ⟨W3, hW3⟩ : ∃ W3, W3 = (w1.alloc (.cells #[.int .u8 2, .int .i64 vr, .string { data := #[] }, .slice none 0 0, .slice none 0 0] 30)).alloc (.cells #[.string { data := #[118, 101, 114, 115, 105, 111, 110] }, .int .u8 2, .int .i64 vr, .string { data := #[] }, .slice none 0 0, .slice none 0 0] 74) := ⟨_, rfl⟩
  have hzz : (w1.alloc (.cells #[.int .u8 2, .int .i64 vr, .string { data := #[] }, .slice none 0 0, .slice none 0 0] 30)).heap.size = w1.heap.size + 1 := by simp
  have hb3 : Below W2.heap.size W2 W3 := by rw [hW3]; exact (HB1.out.alloc HB1.out.size _).alloc (by have := HB1.out.size; simp; omega) _
  have hx3 : W3.heap[w1.heap.size + 1]? = some (.cells (encM (memN verN vr)).toArray 74 (0, 0)) := by
    rw [hW3, ← hzz]; exact heap_alloc_new _ _
  have hM3 := MemsAt.one (W0 := W2.heap.size) (memN verN vr) (numJ vr) w1.heap.size w1.heap.size (by have := HB1.out.size; omega) (by have := HB1.out.size; omega) (by omega) (rep_num W3 w1.heap.size w1.heap.size vr) hx3
  have HB3 := Lib.hid hb3
  have HM3 := Lib.hid hM3
  rw [← hW3]
  have HZ3 := Lib.hid (show w1.heap.size + 1 < W3.heap.size from heap_lt hx3)
  generalize w1.heap.size + 1 = g0 at *
  clear hW3 hzz hb3 hx3 hM3 HB1
  obtain ⟨q0, q1, q2, q3⟩ := HC.out W3 HB3.out
  by_cases hl : ln = -1
  · subst hl
    go_wp2_with fail
    obtain ⟨g, cap, hv, hlt, hH⟩ := HM3.out.holds (by simp)
    obtain ⟨rfl, rfl⟩ : g0 = g ∧ 1 = cap := by simpa using hv
    refine (objV vr g0 1 W3 hH hlt).mono ?_
    clear hv hlt hH q0 q1 q2 q3
    rintro e w5 ⟨an, cn, ai, ci, rfl, hr5, hb5⟩
    have hb25 : Below W2.heap.size W2 w5 := HB3.out.trans (hb5.mono HB3.out.size)
    have hres := below_row hb25 HR0.out (by omega)
    have HRS := Lib.hid hres
    have HR5 := Lib.hid hr5
    have HZ5 := Lib.hid (show w.heap.size ≤ W3.heap.size by have := HB3.out.size; omega)
    have HB5 := Lib.hid (HB2.out.trans (hb25.mono (by omega)))
    have t0 := hres.cell (i := 0) (by decide); have t1 := hres.cell (i := 1) (by decide); have t2 := hres.cell (i := 2) (by decide); have t3 := hres.cell (i := 3) (by decide); have t4 := hres.cell (i := 4) (by decide)
    have s0 := hres.frozen 0; have s1 := hres.frozen 1; have s2 := hres.frozen 2; have s3 := hres.frozen 3; have s4 := hres.frozen 4
    simp only [pick5] at t0 t1 t2 t3 t4
    clear hres hr5 hb5 hb25
    go_wp2
    refine bodyPost_ret (results_row_tmp Tryz.results27 _ _ (w.heap.size + 1) 30 _ (0, 0) _ rfl (row5_heap (set5 _ _ _ _ _ HRS.out)) Tryz.underlying30 rfl (by kernel_rfl) _ rfl) rfl ?_
    have e : pinJ ⟨nm, vr, -1, []⟩ = .mk 5 0 { data := #[] } [verN] [numJ vr] := by simp [pinJ, pinM]
    unfold PinValPost
    rw [e]
    refine ⟨an, cn, ai, ci, rfl, ?_, below5 _ _ _ _ _ HB5.out (by omega)⟩
    exact Rep.carry HZ5.out (show w5.heap.size ≤ _ by simp [World.setCell]) (fun j hj _ => heap5 _ _ _ _ _ (by have := HB2.out.size; have := HB3.out.size; omega)) _ _ HR5.out
  · have hd : (ln != -1) = true := by simpa using hl
    clear hl
    go_upto_region 5 with fail
    obtain ⟨i1, hi1, hy0, hy1, hy2⟩ := info_parts infoMember
    have HOD := Lib.hid (show W3.ownsRow W2.heap.size 74 6 (.slice (some ⟨g0, 0, none⟩) 1 1) 1 (flatM [memN verN vr]) from HM3.out.own)
    have hwz : W2.heap.size ≤ W3.heap.size := HB3.out.size
    go_wp2_with (first | (go_at_call 46; refine (pickNumOf ln _).mono ?_; rintro e w' ⟨rfl, rfl⟩) | (at_builtin; refine wpList_append_lies _ rfl (.tmp 19) (.tmp 24) 70 rfl W2.heap.size 74 i1 _ 6 96 Tryz.underlying70 hi1 hy0 hy1 hy2 rfl (by omega) (.slice (some ⟨g0, 0, none⟩) 1 1) 1 (flatM [memN verN vr]) rfl ((HOD.out.alloc _).alloc _) ⟨W3.heap.size + 1, 0, none⟩ 1 1 (encM (memN lenN ln)) rfl rfl (World.news_of_block (cs := (encM (memN lenN ln)).toArray) (t := 74) (fr := (0, 0)) (heap_2nd W3 _ _)) (encM_one _) (by omega) (by unfold maxLen; omega) (by omega) (by simp; omega) (W3.heap.size + 2) (by simp) ?_; intro g2 cap3 w4 hown4 hgrow4 hat4 hlt4; have HO4 := Lib.hid hown4; have HG4 := Lib.hid hgrow4; have HA4 := Lib.hid hat4; have HB4 := Lib.hid (below_grown ((HB3.out.alloc HB3.out.size (.cells #[.int .u8 2, .int .i64 ln, .string { data := #[] }, .slice none 0 0, .slice none 0 0] 30)).alloc (by simp; omega) (.cells (encM (memN lenN ln)).toArray 74)) (by simp; omega) hgrow4 (fun b hb => (HOD.out.lt b hb).1)); obtain ⟨-, -, -, q3⟩ := HC.out w4 HB4.out; clear hown4 hgrow4 hat4))
    obtain ⟨g, cap, hv, hlt, hH⟩ := holds_own (ms := [memN verN vr, memN lenN ln]) HO4.out (by simp)
    obtain ⟨rfl, rfl⟩ : g2 = g ∧ cap3 = cap := by simpa using hv
    refine (objVL ln vr g2 cap3 w4 hH hlt).mono ?_
    clear hv hlt hH q0 q1 q2 q3 HO4 HG4 HA4
    rintro e w5 ⟨an, cn, ai, ci, rfl, hr5, hb5⟩
    have hb25 : Below W2.heap.size W2 w5 := HB4.out.trans (hb5.mono HB4.out.size)
    have hres := below_row hb25 HR0.out (by omega)
    have HRS := Lib.hid hres
    have HR5 := Lib.hid hr5
    have HZ5 := Lib.hid (show w.heap.size ≤ w4.heap.size by have := HB4.out.size; omega)
    have HB5 := Lib.hid (HB2.out.trans (hb25.mono (by omega)))
    have t0 := hres.cell (i := 0) (by decide); have t1 := hres.cell (i := 1) (by decide); have t2 := hres.cell (i := 2) (by decide); have t3 := hres.cell (i := 3) (by decide); have t4 := hres.cell (i := 4) (by decide)
    have s0 := hres.frozen 0; have s1 := hres.frozen 1; have s2 := hres.frozen 2; have s3 := hres.frozen 3; have s4 := hres.frozen 4
    simp only [pick5] at t0 t1 t2 t3 t4
    clear hres hr5 hb5 hb25
    go_wp2
    refine bodyPost_ret (results_row_tmp Tryz.results27 _ _ (w.heap.size + 1) 30 _ (0, 0) _ rfl (row5_heap (set5 _ _ _ _ _ HRS.out)) Tryz.underlying30 rfl (by kernel_rfl) _ rfl) rfl ?_
    have e : pinJ ⟨nm, vr, ln, []⟩ = .mk 5 0 { data := #[] } [lenN, verN] [numJ ln, numJ vr] := pinJ_len nm vr (by simpa using hd)
    unfold PinValPost
    rw [e]
    refine ⟨an, cn, ai, ci, rfl, ?_, below5 _ _ _ _ _ HB5.out (by omega)⟩
    exact Rep.carry HZ5.out (show w5.heap.size ≤ _ by simp [World.setCell]) (fun j hj _ => heap5 _ _ _ _ _ (by have := HB2.out.size; have := HB4.out.size; omega)) _ _ HR5.out
end Go.Proofs.YtgghgcilpfdbjaaGreatDoor

namespace Go.Proofs.YtgghgcilpfdbjaaGreatDoor
open Go.RowKit

theorem take_eq_snoc {α : Type} {l m : List α} {k : Nat} (h : k < l.length) (h' : k < m.length) (e : l.take k = m.take k) (e2 : l[k] = m[k]) : l.take (k + 1) = m.take (k + 1) := by
  rw [List.take_succ_eq_append_getElem h, List.take_succ_eq_append_getElem h', e, e2]

set_option maxRecDepth 100000 in
set_option maxHeartbeats 2000000 in
theorem refSame (N : Nat) : ∀ (v u : JV) (x y : Value) (lo hi : Nat) (w : World), v.wt ≤ N → u.wt ≤ 4294967296 → N ≤ 4294967296 → hi ≤ w.heap.size → Rep w lo hi v x → Rep w lo hi u y →
    Calls Tryz.prog 19 #[x, y] w fun e w' => e = .returned (.bool (v.sameB u)) ∧ Below w.heap.size w w' := by
  induction N with
  | zero => intro v u x y lo hi w h; have := v.wt_pos; omega
  | succ N ih =>
    intro v u x y lo hi w hN hU hM hhi hR hS
    have IH := Lib.hid ih
    clear ih
    obtain ⟨an, cn, ai, ci, rfl, _, _, h3, h4⟩ := hR.parts
    obtain ⟨an', cn', ai', ci', rfl, _, _, h3', h4'⟩ := hS.parts
    have HEQ := Lib.hid (v.sameB_eq u)
    obtain ⟨b1, b2, b3, b4⟩ := v.wt_bd
    obtain ⟨d1, d2, d3, d4⟩ := u.wt_bd
    have H3 := Lib.hid h3
    have H4 := Lib.hid h4
    have H3' := Lib.hid h3'
    have H4' := Lib.hid h4'
    clear h3 h4 h3' h4' hR hS
    have HB0 := Lib.hid (show Below w.heap.size w ((w.alloc (.cells #[.int .u8 v.kind, .int .i64 v.n, .string v.t, .slice an v.names.length cn, .slice ai v.items.length ci] 30)).alloc (.cells #[.int .u8 u.kind, .int .i64 u.n, .string u.t, .slice an' u.names.length cn', .slice ai' u.items.length ci'] 30)) from ((Below.refl _ _).alloc (Nat.le_refl _) _).alloc (by simp) _)
    by_cases hk : v.kind = u.kind
    case neg =>
      have t1 : (v.kind == u.kind) = false := by simpa using hk
      have t2 : (v.kind != u.kind) = true := by simpa using hk
      rw [decide_eq_false hk] at HEQ
      clear hk
      go_enter Tryz.func19, Tryz.ntmps19
      go_wp2
      go_ret
      exact ⟨by rw [HEQ.out]; rfl, HB0.out⟩
    have t1 : (v.kind != u.kind) = false := by simpa using hk
    have HK := Lib.hid hk
    rw [decide_eq_true hk] at HEQ
    clear hk
    by_cases hn : v.n = u.n
    case neg =>
      have t3 : (v.n != u.n) = true := by simpa using hn
      rw [decide_eq_false hn] at HEQ
      clear hn
      go_enter Tryz.func19, Tryz.ntmps19
      go_wp2
      go_ret
      exact ⟨by rw [HEQ.out]; rfl, HB0.out⟩
    have t2 : (v.n != u.n) = false := by simpa using hn
    rw [decide_eq_true hn] at HEQ
    clear hn
    by_cases ht : v.t = u.t
    case neg =>
      have t3 : (v.t.toList == u.t.toList) = false := beq_eq_false_iff_ne.2 (fun e => ht (ba_ext2 e))
      have t4 : (v.t.toList != u.t.toList) = true := bne_iff_ne.2 (fun e => ht (ba_ext2 e))
      rw [decide_eq_false ht] at HEQ
      clear ht
      go_enter Tryz.func19, Tryz.ntmps19
      go_wp2
      go_ret
      exact ⟨by rw [HEQ.out]; rfl, HB0.out⟩
    have t3 : (v.t.toList == u.t.toList) = true := by rw [ht]; simp
    have t4 : (v.t.toList != u.t.toList) = false := by rw [ht]; simp
    rw [decide_eq_true ht] at HEQ
    clear ht
    by_cases hm : v.names.length = u.names.length
    case neg =>
      have t5 : ((v.names.length : Int) != (u.names.length : Int)) = true := by rw [bne_iff_ne]; omega
      have t6 : (v.names.length != u.names.length) = true := by rw [bne_iff_ne]; omega
      rw [decide_eq_false (fun e : v.names = u.names => hm (by rw [e]))] at HEQ
      clear hm
      go_enter Tryz.func19, Tryz.ntmps19
      go_wp2
      go_ret
      exact ⟨by rw [HEQ.out]; rfl, HB0.out⟩
    by_cases hl : v.items.length = u.items.length
    case neg =>
      have t5 : ((v.items.length : Int) != (u.items.length : Int)) = true := by rw [bne_iff_ne]; omega
      have t6 : (v.items.length != u.items.length) = true := by rw [bne_iff_ne]; omega
      have t7 : ((v.names.length : Int) != (u.names.length : Int)) = false := by rw [bne_eq_false_iff_eq]; omega
      have t8 : (v.names.length != u.names.length) = false := by rw [bne_eq_false_iff_eq]; omega
      rw [decide_eq_false hl] at HEQ
      clear hl hm
      go_enter Tryz.func19, Tryz.ntmps19
      go_wp2
      go_ret
      exact ⟨by rw [HEQ.out]; simp, HB0.out⟩
    rw [decide_eq_true hl] at HEQ
    simp only [Bool.true_and] at HEQ
    rw [← hl, ← hm]
    obtain ⟨ni, hni⟩ : ∃ ni, ni = v.items.length := ⟨_, rfl⟩
    obtain ⟨nn, hnn⟩ : ∃ nn, nn = v.names.length := ⟨_, rfl⟩
    rw [← hni, ← hnn]
    rw [← hni] at b3
    rw [← hnn] at b2
    have HNI := Lib.hid hni
    have HNU := Lib.hid (show u.items.length = ni by rw [hni, hl])
    have HNN := Lib.hid hnn
    have HNM := Lib.hid (show u.names.length = nn by rw [hnn, hm])
    clear hl hni hm hnn HB0
    have hx0 : ((w.alloc (.cells #[.int .u8 v.kind, .int .i64 v.n, .string v.t, .slice an nn cn, .slice ai ni ci] 30)).alloc (.cells #[.int .u8 u.kind, .int .i64 u.n, .string u.t, .slice an' nn cn', .slice ai' ni ci'] 30)).heap[w.heap.size]? = some (.cells #[.int .u8 v.kind, .int .i64 v.n, .string v.t, .slice an nn cn, .slice ai ni ci] 30 (0, 0)) := (Below.heap_alloc _ _ _ (by simp)).trans (heap_alloc_new w _)
    have hy0 : ((w.alloc (.cells #[.int .u8 v.kind, .int .i64 v.n, .string v.t, .slice an nn cn, .slice ai ni ci] 30)).alloc (.cells #[.int .u8 u.kind, .int .i64 u.n, .string u.t, .slice an' nn cn', .slice ai' ni ci'] 30)).heap[w.heap.size + 1]? = some (.cells #[.int .u8 u.kind, .int .i64 u.n, .string u.t, .slice an' nn cn', .slice ai' ni ci'] 30 (0, 0)) := by
      have := heap_alloc_new (w.alloc (.cells #[.int .u8 v.kind, .int .i64 v.n, .string v.t, .slice an nn cn, .slice ai ni ci] 30)) (.cells #[.int .u8 u.kind, .int .i64 u.n, .string u.t, .slice an' nn cn', .slice ai' ni ci'] 30)
      rwa [show (w.alloc (.cells #[.int .u8 v.kind, .int .i64 v.n, .string v.t, .slice an nn cn, .slice ai ni ci] 30)).heap.size = w.heap.size + 1 by simp] at this
    have HB0 := Lib.hid (show Below w.heap.size w ((w.alloc (.cells #[.int .u8 v.kind, .int .i64 v.n, .string v.t, .slice an nn cn, .slice ai ni ci] 30)).alloc (.cells #[.int .u8 u.kind, .int .i64 u.n, .string u.t, .slice an' nn cn', .slice ai' ni ci'] 30)) from ((Below.refl _ _).alloc (Nat.le_refl _) _).alloc (by simp) _)
    have HX0 := Lib.hid hx0
    have HY0 := Lib.hid hy0
    clear hx0 hy0
    -- what each later world gives
    have HW := Lib.hid (show ∀ w' : World, Below (w.heap.size + 2) ((w.alloc (.cells #[.int .u8 v.kind, .int .i64 v.n, .string v.t, .slice an nn cn, .slice ai ni ci] 30)).alloc (.cells #[.int .u8 u.kind, .int .i64 u.n, .string u.t, .slice an' nn cn', .slice ai' ni ci'] 30)) w' →
        Below w.heap.size w w' ∧ w.heap.size + 2 ≤ w'.heap.size ∧ w'.cell? ⟨w.heap.size, 3, none⟩ = some (.slice an nn cn) ∧ w'.cell? ⟨w.heap.size, 4, none⟩ = some (.slice ai ni ci) ∧ w'.cell? ⟨w.heap.size + 1, 3, none⟩ = some (.slice an' nn cn') ∧ w'.cell? ⟨w.heap.size + 1, 4, none⟩ = some (.slice ai' ni ci') from fun w' h => by
      have hx : w'.heap[w.heap.size]? = _ := (h.block _ (by omega)).trans HX0.out
      have hy : w'.heap[w.heap.size + 1]? = _ := (h.block _ (by omega)).trans HY0.out
      exact ⟨HB0.out.trans (h.mono (by omega)), by have := h.size; simpa using this, box_cell hx rfl, box_cell hx rfl, box_cell hy rfl, box_cell hy rfl⟩)
    go_enter Tryz.func19, Tryz.ntmps19
    go_wp2
    clear t1 t2 t3 t4
    go_loopw [5] (fun i wr => ∃ k : Nat, k ≤ nn ∧ i = .int .i64 k ∧ v.names.take k = u.names.take k ∧ Below (w.heap.size + 2) ((w.alloc (.cells #[.int .u8 v.kind, .int .i64 v.n, .string v.t, .slice an nn cn, .slice ai ni ci] 30)).alloc (.cells #[.int .u8 u.kind, .int .i64 u.n, .string u.t, .slice an' nn cn', .slice ai' ni ci'] 30)) wr) (fun i _ => nn - (intOf i).toNat)
    case atStart => exact ⟨0, by omega, rfl, by simp, Below.refl _ _⟩
    case round =>
      obtain ⟨k, hk, rfl, hall, hbel⟩ := hrel
      obtain ⟨hbw, hz, c3, c4, d3', d4'⟩ := HW.out wr hbel
      have HA := Lib.hid hall
      have HB := Lib.hid hbel
      have HBW := Lib.hid hbw
      clear hall hbel hbw
      by_cases hlt : k < nn
      · have hl1 : k < v.names.length := by rw [← HNN.out]; exact hlt
        have hl2 : k < u.names.length := by rw [HNM.out]; exact hlt
        obtain ⟨p, f, rfl, _, _, y1⟩ := (H3.out.below HBW.out hhi (Nat.le_refl _) (Nat.le_refl _)).at k hl1
        obtain ⟨p', f', rfl, _, _, y2⟩ := (H3'.out.below HBW.out hhi (Nat.le_refl _) (Nat.le_refl _)).at k hl2
        have g1 : 0 ≤ (k : Int) := by omega
        have g2 : (k : Int) < (nn : Int) := by omega
        by_cases he : v.names[k] = u.names[k]
        · have HF := Lib.hid (take_eq_snoc hl1 hl2 HA.out he)
          have t1 : (v.names[k].toList == u.names[k].toList) = true := by rw [he]; simp
          have t2 : (v.names[k].toList != u.names[k].toList) = false := by rw [he]; simp
          clear he
          generalize v.names[k] = na at *
          generalize u.names[k] = nb at *
          go_wp2_with fail
          go_quiet (fail)
          go_wp2
          go_roundw
          case rel => exact ⟨k + 1, by omega, by go_num, HF.out, Below.drewN HB.out _⟩
          case measure => simp [intOf]; omega
        · have HF := Lib.hid (show decide (v.names = u.names) = false from decide_eq_false (fun e => he (by simp only [e])))
          have t1 : (v.names[k].toList == u.names[k].toList) = false := beq_eq_false_iff_ne.2 (fun e => he (ba_ext2 e))
          have t2 : (v.names[k].toList != u.names[k].toList) = true := bne_iff_ne.2 (fun e => he (ba_ext2 e))
          clear he
          generalize v.names[k] = na at *
          generalize u.names[k] = nb at *
          go_wp2_with fail
          go_quiet (fail)
          go_wp2
          go_ret
          exact ⟨by rw [HEQ.out, HF.out]; rfl, Below.drewN HBW.out _⟩
      · have HNE := Lib.hid (show v.names = u.names by
          have := HA.out; rwa [List.take_of_length_le (by rw [← HNN.out]; omega), List.take_of_length_le (by rw [HNM.out]; omega)] at this)
        rw [decide_eq_true HNE.out, Bool.true_and] at HEQ
        obtain ⟨k1, rfl⟩ : ∃ k1 : Nat, k1 = k := ⟨_, rfl⟩
        obtain ⟨wa, rfl⟩ : ∃ wa : World, wa = wr := ⟨_, rfl⟩
        go_wp2
        clear c3 c4 d3' d4'
        go_loopw [6] (fun i wr => ∃ k : Nat, k ≤ ni ∧ i = .int .i64 k ∧ JV.sameL (v.items.take k) (u.items.take k) = true ∧ Below (w.heap.size + 2) ((w.alloc (.cells #[.int .u8 v.kind, .int .i64 v.n, .string v.t, .slice an nn cn, .slice ai ni ci] 30)).alloc (.cells #[.int .u8 u.kind, .int .i64 u.n, .string u.t, .slice an' nn cn', .slice ai' ni ci'] 30)) wr) (fun i _ => ni - (intOf i).toNat)
        case atStart => exact ⟨0, by omega, rfl, by simp [JV.sameL], HB.out⟩
        case round =>
          clear HA HB HBW hz
          obtain ⟨k, hk2, rfl, hall, hbel⟩ := hrel
          obtain ⟨hbw, hz, c3, c4, d3', d4'⟩ := HW.out wr hbel
          have HA := Lib.hid hall
          have HB := Lib.hid hbel
          have HBW := Lib.hid hbw
          clear hall hbel hbw c3 d3'
          by_cases hlt2 : k < ni
          · have hltv : k < v.items.length := by rw [← HNI.out]; exact hlt2
            have hltu : k < u.items.length := by rw [HNU.out]; exact hlt2
            obtain ⟨p, f, e0, e1, e2, e3, e4, rfl, _, _, g0, g1, g2, g3, g4, hr⟩ := (H4.out.below HBW.out hhi (Nat.le_refl _) (Nat.le_refl _)).at k hltv
            obtain ⟨p', f', e0', e1', e2', e3', e4', rfl, _, _, g0', g1', g2', g3', g4', hr'⟩ := (H4'.out.below HBW.out hhi (Nat.le_refl _) (Nat.le_refl _)).at k hltu
            have hw1 := JV.wts_get v.items k hltv
            have hw2 := JV.wts_get u.items k hltu
            have HTK := Lib.hid (JV.sameL_take v.items u.items k hltv hltu)
            have HTB := Lib.hid (JV.sameL_bad v.items u.items k hltv hltu)
            have HC := Lib.hid (IH.out v.items[k] u.items[k] _ _ lo hi wr.drew (by omega) (by omega) (by omega) (by show hi ≤ wr.heap.size; omega) (Rep.carry (w := wr) (w' := wr.drew) (Nat.le_refl _) (Nat.le_refl _) (fun _ _ _ => rfl) _ _ hr) (Rep.carry (w := wr) (w' := wr.drew) (Nat.le_refl _) (Nat.le_refl _) (fun _ _ _ => rfl) _ _ hr'))
            clear hr hr'
            generalize v.items[k] = it at *
            generalize u.items[k] = jt at *
            have m1 : 0 ≤ (k : Int) := by omega
            have m2 : (k : Int) < (ni : Int) := by omega
            cases hsb : it.sameB jt
            · have HF := Lib.hid (HTB.out hsb)
              rw [hsb] at HC
              clear hsb
              go_wp2_with fail
              go_still_tail 10, (by kernel_rfl)
              go_wp2_with fail
              refine HC.out.mono ?_
              rintro e w5 ⟨rfl, hb5⟩
              have HB5 := Lib.hid (HBW.out.drew.trans (hb5.mono (by show w.heap.size ≤ wr.heap.size; omega)))
              clear hb5 g0 g1 g2 g3 g4 g0' g1' g2' g3' g4' c4 d4'
              go_wp2
              go_ret
              exact ⟨by rw [HEQ.out, HF.out]; rfl, HB5.out⟩
            · have HF := Lib.hid (show JV.sameL (v.items.take (k + 1)) (u.items.take (k + 1)) = true by rw [HTK.out, HA.out, hsb]; rfl)
              rw [hsb] at HC
              clear hsb
              go_wp2_with fail
              go_still_tail 10, (by kernel_rfl)
              go_wp2_with fail
              refine HC.out.mono ?_
              rintro e w5 ⟨rfl, hb5⟩
              have HB5 := Lib.hid (HB.out.drew.trans (hb5.mono (by show w.heap.size + 2 ≤ wr.heap.size; omega)))
              clear hb5 g0 g1 g2 g3 g4 g0' g1' g2' g3' g4' c4 d4'
              go_wp2
              go_roundw
              case rel => exact ⟨k + 1, by omega, by go_num, HF.out, HB5.out⟩
              case measure => simp [intOf]; omega
          · have HF := Lib.hid (show JV.sameL v.items u.items = true by
              have := HA.out; rwa [List.take_of_length_le (by rw [← HNI.out]; omega), List.take_of_length_le (by rw [HNU.out]; omega)] at this)
            go_wp2
            go_ret
            exact ⟨by rw [HEQ.out, HF.out]; rfl, HBW.out⟩

end Go.Proofs.YtgghgcilpfdbjaaGreatDoor
