/- The contract of snap.PinValue, of a pin that may be, without hashes. The contract of legateref08.Same: equal in all parts. Plain: hashes, pins and snapshots that may be: their parts, and how much their objects hold. No program in sight. The contracts of legateref11.NumOf, TextOf. Plain: the reference's rule of values (part, Count, Depth) is the program's. The hashes of an object, plain: which they are, or why there are none. No program in sight. What pin an object is, hashes and all, plain. No program in sight. The contract of record.HashesOf. The contracts of a picker's Num, Has, Object, Fail where the value is no object. -/
import Derived.Test.YtgghgcilpfdbjaaGreatDoorSe16
import Derived.Test.YtgghgcilpfdbjaaGreatDoorSe09
import Derived.Outline
import Derived.OwnWalk
import Derived.Test.YtgghgcilpfdbjaaGreatDoorSe02
import Derived.Test.YtgghgcilpfdbjaaGreatDoorSe15
import Derived.Test.YtgghgcilpfdbjaaGreatDoorSe00
import Derived.StillTailTactics
import Derived.Test.YtgghgcilpfdbjaaGreatDoorSe14
import Derived.Test.YtgghgcilpfdbjaaGreatDoorSe04
import Derived.Test.YtgghgcilpfdbjaaGreatDoorSe08
import Derived.Test.YtgghgcilpfdbjaaGreatDoorSe06
import Derived.Test.YtgghgcilpfdbjaaGreatDoorSe01

namespace Go.Proofs.YtgghgcilpfdbjaaGreatDoor
open Go.RowKit Go.Shelf Go.Sort

theorem ins_two (a b : Mem) (h : ltOf cfM b a = true) : insertionSort (ltOf cfM) #[a, b] 0 2 = #[b, a] := by
  unfold insertionSort insOuter
  rw [if_pos (by decide)]
  unfold insOuter
  rw [if_neg (by decide)]
  unfold insInner
  have e : (decide (0 + 1 > 0) && ltOf cfM #[a, b][0 + 1]! #[a, b][0]!) = true := by simpa using h
  rw [if_pos e]
  unfold insInner
  rfl
theorem objVL (ln vr : Int) (blk cap : Nat) (w : World) (hH : HoldsK encM 6 w blk 0 #[memN verN vr, memN lenN ln]) (hb : blk < w.heap.size) :
    Calls Tryz.prog 42 #[.slice (some ⟨blk, 0, none⟩) 2 cap] w (ObjPost [lenN, verN] [numJ ln, numJ vr] w) := by
  refine pickObjectOf #[memN verN vr, memN lenN ln] #[memN lenN ln, memN verN vr] [numJ ln, numJ vr] blk 0 cap w 0 0 hH hb (by simp) ?_ rfl ?_ ?_ (by omega)
  · refine ins_two _ _ ?_
    show decide (Lib.compareBytes lenN.data.toList verN.data.toList < 0) = true
    decide
  · intro i hi
    match i, hi with
    | 0, _ => exact ⟨rep_num _ _ _ _, by simp [numJ, JV.wt, JV.wts, bytesSum, ByteArray.size], fun k h => by simp [numJ, JV.items] at h⟩
    | 1, _ => exact ⟨rep_num _ _ _ _, by simp [numJ, JV.wt, JV.wts, bytesSum, ByteArray.size], fun k h => by simp [numJ, JV.items] at h⟩
  · intro i hi
    obtain rfl : i = 0 := by simp at hi; omega
    show lenN ≠ verN
    decide
theorem objV (vr : Int) (blk cap : Nat) (w : World) (hH : HoldsK encM 6 w blk 0 #[memN verN vr]) (hb : blk < w.heap.size) :
    Calls Tryz.prog 42 #[.slice (some ⟨blk, 0, none⟩) 1 cap] w (ObjPost [verN] [numJ vr] w) := by
  refine pickObjectOf #[memN verN vr] #[memN verN vr] [numJ vr] blk 0 cap w 0 0 hH hb (by simp) ?_ rfl ?_ ?_ (by omega)
  · exact ins_sorted _ _ _ fun j hj => by simp at hj
  · intro i hi
    match i, hi with
    | 0, _ => exact ⟨rep_num _ _ _ _, by simp [numJ, JV.wt, JV.wts, bytesSum, ByteArray.size], fun k h => by simp [numJ, JV.items] at h⟩
  · intro i hi; simp at hi

theorem pinJ_len (nm : ByteArray) (vr : Int) {ln : Int} (h : ¬ ln = -1) : pinJ ⟨nm, vr, ln, []⟩ = .mk 5 0 { data := #[] } [lenN, verN] [numJ ln, numJ vr] := by simp [pinJ, pinM, h]
def PinValPost (p : PinV) (w : World) (e : Ending) (w' : World) : Prop :=
  ∃ an cn ai ci, e = .returned (.tuple #[.agg #[.int .u8 5, .int .i64 0, .string { data := #[] }, .slice an (pinJ p).names.length cn, .slice ai (pinJ p).items.length ci], .int .i64 0]) ∧
    Rep w' w.heap.size w'.heap.size (pinJ p) (.agg #[.int .u8 5, .int .i64 0, .string { data := #[] }, .slice an (pinJ p).names.length cn, .slice ai (pinJ p).items.length ci]) ∧ Below w.heap.size w w'

set_option maxHeartbeats 4000000 in
set_option maxRecDepth 100000 in
theorem snapPinValue (nm : ByteArray) (vr ln : Int) (ha : Option Addr) (hc : Nat) (w : World) (hn : nm.size ≤ 9223372036854775807) (hm : mayPin ⟨nm, vr, ln, []⟩ = true) :
    Calls Tryz.prog 27 #[.agg #[.string nm, .int .i64 vr, .int .i64 ln, .slice ha 0 hc]] w (PinValPost ⟨nm, vr, ln, []⟩ w) := by
  obtain ⟨W2, hW2⟩ : ∃ W2, W2 = (w.alloc (.cells #[.string nm, .int .i64 vr, .int .i64 ln, .slice ha 0 hc] 36)).alloc (.cells #[.int .u8 0, .int .i64 0, .string { data := #[] }, .slice none 0 0, .slice none 0 0] 30) := ⟨_, rfl⟩
  have hz1 : (w.alloc (.cells #[.string nm, .int .i64 vr, .int .i64 ln, .slice ha 0 hc] 36)).heap.size = w.heap.size + 1 := by simp
  have hz2 : W2.heap.size = w.heap.size + 2 := by rw [hW2]; simp
  have hb2 : Below w.heap.size w W2 := by rw [hW2]; exact ((Below.refl _ _).alloc (Nat.le_refl _) _).alloc (by simp) _
  have hx0 : W2.heap[w.heap.size]? = some (.cells #[.string nm, .int .i64 vr, .int .i64 ln, .slice ha 0 hc] 36 (0, 0)) := by rw [hW2, Below.heap_alloc _ _ _ (by simp)]; exact heap_alloc_new w _
  have hr0 : W2.rowIs (w.heap.size + 1) 30 5 (pick5 (.int .u8 0) (.int .i64 0) (.string { data := #[] }) (.slice none 0 0) (.slice none 0 0)) := by
    have := rowIs_box5 (w.alloc (.cells #[.string nm, .int .i64 vr, .int .i64 ln, .slice ha 0 hc] 36)) (.int .u8 0) (.int .i64 0) (.string { data := #[] }) (.slice none 0 0) (.slice none 0 0) 30
    rw [hz1, ← hW2] at this
    exact this
  have HMP := Lib.hid (snapMayPin nm vr ln [] ha hc W2 (.inl rfl) hn (by simp) (by simp))
  rw [hm] at HMP
  have HC := Lib.hid (show ∀ w' : World, Below W2.heap.size W2 w' → w'.cell? ⟨w.heap.size, 0, none⟩ = some (.string nm) ∧ w'.cell? ⟨w.heap.size, 1, none⟩ = some (.int .i64 vr) ∧ w'.cell? ⟨w.heap.size, 2, none⟩ = some (.int .i64 ln) ∧ w'.cell? ⟨w.heap.size, 3, none⟩ = some (.slice ha 0 hc) from fun w' h => by
    have x := (h.block _ (heap_lt hx0)).trans hx0
    exact ⟨box_cell x rfl, box_cell x rfl, box_cell x rfl, box_cell x rfl⟩)
  have HR0 := Lib.hid hr0
  have HB2 := Lib.hid hb2
  have HW := Lib.hid hW2
  have HZ2 := Lib.hid hz2
  have hz2' : w.heap.size < W2.heap.size := by omega
  clear hW2 hb2 hx0 hr0 hz1 hm
  obtain ⟨q0, q1, q2, q3⟩ := HC.out W2 (Below.refl _ _)
  go_enter Tryz.func27, Tryz.ntmps27
  go_upto_region 1 with fail
  rw [← HW.out]
  go_wp2_with fail
  refine HMP.out.mono ?_
  clear HMP q0 q1 q2 q3
  rintro e w1 ⟨rfl, hb1⟩
  have HB1 := Lib.hid hb1
  obtain ⟨q0, q1, q2, q3⟩ := HC.out w1 HB1.out
  clear hb1
  go_wp2_with fail
  refine (pickNumOf vr w1).mono ?_
  rintro e w' ⟨rfl, rfl⟩
  clear q0 q1 q2 q3
  go_upto_region 4 with fail
  obtain ⟨W3, hW3⟩ : ∃ W3, W3 = (w1.alloc (.cells #[.int .u8 2, .int .i64 vr, .string { data := #[] }, .slice none 0 0, .slice none 0 0] 30)).alloc (.cells #[.string { data := #[118, 101, 114, 115, 105, 111, 110] }, .int .u8 2, .int .i64 vr, .string { data := #[] }, .slice none 0 0, .slice none 0 0] 74) := ⟨_, rfl⟩
  have hzz : (w1.alloc (.cells #[.int .u8 2, .int .i64 vr, .string { data := #[] }, .slice none 0 0, .slice none 0 0] 30)).heap.size = w1.heap.size + 1 := by simp
  have hb3 : Below W2.heap.size W2 W3 := by rw [hW3]; exact (HB1.out.alloc HB1.out.size _).alloc (by have := HB1.out.size; simp; omega) _
  have hx3 : W3.heap[w1.heap.size + 1]? = some (.cells (encM (memN verN vr)).toArray 74 (0, 0)) := by
    rw [hW3, ← hzz]; exact heap_alloc_new _ _
  have hM3 := MemsAt.one (W0 := W2.heap.size) (memN verN vr) (numJ vr) w1.heap.size w1.heap.size (by have := HB1.out.size; omega) (by have := HB1.out.size; omega) (by omega) (rep_num W3 w1.heap.size w1.heap.size vr) hx3
  have HB3 := Lib.hid hb3
  have HM3 := Lib.hid hM3
  rw [← hW3]
  have HZ3 := Lib.hid (show w1.heap.size + 1 < W3.heap.size from heap_lt hx3)
  generalize w1.heap.size + 1 = g0 at *
  clear hW3 hzz hb3 hx3 hM3 HB1
  obtain ⟨q0, q1, q2, q3⟩ := HC.out W3 HB3.out
  by_cases hl : ln = -1
  · subst hl
    go_wp2_with fail
    obtain ⟨g, cap, hv, hlt, hH⟩ := HM3.out.holds (by simp)
    obtain ⟨rfl, rfl⟩ : g0 = g ∧ 1 = cap := by simpa using hv
    refine (objV vr g0 1 W3 hH hlt).mono ?_
    clear hv hlt hH q0 q1 q2 q3
    rintro e w5 ⟨an, cn, ai, ci, rfl, hr5, hb5⟩
    have hb25 : Below W2.heap.size W2 w5 := HB3.out.trans (hb5.mono HB3.out.size)
    have hres := below_row hb25 HR0.out (by omega)
    have HRS := Lib.hid hres
    have HR5 := Lib.hid hr5
    have HZ5 := Lib.hid (show w.heap.size ≤ W3.heap.size by have := HB3.out.size; omega)
    have HB5 := Lib.hid (HB2.out.trans (hb25.mono (by omega)))
    have t0 := hres.cell (i := 0) (by decide); have t1 := hres.cell (i := 1) (by decide); have t2 := hres.cell (i := 2) (by decide); have t3 := hres.cell (i := 3) (by decide); have t4 := hres.cell (i := 4) (by decide)
    have s0 := hres.frozen 0; have s1 := hres.frozen 1; have s2 := hres.frozen 2; have s3 := hres.frozen 3; have s4 := hres.frozen 4
    simp only [pick5] at t0 t1 t2 t3 t4
    clear hres hr5 hb5 hb25
    go_wp2
    refine bodyPost_ret (results_row_tmp Tryz.results27 _ _ (w.heap.size + 1) 30 _ (0, 0) _ rfl (row5_heap (set5 _ _ _ _ _ HRS.out)) Tryz.underlying30 rfl (by kernel_rfl) _ rfl) rfl ?_
    have e : pinJ ⟨nm, vr, -1, []⟩ = .mk 5 0 { data := #[] } [verN] [numJ vr] := by simp [pinJ, pinM]
    unfold PinValPost
    rw [e]
    refine ⟨an, cn, ai, ci, rfl, ?_, below5 _ _ _ _ _ HB5.out (by omega)⟩
    exact Rep.carry HZ5.out (show w5.heap.size ≤ _ by simp [World.setCell]) (fun j hj _ => heap5 _ _ _ _ _ (by have := HB2.out.size; have := HB3.out.size; omega)) _ _ HR5.out
  · have hd : (ln != -1) = true := by simpa using hl
    clear hl
    go_upto_region 5 with fail
    obtain ⟨i1, hi1, hy0, hy1, hy2⟩ := info_parts infoMember
    have HOD := Lib.hid (show W3.ownsRow W2.heap.size 74 6 (.slice (some ⟨g0, 0, none⟩) 1 1) 1 (flatM [memN verN vr]) from HM3.out.own)
    have hwz : W2.heap.size ≤ W3.heap.size := HB3.out.size
    go_wp2_with (first | (go_at_call 46; refine (pickNumOf ln _).mono ?_; rintro e w' ⟨rfl, rfl⟩) | (at_builtin; refine wpList_append_lies _ rfl (.tmp 19) (.tmp 24) 70 rfl W2.heap.size 74 i1 _ 6 96 Tryz.underlying70 hi1 hy0 hy1 hy2 rfl (by omega) (.slice (some ⟨g0, 0, none⟩) 1 1) 1 (flatM [memN verN vr]) rfl ((HOD.out.alloc _).alloc _) ⟨W3.heap.size + 1, 0, none⟩ 1 1 (encM (memN lenN ln)) rfl rfl (World.news_of_block (cs := (encM (memN lenN ln)).toArray) (t := 74) (fr := (0, 0)) (heap_2nd W3 _ _)) (encM_one _) (by omega) (by unfold maxLen; omega) (by omega) (by simp; omega) (W3.heap.size + 2) (by simp) ?_; intro g2 cap3 w4 hown4 hgrow4 hat4 hlt4; have HO4 := Lib.hid hown4; have HG4 := Lib.hid hgrow4; have HA4 := Lib.hid hat4; have HB4 := Lib.hid (below_grown ((HB3.out.alloc HB3.out.size (.cells #[.int .u8 2, .int .i64 ln, .string { data := #[] }, .slice none 0 0, .slice none 0 0] 30)).alloc (by simp; omega) (.cells (encM (memN lenN ln)).toArray 74)) (by simp; omega) hgrow4 (fun b hb => (HOD.out.lt b hb).1)); obtain ⟨-, -, -, q3⟩ := HC.out w4 HB4.out; clear hown4 hgrow4 hat4))
    obtain ⟨g, cap, hv, hlt, hH⟩ := holds_own (ms := [memN verN vr, memN lenN ln]) HO4.out (by simp)
    obtain ⟨rfl, rfl⟩ : g2 = g ∧ cap3 = cap := by simpa using hv
    refine (objVL ln vr g2 cap3 w4 hH hlt).mono ?_
    clear hv hlt hH q0 q1 q2 q3 HO4 HG4 HA4
    rintro e w5 ⟨an, cn, ai, ci, rfl, hr5, hb5⟩
    have hb25 : Below W2.heap.size W2 w5 := HB4.out.trans (hb5.mono HB4.out.size)
    have hres := below_row hb25 HR0.out (by omega)
    have HRS := Lib.hid hres
    have HR5 := Lib.hid hr5
    have HZ5 := Lib.hid (show w.heap.size ≤ w4.heap.size by have := HB4.out.size; omega)
    have HB5 := Lib.hid (HB2.out.trans (hb25.mono (by omega)))
    have t0 := hres.cell (i := 0) (by decide); have t1 := hres.cell (i := 1) (by decide); have t2 := hres.cell (i := 2) (by decide); have t3 := hres.cell (i := 3) (by decide); have t4 := hres.cell (i := 4) (by decide)
    have s0 := hres.frozen 0; have s1 := hres.frozen 1; have s2 := hres.frozen 2; have s3 := hres.frozen 3; have s4 := hres.frozen 4
    simp only [pick5] at t0 t1 t2 t3 t4
    clear hres hr5 hb5 hb25
    go_wp2
    refine bodyPost_ret (results_row_tmp Tryz.results27 _ _ (w.heap.size + 1) 30 _ (0, 0) _ rfl (row5_heap (set5 _ _ _ _ _ HRS.out)) Tryz.underlying30 rfl (by kernel_rfl) _ rfl) rfl ?_
    have e : pinJ ⟨nm, vr, ln, []⟩ = .mk 5 0 { data := #[] } [lenN, verN] [numJ ln, numJ vr] := pinJ_len nm vr (by simpa using hd)
    unfold PinValPost
    rw [e]
    refine ⟨an, cn, ai, ci, rfl, ?_, below5 _ _ _ _ _ HB5.out (by omega)⟩
    exact Rep.carry HZ5.out (show w5.heap.size ≤ _ by simp [World.setCell]) (fun j hj _ => heap5 _ _ _ _ _ (by have := HB2.out.size; have := HB4.out.size; omega)) _ _ HR5.out
end Go.Proofs.YtgghgcilpfdbjaaGreatDoor

namespace Go.Proofs.YtgghgcilpfdbjaaGreatDoor
open Go.RowKit

theorem take_eq_snoc {α : Type} {l m : List α} {k : Nat} (h : k < l.length) (h' : k < m.length) (e : l.take k = m.take k) (e2 : l[k] = m[k]) : l.take (k + 1) = m.take (k + 1) := by
  rw [List.take_succ_eq_append_getElem h, List.take_succ_eq_append_getElem h', e, e2]

set_option maxRecDepth 100000 in
set_option maxHeartbeats 2000000 in
theorem refSame (N : Nat) : ∀ (v u : JV) (x y : Value) (lo hi : Nat) (w : World), v.wt ≤ N → u.wt ≤ 4294967296 → N ≤ 4294967296 → hi ≤ w.heap.size → Rep w lo hi v x → Rep w lo hi u y →
    Calls Tryz.prog 19 #[x, y] w fun e w' => e = .returned (.bool (v.sameB u)) ∧ Below w.heap.size w w' := by
  induction N with
  | zero => intro v u x y lo hi w h; have := v.wt_pos; omega
  | succ N ih =>
    intro v u x y lo hi w hN hU hM hhi hR hS
    have IH := Lib.hid ih
    clear ih
    obtain ⟨an, cn, ai, ci, rfl, _, _, h3, h4⟩ := hR.parts
    obtain ⟨an', cn', ai', ci', rfl, _, _, h3', h4'⟩ := hS.parts
    have HEQ := Lib.hid (v.sameB_eq u)
    obtain ⟨b1, b2, b3, b4⟩ := v.wt_bd
    obtain ⟨d1, d2, d3, d4⟩ := u.wt_bd
    have H3 := Lib.hid h3
    have H4 := Lib.hid h4
    have H3' := Lib.hid h3'
    have H4' := Lib.hid h4'
    clear h3 h4 h3' h4' hR hS
    have HB0 := Lib.hid (show Below w.heap.size w ((w.alloc (.cells #[.int .u8 v.kind, .int .i64 v.n, .string v.t, .slice an v.names.length cn, .slice ai v.items.length ci] 30)).alloc (.cells #[.int .u8 u.kind, .int .i64 u.n, .string u.t, .slice an' u.names.length cn', .slice ai' u.items.length ci'] 30)) from ((Below.refl _ _).alloc (Nat.le_refl _) _).alloc (by simp) _)
    by_cases hk : v.kind = u.kind
    case neg =>
      have t1 : (v.kind == u.kind) = false := by simpa using hk
      have t2 : (v.kind != u.kind) = true := by simpa using hk
      rw [decide_eq_false hk] at HEQ
      clear hk
      go_enter Tryz.func19, Tryz.ntmps19
      go_wp2
      go_ret
      exact ⟨by rw [HEQ.out]; rfl, HB0.out⟩
    have t1 : (v.kind != u.kind) = false := by simpa using hk
    have HK := Lib.hid hk
    rw [decide_eq_true hk] at HEQ
    clear hk
    by_cases hn : v.n = u.n
    case neg =>
      have t3 : (v.n != u.n) = true := by simpa using hn
      rw [decide_eq_false hn] at HEQ
      clear hn
      go_enter Tryz.func19, Tryz.ntmps19
      go_wp2
      go_ret
      exact ⟨by rw [HEQ.out]; rfl, HB0.out⟩
    have t2 : (v.n != u.n) = false := by simpa using hn
    rw [decide_eq_true hn] at HEQ
    clear hn
    by_cases ht : v.t = u.t
    case neg =>
      have t3 : (v.t.toList == u.t.toList) = false := beq_eq_false_iff_ne.2 (fun e => ht (ba_ext2 e))
      have t4 : (v.t.toList != u.t.toList) = true := bne_iff_ne.2 (fun e => ht (ba_ext2 e))
      rw [decide_eq_false ht] at HEQ
      clear ht
      go_enter Tryz.func19, Tryz.ntmps19
      go_wp2
      go_ret
      exact ⟨by rw [HEQ.out]; rfl, HB0.out⟩
    have t3 : (v.t.toList == u.t.toList) = true := by rw [ht]; simp
    have t4 : (v.t.toList != u.t.toList) = false := by rw [ht]; simp
    rw [decide_eq_true ht] at HEQ
    clear ht
    by_cases hm : v.names.length = u.names.length
    case neg =>
      have t5 : ((v.names.length : Int) != (u.names.length : Int)) = true := by rw [bne_iff_ne]; omega
      have t6 : (v.names.length != u.names.length) = true := by rw [bne_iff_ne]; omega
      rw [decide_eq_false (fun e : v.names = u.names => hm (by rw [e]))] at HEQ
      clear hm
      go_enter Tryz.func19, Tryz.ntmps19
      go_wp2
      go_ret
      exact ⟨by rw [HEQ.out]; rfl, HB0.out⟩
    by_cases hl : v.items.length = u.items.length
    case neg =>
      have t5 : ((v.items.length : Int) != (u.items.length : Int)) = true := by rw [bne_iff_ne]; omega
      have t6 : (v.items.length != u.items.length) = true := by rw [bne_iff_ne]; omega
      have t7 : ((v.names.length : Int) != (u.names.length : Int)) = false := by rw [bne_eq_false_iff_eq]; omega
      have t8 : (v.names.length != u.names.length) = false := by rw [bne_eq_false_iff_eq]; omega
      rw [decide_eq_false hl] at HEQ
      clear hl hm
      go_enter Tryz.func19, Tryz.ntmps19
      go_wp2
      go_ret
      exact ⟨by rw [HEQ.out]; simp, HB0.out⟩
    rw [decide_eq_true hl] at HEQ
    simp only [Bool.true_and] at HEQ
    rw [← hl, ← hm]
    obtain ⟨ni, hni⟩ : ∃ ni, ni = v.items.length := ⟨_, rfl⟩
    obtain ⟨nn, hnn⟩ : ∃ nn, nn = v.names.length := ⟨_, rfl⟩
    rw [← hni, ← hnn]
    rw [← hni] at b3
    rw [← hnn] at b2
    have HNI := Lib.hid hni
    have HNU := Lib.hid (show u.items.length = ni by rw [hni, hl])
    have HNN := Lib.hid hnn
    have HNM := Lib.hid (show u.names.length = nn by rw [hnn, hm])
    clear hl hni hm hnn HB0
    have hx0 : ((w.alloc (.cells #[.int .u8 v.kind, .int .i64 v.n, .string v.t, .slice an nn cn, .slice ai ni ci] 30)).alloc (.cells #[.int .u8 u.kind, .int .i64 u.n, .string u.t, .slice an' nn cn', .slice ai' ni ci'] 30)).heap[w.heap.size]? = some (.cells #[.int .u8 v.kind, .int .i64 v.n, .string v.t, .slice an nn cn, .slice ai ni ci] 30 (0, 0)) := (Below.heap_alloc _ _ _ (by simp)).trans (heap_alloc_new w _)
    have hy0 : ((w.alloc (.cells #[.int .u8 v.kind, .int .i64 v.n, .string v.t, .slice an nn cn, .slice ai ni ci] 30)).alloc (.cells #[.int .u8 u.kind, .int .i64 u.n, .string u.t, .slice an' nn cn', .slice ai' ni ci'] 30)).heap[w.heap.size + 1]? = some (.cells #[.int .u8 u.kind, .int .i64 u.n, .string u.t, .slice an' nn cn', .slice ai' ni ci'] 30 (0, 0)) := by
      have := heap_alloc_new (w.alloc (.cells #[.int .u8 v.kind, .int .i64 v.n, .string v.t, .slice an nn cn, .slice ai ni ci] 30)) (.cells #[.int .u8 u.kind, .int .i64 u.n, .string u.t, .slice an' nn cn', .slice ai' ni ci'] 30)
      rwa [show (w.alloc (.cells #[.int .u8 v.kind, .int .i64 v.n, .string v.t, .slice an nn cn, .slice ai ni ci] 30)).heap.size = w.heap.size + 1 by simp] at this
    have HB0 := Lib.hid (show Below w.heap.size w ((w.alloc (.cells #[.int .u8 v.kind, .int .i64 v.n, .string v.t, .slice an nn cn, .slice ai ni ci] 30)).alloc (.cells #[.int .u8 u.kind, .int .i64 u.n, .string u.t, .slice an' nn cn', .slice ai' ni ci'] 30)) from ((Below.refl _ _).alloc (Nat.le_refl _) _).alloc (by simp) _)
    have HX0 := Lib.hid hx0
    have HY0 := Lib.hid hy0
    clear hx0 hy0
    -- what each later world gives
    have HW := Lib.hid (show ∀ w' : World, Below (w.heap.size + 2) ((w.alloc (.cells #[.int .u8 v.kind, .int .i64 v.n, .string v.t, .slice an nn cn, .slice ai ni ci] 30)).alloc (.cells #[.int .u8 u.kind, .int .i64 u.n, .string u.t, .slice an' nn cn', .slice ai' ni ci'] 30)) w' →
        Below w.heap.size w w' ∧ w.heap.size + 2 ≤ w'.heap.size ∧ w'.cell? ⟨w.heap.size, 3, none⟩ = some (.slice an nn cn) ∧ w'.cell? ⟨w.heap.size, 4, none⟩ = some (.slice ai ni ci) ∧ w'.cell? ⟨w.heap.size + 1, 3, none⟩ = some (.slice an' nn cn') ∧ w'.cell? ⟨w.heap.size + 1, 4, none⟩ = some (.slice ai' ni ci') from fun w' h => by
      have hx : w'.heap[w.heap.size]? = _ := (h.block _ (by omega)).trans HX0.out
      have hy : w'.heap[w.heap.size + 1]? = _ := (h.block _ (by omega)).trans HY0.out
      exact ⟨HB0.out.trans (h.mono (by omega)), by have := h.size; simpa using this, box_cell hx rfl, box_cell hx rfl, box_cell hy rfl, box_cell hy rfl⟩)
    go_enter Tryz.func19, Tryz.ntmps19
    go_wp2
    clear t1 t2 t3 t4
    go_loopw [5] (fun i wr => ∃ k : Nat, k ≤ nn ∧ i = .int .i64 k ∧ v.names.take k = u.names.take k ∧ Below (w.heap.size + 2) ((w.alloc (.cells #[.int .u8 v.kind, .int .i64 v.n, .string v.t, .slice an nn cn, .slice ai ni ci] 30)).alloc (.cells #[.int .u8 u.kind, .int .i64 u.n, .string u.t, .slice an' nn cn', .slice ai' ni ci'] 30)) wr) (fun i _ => nn - (intOf i).toNat)
    case atStart => exact ⟨0, by omega, rfl, by simp, Below.refl _ _⟩
    case round =>
      obtain ⟨k, hk, rfl, hall, hbel⟩ := hrel
      obtain ⟨hbw, hz, c3, c4, d3', d4'⟩ := HW.out wr hbel
      have HA := Lib.hid hall
      have HB := Lib.hid hbel
      have HBW := Lib.hid hbw
      clear hall hbel hbw
      by_cases hlt : k < nn
      · have hl1 : k < v.names.length := by rw [← HNN.out]; exact hlt
        have hl2 : k < u.names.length := by rw [HNM.out]; exact hlt
        obtain ⟨p, f, rfl, _, _, y1⟩ := (H3.out.below HBW.out hhi (Nat.le_refl _) (Nat.le_refl _)).at k hl1
        obtain ⟨p', f', rfl, _, _, y2⟩ := (H3'.out.below HBW.out hhi (Nat.le_refl _) (Nat.le_refl _)).at k hl2
        have g1 : 0 ≤ (k : Int) := by omega
        have g2 : (k : Int) < (nn : Int) := by omega
        by_cases he : v.names[k] = u.names[k]
        · have HF := Lib.hid (take_eq_snoc hl1 hl2 HA.out he)
          have t1 : (v.names[k].toList == u.names[k].toList) = true := by rw [he]; simp
          have t2 : (v.names[k].toList != u.names[k].toList) = false := by rw [he]; simp
          clear he
          generalize v.names[k] = na at *
          generalize u.names[k] = nb at *
          go_wp2_with fail
          go_quiet (fail)
          go_wp2
          go_roundw
          case rel => exact ⟨k + 1, by omega, by go_num, HF.out, Below.drewN HB.out _⟩
          case measure => simp [intOf]; omega
        · have HF := Lib.hid (show decide (v.names = u.names) = false from decide_eq_false (fun e => he (by simp only [e])))
          have t1 : (v.names[k].toList == u.names[k].toList) = false := beq_eq_false_iff_ne.2 (fun e => he (ba_ext2 e))
          have t2 : (v.names[k].toList != u.names[k].toList) = true := bne_iff_ne.2 (fun e => he (ba_ext2 e))
          clear he
          generalize v.names[k] = na at *
          generalize u.names[k] = nb at *
          go_wp2_with fail
          go_quiet (fail)
          go_wp2
          go_ret
          exact ⟨by rw [HEQ.out, HF.out]; rfl, Below.drewN HBW.out _⟩
      · have HNE := Lib.hid (show v.names = u.names by
          have := HA.out; rwa [List.take_of_length_le (by rw [← HNN.out]; omega), List.take_of_length_le (by rw [HNM.out]; omega)] at this)
        rw [decide_eq_true HNE.out, Bool.true_and] at HEQ
        obtain ⟨k1, rfl⟩ : ∃ k1 : Nat, k1 = k := ⟨_, rfl⟩
        obtain ⟨wa, rfl⟩ : ∃ wa : World, wa = wr := ⟨_, rfl⟩
        go_wp2
        clear c3 c4 d3' d4'
        go_loopw [6] (fun i wr => ∃ k : Nat, k ≤ ni ∧ i = .int .i64 k ∧ JV.sameL (v.items.take k) (u.items.take k) = true ∧ Below (w.heap.size + 2) ((w.alloc (.cells #[.int .u8 v.kind, .int .i64 v.n, .string v.t, .slice an nn cn, .slice ai ni ci] 30)).alloc (.cells #[.int .u8 u.kind, .int .i64 u.n, .string u.t, .slice an' nn cn', .slice ai' ni ci'] 30)) wr) (fun i _ => ni - (intOf i).toNat)
        case atStart => exact ⟨0, by omega, rfl, by simp [JV.sameL], HB.out⟩
        case round =>
          clear HA HB HBW hz
          obtain ⟨k, hk2, rfl, hall, hbel⟩ := hrel
          obtain ⟨hbw, hz, c3, c4, d3', d4'⟩ := HW.out wr hbel
          have HA := Lib.hid hall
          have HB := Lib.hid hbel
          have HBW := Lib.hid hbw
          clear hall hbel hbw c3 d3'
          by_cases hlt2 : k < ni
          · have hltv : k < v.items.length := by rw [← HNI.out]; exact hlt2
            have hltu : k < u.items.length := by rw [HNU.out]; exact hlt2
            obtain ⟨p, f, e0, e1, e2, e3, e4, rfl, _, _, g0, g1, g2, g3, g4, hr⟩ := (H4.out.below HBW.out hhi (Nat.le_refl _) (Nat.le_refl _)).at k hltv
            obtain ⟨p', f', e0', e1', e2', e3', e4', rfl, _, _, g0', g1', g2', g3', g4', hr'⟩ := (H4'.out.below HBW.out hhi (Nat.le_refl _) (Nat.le_refl _)).at k hltu
            have hw1 := JV.wts_get v.items k hltv
            have hw2 := JV.wts_get u.items k hltu
            have HTK := Lib.hid (JV.sameL_take v.items u.items k hltv hltu)
            have HTB := Lib.hid (JV.sameL_bad v.items u.items k hltv hltu)
            have HC := Lib.hid (IH.out v.items[k] u.items[k] _ _ lo hi wr.drew (by omega) (by omega) (by omega) (by show hi ≤ wr.heap.size; omega) (Rep.carry (w := wr) (w' := wr.drew) (Nat.le_refl _) (Nat.le_refl _) (fun _ _ _ => rfl) _ _ hr) (Rep.carry (w := wr) (w' := wr.drew) (Nat.le_refl _) (Nat.le_refl _) (fun _ _ _ => rfl) _ _ hr'))
            clear hr hr'
            generalize v.items[k] = it at *
            generalize u.items[k] = jt at *
            have m1 : 0 ≤ (k : Int) := by omega
            have m2 : (k : Int) < (ni : Int) := by omega
            cases hsb : it.sameB jt
            · have HF := Lib.hid (HTB.out hsb)
              rw [hsb] at HC
              clear hsb
              go_wp2_with fail
              go_still_tail 10, (by kernel_rfl)
              go_wp2_with fail
              refine HC.out.mono ?_
              rintro e w5 ⟨rfl, hb5⟩
              have HB5 := Lib.hid (HBW.out.drew.trans (hb5.mono (by show w.heap.size ≤ wr.heap.size; omega)))
              clear hb5 g0 g1 g2 g3 g4 g0' g1' g2' g3' g4' c4 d4'
              go_wp2
              go_ret
              exact ⟨by rw [HEQ.out, HF.out]; rfl, HB5.out⟩
            · have HF := Lib.hid (show JV.sameL (v.items.take (k + 1)) (u.items.take (k + 1)) = true by rw [HTK.out, HA.out, hsb]; rfl)
              rw [hsb] at HC
              clear hsb
              go_wp2_with fail
              go_still_tail 10, (by kernel_rfl)
              go_wp2_with fail
              refine HC.out.mono ?_
              rintro e w5 ⟨rfl, hb5⟩
              have HB5 := Lib.hid (HB.out.drew.trans (hb5.mono (by show w.heap.size + 2 ≤ wr.heap.size; omega)))
              clear hb5 g0 g1 g2 g3 g4 g0' g1' g2' g3' g4' c4 d4'
              go_wp2
              go_roundw
              case rel => exact ⟨k + 1, by omega, by go_num, HF.out, HB5.out⟩
              case measure => simp [intOf]; omega
          · have HF := Lib.hid (show JV.sameL v.items u.items = true by
              have := HA.out; rwa [List.take_of_length_le (by rw [← HNI.out]; omega), List.take_of_length_le (by rw [HNU.out]; omega)] at this)
            go_wp2
            go_ret
            exact ⟨by rw [HEQ.out, HF.out]; rfl, HBW.out⟩

end Go.Proofs.YtgghgcilpfdbjaaGreatDoor

namespace Go.Proofs.YtgghgcilpfdbjaaGreatDoor
open Go.RowKit

abbrev NJ := ByteArray × JV
def hashN (l : List Key2) : List NJ := l.map fun k => (k.1, txtJ k.2)
theorem hashN_1 (l : List Key2) : (hashN l).map (·.1) = l.map (·.1) := by simp [hashN]
theorem hashN_2 (l : List Key2) : (hashN l).map (·.2) = l.map fun k => txtJ k.2 := by simp [hashN]
theorem hashN_len (l : List Key2) : (hashN l).length = l.length := by simp [hashN]
theorem mayHashes_parts {l : List Key2} (h : mayHashes l = true) : (1 ≤ l.length ∧ l.length ≤ 4) ∧ (∀ k ∈ l, roleOk k.1.data.toList = true ∧ pubOk k.2.data.toList = true) ∧ rises (l.map (·.1)) = true := by
  unfold mayHashes at h
  simp only [Bool.and_eq_true, decide_eq_true_eq] at h
  refine ⟨h.1.1, fun k hk => ?_, h.2⟩
  have := List.all_eq_true.1 h.1.2 k hk
  unfold hashOk at this
  simpa using this
theorem pub_size {b : ByteArray} (h : pubOk b.data.toList = true) : b.size ≤ 128 := by
  unfold pubOk at h
  simp only [Bool.and_eq_true, decide_eq_true_eq] at h
  have := h.1.2.1
  simpa using this
theorem role_size2 {b : ByteArray} (h : roleOk b.data.toList = true) : b.size ≤ 64 := by
  unfold roleOk at h
  simp only [Bool.and_eq_true, decide_eq_true_eq] at h
  have := h.1.1.2
  simpa using this

theorem sum_map_le {α : Type} (f : α → ByteArray) (b : Nat) : ∀ l : List α, (∀ x ∈ l, (f x).size ≤ b) → bytesSum (l.map f) ≤ l.length * (b + 1)
  | [], _ => by simp [bytesSum]
  | x :: r, h => by
    have := sum_map_le f b r fun y hy => h y (List.mem_cons_of_mem _ hy)
    have h0 := h x (List.mem_cons_self ..)
    simp only [List.map_cons, bytesSum, List.length_cons]
    rw [Nat.succ_mul]
    omega
theorem wts_map_le {α : Type} (f : α → JV) (b : Nat) : ∀ l : List α, (∀ x ∈ l, (f x).wt ≤ b) → JV.wts (l.map f) ≤ l.length * b
  | [], _ => by simp [JV.wts]
  | x :: r, h => by
    have := wts_map_le f b r fun y hy => h y (List.mem_cons_of_mem _ hy)
    have h0 := h x (List.mem_cons_self ..)
    simp only [List.map_cons, JV.wts, List.length_cons]
    rw [Nat.succ_mul]
    omega
theorem hashJ_wt {l : List Key2} (h : mayHashes l = true) : (hashJ l).wt ≤ 1000 := by
  obtain ⟨hl, hok, _⟩ := mayHashes_parts h
  have a := sum_map_le (fun k : Key2 => k.1) 64 l fun k hk => role_size2 (hok k hk).1
  have b := wts_map_le (fun k : Key2 => txtJ k.2) 129 l fun k hk => by
    have := pub_size (hok k hk).2
    simp [txtJ, JV.wt, JV.wts, bytesSum]; omega
  have c : l.length * (64 + 1) ≤ 4 * 65 := Nat.mul_le_mul_right _ hl.2
  have d : l.length * 129 ≤ 4 * 129 := Nat.mul_le_mul_right _ hl.2
  unfold hashJ
  simp only [JV.wt]
  have : ({ data := #[] } : ByteArray).size = 0 := rfl
  omega
theorem numJ_wt (n : Int) : (numJ n).wt = 1 := by simp [numJ, JV.wt, JV.wts, bytesSum, ByteArray.size]
theorem mayPin_parts {p : PinV} (h : mayPin p = true) : (roleOf p.name).isSome = true ∧ (1 ≤ p.ver ∧ p.ver ≤ 1099511627776) ∧ (-1 ≤ p.len ∧ p.len ≤ 1099511627776) ∧ (p.hs = [] ∨ mayHashes p.hs = true) := by
  unfold mayPin at h
  simp only [Bool.and_eq_true, Bool.or_eq_true, decide_eq_true_eq] at h
  exact ⟨h.1.1.1, h.1.1.2, h.1.2, h.2.imp List.eq_nil_of_length_eq_zero id⟩
theorem pinJ_wt {p : PinV} (h : mayPin p = true) : (pinJ p).wt ≤ 2000 := by
  obtain ⟨_, _, _, hh⟩ := mayPin_parts h
  have e1 : hasN.size = 6 := rfl
  have e2 : lenN.size = 6 := rfl
  have e3 : verN.size = 7 := rfl
  have e4 : ({ data := #[] } : ByteArray).size = 0 := rfl
  have e5 : p.hs = [] ∨ ((hashJ p.hs).wt ≤ 1000 ∧ p.hs.isEmpty = false) := by
    rcases hh with h | h
    · exact .inl h
    · refine .inr ⟨hashJ_wt h, ?_⟩
      have := (mayHashes_parts h).1.1
      cases hp : p.hs with
      | nil => rw [hp] at this; simp at this
      | cons _ _ => rfl
  unfold pinJ pinM
  rcases e5 with e | ⟨e, e'⟩
  · rw [e]
    by_cases h1 : p.len = -1 <;> simp [h1, JV.wt, JV.wts, bytesSum, numJ_wt] <;> omega
  · rw [e']
    by_cases h1 : p.len = -1 <;> simp [h1, JV.wt, JV.wts, bytesSum, numJ_wt] <;> omega
theorem file_size {f : ByteArray} (h : (roleOf f).isSome = true) : f.size ≤ 69 := by
  obtain ⟨r, hr⟩ := Option.isSome_iff_exists.1 h
  obtain ⟨h1, h2⟩ := role_name hr
  have h3 := congrArg List.length h2
  unfold roleOk at h1
  simp only [Bool.and_eq_true, decide_eq_true_eq] at h1
  simp only [List.length_append, Array.length_toList, json, List.length_cons, List.length_nil] at h3
  show f.data.size ≤ 69
  omega
theorem metaJ_wt {l : List PinV} (h : l.all mayPin = true) (hl : l.length ≤ 256) : (metaJ l).wt ≤ 1000000 := by
  have ha := List.all_eq_true.1 h
  have a := sum_map_le (fun p : PinV => p.name) 69 l fun p hp => file_size (mayPin_parts (ha p hp)).1
  have b := wts_map_le pinJ 2000 l fun p hp => pinJ_wt (ha p hp)
  have c : l.length * (69 + 1) ≤ 256 * 70 := Nat.mul_le_mul_right _ hl
  have d : l.length * 2000 ≤ 256 * 2000 := Nat.mul_le_mul_right _ hl
  unfold metaJ
  simp only [JV.wt]
  have : ({ data := #[] } : ByteArray).size = 0 := rfl
  omega
end Go.Proofs.YtgghgcilpfdbjaaGreatDoor

namespace Go.Proofs.YtgghgcilpfdbjaaGreatDoor
open Go.RowKit

theorem ref11NumOf (n : Int) (w : World) : Calls Tryz.prog 50 #[.int .i64 n] w fun e w' => e = .returned (.agg #[.int .u8 2, .int .i64 n, .string { data := #[] }, .slice none 0 0, .slice none 0 0]) ∧ w' = w.alloc (.cells #[.int .u8 2, .int .i64 n, .string { data := #[] }, .slice none 0 0, .slice none 0 0] 30) := by
  go_enter Tryz.func50, Tryz.ntmps50
  go_wp2
  exact bodyPost_ret (results_cell_row Tryz.results50 _ _ w.heap.size 30 _ (0, 0) _ rfl (heap_alloc_new w _) Tryz.underlying30 rfl (by kernel_rfl)) rfl ⟨rfl, rfl⟩
theorem ref11TextOf (t : ByteArray) (w : World) : Calls Tryz.prog 49 #[.string t] w fun e w' => e = .returned (.agg #[.int .u8 3, .int .i64 0, .string t, .slice none 0 0, .slice none 0 0]) ∧ w' = w.alloc (.cells #[.int .u8 3, .int .i64 0, .string t, .slice none 0 0, .slice none 0 0] 30) := by
  go_enter Tryz.func49, Tryz.ntmps49
  go_wp2
  exact bodyPost_ret (results_cell_row Tryz.results49 _ _ w.heap.size 30 _ (0, 0) _ rfl (heap_alloc_new w _) Tryz.underlying30 rfl (by kernel_rfl)) rfl ⟨rfl, rfl⟩
end Go.Proofs.YtgghgcilpfdbjaaGreatDoor

namespace Go.Proofs.YtgghgcilpfdbjaaGreatDoor
open Go.RowKit

mutual
def JV.partB : JV → Bool
  | .mk k n t ns xs => properB k n t ns xs.length && JV.partsB xs
def JV.partsB : List JV → Bool
  | [] => true
  | x :: r => JV.partB x && JV.partsB r
end
mutual
def JV.depth : JV → Nat
  | .mk k _ _ _ xs => if k ≠ 4 ∧ k ≠ 5 then 0 else JV.depths xs + 1
def JV.depths : List JV → Nat
  | [] => 0
  | x :: r => max (JV.depth x) (JV.depths r)
end
theorem JV.partB_eq (v : JV) : v.partB = (properB v.kind v.n v.t v.names v.items.length && JV.partsB v.items) := by cases v; rw [JV.partB]; rfl
theorem JV.depth_eq (v : JV) : v.depth = if v.kind ≠ 4 ∧ v.kind ≠ 5 then 0 else JV.depths v.items + 1 := by cases v; rw [JV.depth]; rfl
theorem JV.count_eq (v : JV) : v.count = 1 + JV.counts v.items := by cases v; rw [JV.count]; rfl
theorem JV.depths_take (l : List JV) (k : Nat) (h : k < l.length) : JV.depths (l.take (k + 1)) = max (JV.depths (l.take k)) (JV.depth l[k]) := by
  induction l generalizing k with
  | nil => simp at h
  | cons x r ih =>
    cases k with
    | zero => simp [JV.depths]
    | succ k => simp only [List.take_succ_cons, JV.depths, List.getElem_cons_succ]; rw [ih k (by simpa using h)]; omega
theorem JV.partsB_take (l : List JV) (k : Nat) (h : k < l.length) : JV.partsB (l.take (k + 1)) = (JV.partsB (l.take k) && JV.partB l[k]) := by
  induction l generalizing k with
  | nil => simp at h
  | cons x r ih =>
    cases k with
    | zero => simp [JV.partsB]
    | succ k => simp only [List.take_succ_cons, JV.partsB, List.getElem_cons_succ]; rw [ih k (by simpa using h), Bool.and_assoc]
theorem JV.partsB_bad (l : List JV) (k : Nat) (h : k < l.length) (hb : JV.partB l[k] = false) : JV.partsB l = false := by
  induction l generalizing k with
  | nil => simp at h
  | cons x r ih =>
    cases k with
    | zero => simp only [List.getElem_cons_zero] at hb; rw [JV.partsB, hb]; rfl
    | succ k => rw [JV.partsB, ih k (by simpa using h) (by simpa using hb), Bool.and_false]
mutual
theorem JV.depth_le : ∀ v : JV, v.depth ≤ v.wt
  | .mk k _ _ _ xs => by have := JV.depths_le xs; rw [JV.depth, JV.wt]; split <;> omega
theorem JV.depths_le : ∀ l : List JV, JV.depths l ≤ JV.wts l
  | [] => by simp [JV.depths]
  | x :: r => by have := JV.depth_le x; have := JV.depths_le r; rw [JV.depths, JV.wts]; omega
end
theorem JV.proper_leaf {v : JV} (h : properB v.kind v.n v.t v.names v.items.length = true) (h4 : v.kind ≠ 4) (h5 : v.kind ≠ 5) : v.items = [] := by
  unfold properB at h
  split at h
  · simp at h; exact h.2.2.1
  split at h
  · simp at h; exact h.2.2
  split at h
  · simp at h; exact h.1.2.2
  · first | (cases h; done) | (rw [if_neg h4, if_neg h5] at h; cases h)
theorem JV.part_leaf (v : JV) (h4 : v.kind ≠ 4) (h5 : v.kind ≠ 5) : v.partB = properB v.kind v.n v.t v.names v.items.length := by
  rw [JV.partB_eq]
  cases h : properB v.kind v.n v.t v.names v.items.length
  · rfl
  · rw [JV.proper_leaf h h4 h5]; rfl

mutual
theorem JV.may_iff : ∀ (v : JV) (d : Nat) (l : Int), 0 ≤ l → ((v.may d l).1 = true ↔ v.partB = true ∧ (v.count : Int) ≤ l ∧ v.depth ≤ d) ∧ ((v.may d l).1 = true → (v.may d l).2 = l - v.count)
  | .mk k n t ns xs, d, l, hl => by
    rw [JV.may, JV.partB, JV.count, JV.depth]
    by_cases h0 : l - 1 < 0
    · rw [if_pos h0]; simp; omega
    rw [if_neg h0]
    cases hp : properB k n t ns xs.length
    · simp
    simp only [Bool.true_eq_false, if_false, Bool.true_and]
    by_cases hk : k ≠ 4 ∧ k ≠ 5
    · have hx : xs = [] := JV.proper_leaf (v := .mk k n t ns xs) hp hk.1 hk.2
      subst hx
      rw [if_pos hk, if_pos hk]
      simp [JV.partsB, JV.counts]; omega
    · rw [if_neg hk, if_neg hk]
      by_cases hd : d = 0
      · rw [if_pos hd]; simp; omega
      · rw [if_neg hd]
        obtain ⟨i1, i2⟩ := JV.mays_iff xs (d - 1) (l - 1) (by omega)
        refine ⟨?_, fun h => ?_⟩
        · rw [i1]; constructor
          · rintro ⟨a, b, c⟩; exact ⟨a, by push_cast; omega, by omega⟩
          · rintro ⟨a, b, c⟩; exact ⟨a, by push_cast at b; omega, by omega⟩
        · rw [i2 h]; push_cast; omega
theorem JV.mays_iff : ∀ (xs : List JV) (d : Nat) (l : Int), 0 ≤ l → ((JV.mays xs d l).1 = true ↔ JV.partsB xs = true ∧ (JV.counts xs : Int) ≤ l ∧ JV.depths xs ≤ d) ∧ ((JV.mays xs d l).1 = true → (JV.mays xs d l).2 = l - JV.counts xs)
  | [], d, l, hl => by simp [JV.mays, JV.partsB, JV.counts, JV.depths]; omega
  | x :: r, d, l, hl => by
    obtain ⟨a1, a2⟩ := JV.may_iff x d l hl
    rw [JV.mays, JV.partsB, JV.counts, JV.depths]
    cases h : (JV.may x d l).1
    · rw [h] at a1
      simp only [Bool.false_eq_true, if_false, false_iff, not_and, Bool.and_eq_true, false_implies, and_true] at a1 ⊢
      intro hp hc
      have := a1 hp.1 (by push_cast at hc; omega)
      omega
    · rw [if_pos rfl]
      have hb := (JV.may_bd x d l hl).2.2 h
      obtain ⟨c1, c2, c3⟩ := a1.1 h
      have e2 := a2 h
      obtain ⟨i1, i2⟩ := JV.mays_iff r d _ hb
      rw [i1, e2] 
      refine ⟨?_, fun hh => ?_⟩
      · rw [c1, Bool.true_and]; constructor
        · rintro ⟨a, b, c⟩; exact ⟨a, by push_cast; omega, by omega⟩
        · rintro ⟨a, b, c⟩; exact ⟨a, by push_cast at b; omega, by omega⟩
      · have hh' : (JV.mays r d (JV.may x d l).2).1 = true := by rw [e2]; exact i1.2 (by rw [e2]; exact hh) |> fun z => by rwa [e2] at z
        have := i2 hh'
        rw [e2] at this
        rw [this]; push_cast; omega
end
theorem JV.mayB_iff (v : JV) : v.mayB = (v.partB && decide (v.count ≤ 8192) && decide (v.depth ≤ 12)) := by
  unfold JV.mayB
  rw [Bool.eq_iff_iff, (JV.may_iff v 12 8192 (by omega)).1]
  simp only [Bool.and_eq_true, decide_eq_true_eq]
  constructor
  · rintro ⟨a, b, c⟩; exact ⟨⟨a, by omega⟩, c⟩
  · rintro ⟨⟨a, b⟩, c⟩; exact ⟨a, by omega, c⟩

end Go.Proofs.YtgghgcilpfdbjaaGreatDoor

namespace Go.Proofs.YtgghgcilpfdbjaaGreatDoor
open Go.RowKit

def hashLoop : List ByteArray → List JV → List Key2 → List Key2 × Int
  | n :: ns, x :: xs, acc => if roleOk n.data.toList = false then ([], 3) else if x.kind ≠ 3 then ([], 10) else if pubOk x.t.data.toList = false then ([], 3) else hashLoop ns xs (acc ++ [(n, x.t)])
  | _, _, acc => (acc, 0)
/-- The hashes of an object, and the error. -/
def hashesOfJ (v : JV) : List Key2 × Int :=
  if v.mayB = false then ([], 3) else if v.kind ≠ 5 then ([], 10) else if 4 < v.names.length then ([], 5) else if v.names.length = 0 then ([], 4) else hashLoop v.names v.items []
theorem hashLoop_at {ns : List ByteArray} {xs : List JV} {acc : List Key2} (k : Nat) (h1 : k < ns.length) (h2 : k < xs.length) :
    hashLoop (ns.drop k) (xs.drop k) acc = if roleOk ns[k].data.toList = false then ([], 3) else if xs[k].kind ≠ 3 then ([], 10) else if pubOk xs[k].t.data.toList = false then ([], 3) else hashLoop (ns.drop (k + 1)) (xs.drop (k + 1)) (acc ++ [(ns[k], xs[k].t)]) := by
  rw [List.drop_eq_getElem_cons h1, List.drop_eq_getElem_cons h2]; rfl
theorem hashLoop_end {ns : List ByteArray} {xs : List JV} {acc : List Key2} (k : Nat) (h1 : ns.length ≤ k) : hashLoop (ns.drop k) (xs.drop k) acc = (acc, 0) := by
  rw [List.drop_eq_nil_of_le h1]; rfl
/-- The hashes of the object of hashes are these. -/
theorem hashLoop_back : ∀ (l acc : List Key2), (∀ k ∈ l, roleOk k.1.data.toList = true ∧ pubOk k.2.data.toList = true) → hashLoop (l.map (·.1)) (l.map fun k => txtJ k.2) acc = (acc ++ l, 0)
  | [], acc, _ => by simp [hashLoop]
  | k :: r, acc, h => by
    obtain ⟨h1, h2⟩ := h k (List.mem_cons_self ..)
    simp only [List.map_cons, hashLoop]
    rw [if_neg (by rw [h1]; decide), if_neg (by simp [txtJ, JV.kind]), if_neg (by show ¬ pubOk k.2.data.toList = false; rw [h2]; decide)]
    rw [hashLoop_back r _ fun q hq => h q (List.mem_cons_of_mem _ hq)]
    show (acc ++ [(k.1, (txtJ k.2).t)] ++ r, (0 : Int)) = _
    simp [txtJ, JV.t]
theorem wts_item : ∀ (l : List JV) (k : Nat) (h : k < l.length), l[k].wt ≤ JV.wts l
  | x :: r, 0, _ => by simp only [JV.wts, List.getElem_cons_zero]; omega
  | x :: r, k + 1, h => by
    have := wts_item r k (by simpa using h)
    simp only [JV.wts, List.getElem_cons_succ]; omega
end Go.Proofs.YtgghgcilpfdbjaaGreatDoor

namespace Go.Proofs.YtgghgcilpfdbjaaGreatDoor
open Go.RowKit

def hasSt (v : JV) (st : PS) : List Key2 × PS := if pickHas v hasN st then ((hashesOfJ (pickObj v hasN 4 st).1).1, (pickObj v hasN 4 st).2.fail (hashesOfJ (pickObj v hasN 4 st).1).2) else ([], st)
def lenSt (v : JV) (st : PS) : Int × PS := if pickHas v lenN st then pickNum v lenN 0 1099511627776 st else (-1, st)
/-- The pin of a file, of a picker's value. -/
def pinOfK (f : ByteArray) (v : JV) : PinV × Int :=
  let a := pickNum v verN 1 1099511627776 ⟨[], 0⟩
  let b := lenSt v a.2
  let c := hasSt v b.2
  if pickDone v c.2 ≠ 0 then (pinZ, pickDone v c.2) else (⟨f, a.1, b.1, c.1⟩, 0)
theorem pinOfK_eq (f : ByteArray) (v : JV) : pinOfK f v = if pickDone v (hasSt v (lenSt v (pickNum v verN 1 1099511627776 ⟨[], 0⟩).2).2).2 ≠ 0 then (pinZ, pickDone v (hasSt v (lenSt v (pickNum v verN 1 1099511627776 ⟨[], 0⟩).2).2).2) else (⟨f, (pickNum v verN 1 1099511627776 ⟨[], 0⟩).1, (lenSt v (pickNum v verN 1 1099511627776 ⟨[], 0⟩).2).1, (hasSt v (lenSt v (pickNum v verN 1 1099511627776 ⟨[], 0⟩).2).2).1⟩, 0) := rfl
/-- What PinOf tells of an object of which a picker holds one that C admits. -/
def PinOfR (C : JV → Prop) (f : ByteArray) (v : JV) (r : PinV × Int) : Prop :=
  (((roleOf f).isNone || !v.mayB) = true ∧ r = (pinZ, 3)) ∨ (((roleOf f).isNone || !v.mayB) = false ∧ ∃ u, C u ∧ r = pinOfK f u)
theorem lookL_wt : ∀ {ns : List ByteArray} {xs : List JV} {y : ByteArray} {x : JV}, lookL ns xs y = some x → x.wt ≤ JV.wts xs
  | n :: ns, z :: xs, y, x, h => by
    rw [lookL] at h
    simp only [JV.wts]
    split at h
    · injection h with h; subst h; omega
    · have := lookL_wt h; omega
theorem pickObj_wt {v : JV} {y : ByteArray} {most : Nat} {st : PS} (h : v.wt ≤ 4294967296) : (pickObj v y most st).1.wt ≤ 4294967296 := by
  have hz : zeroJ.wt ≤ 4294967296 := by decide
  have h2 := v.wt_bd
  unfold pickObj
  split
  · exact hz
  · split
    · exact hz
    · rename_i it hit
      have := lookL_wt (show lookL v.names v.items y = some it from hit)
      split
      · exact hz
      · split
        · exact hz
        · show it.wt ≤ _; omega
theorem pickObj_asked {v : JV} {y : ByteArray} {most : Nat} {st : PS} : (pickObj v y most st).2.asked.length ≤ st.asked.length + 1 := by
  unfold pickObj
  split
  · simp
  split
  · simp
  split
  · simp
  split <;> simp
theorem names_wt {v : JV} (h : v.wt ≤ 4294967296) : ∀ i (hi : i < v.names.length), v.names[i].size ≤ 4294967296 := fun i hi => by
  have h1 := v.wt_eq
  have : ∀ (l : List ByteArray) (i : Nat) (hi : i < l.length), l[i].size ≤ bytesSum l := by
    intro l
    induction l with
    | nil => intro i hi; simp at hi
    | cons a r ih =>
      intro i hi
      rcases i with _ | i
      · simp [bytesSum]; omega
      · have := ih i (by simpa using hi)
        simp [bytesSum]; omega
  have := this v.names i hi
  omega
end Go.Proofs.YtgghgcilpfdbjaaGreatDoor

namespace Go.Proofs.YtgghgcilpfdbjaaGreatDoor
open Go.RowKit

def HashOfPost (v : JV) (w : World) (e : Ending) (w' : World) : Prop :=
  ∃ a c, e = .returned (.tuple #[.slice a (hashesOfJ v).1.length c, .int .i64 (hashesOfJ v).2]) ∧ KeysW w' w.heap.size w'.heap.size a (hashesOfJ v).1 ∧ (hashesOfJ v).1.length ≤ c ∧ Below w.heap.size w w'
theorem hashOf_no {v : JV} {er : Int} (h : hashesOfJ v = ([], er)) {w w' : World} (hb : Below w.heap.size w w') : HashOfPost v w (.returned (.tuple #[.slice none 0 0, .int .i64 er])) w' := by
  unfold HashOfPost
  rw [h]
  exact ⟨none, 0, rfl, KeysW.nil _ _ _ _, Nat.le_refl _, hb⟩
theorem owns_cap {w : World} {base e size n c : Nat} {a : Option Addr} {xs : List Value} (h : w.ownsRow base e size (.slice a n c) n xs) : n ≤ c := by
  rcases h.2 with ⟨hv, h0⟩ | ⟨g, cap, cur, hv, _, _, hc, _⟩
  · omega
  · simp only [Value.slice.injEq] at hv
    obtain ⟨-, -, rfl⟩ := hv
    exact hc

set_option maxHeartbeats 4000000 in
set_option maxRecDepth 100000 in
theorem recHashesOf (v : JV) (x : Value) (w : World) (hN : v.wt ≤ 4294967296) (hR : Rep w 0 w.heap.size v x) : Calls Tryz.prog 64 #[x] w (HashOfPost v w) := by
  obtain ⟨an, cn, ai, ci, hx, hcn, hci, h3, h4⟩ := hR.parts
  subst hx
  obtain ⟨W2, hW2⟩ : ∃ W2, W2 = w.alloc (.cells #[.int .u8 v.kind, .int .i64 v.n, .string v.t, .slice an v.names.length cn, .slice ai v.items.length ci] 30) := ⟨_, rfl⟩
  have hb2 : Below w.heap.size w W2 := by rw [hW2]; exact (Below.refl _ _).alloc (Nat.le_refl _) _
  have hx0 : W2.heap[w.heap.size]? = some (.cells #[.int .u8 v.kind, .int .i64 v.n, .string v.t, .slice an v.names.length cn, .slice ai v.items.length ci] 30 (0, 0)) := by rw [hW2]; exact heap_alloc_new w _
  have HM := Lib.hid (valueMay v _ W2 hN (hR.below hb2 (Nat.le_refl _) (Nat.zero_le _) hb2.size))
  have HC := Lib.hid (show ∀ w' : World, Below W2.heap.size W2 w' → w'.cell? ⟨w.heap.size, 0, none⟩ = some (.int .u8 v.kind) ∧ w'.cell? ⟨w.heap.size, 1, none⟩ = some (.int .i64 v.n) ∧ w'.cell? ⟨w.heap.size, 2, none⟩ = some (.string v.t) ∧ w'.cell? ⟨w.heap.size, 3, none⟩ = some (.slice an v.names.length cn) ∧ w'.cell? ⟨w.heap.size, 4, none⟩ = some (.slice ai v.items.length ci) from fun w' h => by
    have x := (h.block _ (heap_lt hx0)).trans hx0
    exact ⟨box_cell x rfl, box_cell x rfl, box_cell x rfl, box_cell x rfl, box_cell x rfl⟩)
  have HST := Lib.hid (show ∀ w' : World, Below W2.heap.size W2 w' → StrsAt w' 0 w'.heap.size an v.names ∧ ValsAt w' 0 w'.heap.size ai v.items from fun w' h => ⟨h3.below (hb2.trans (h.mono hb2.size)) (Nat.le_refl _) (Nat.zero_le _) (Nat.le_trans hb2.size h.size), h4.below (hb2.trans (h.mono hb2.size)) (Nat.le_refl _) (Nat.zero_le _) (Nat.le_trans hb2.size h.size)⟩)
  have HB2 := Lib.hid hb2
  have HW := Lib.hid hW2
  have HZ2 := Lib.hid (show w.heap.size < W2.heap.size from heap_lt hx0)
  clear h3 h4 hR hW2 hb2 hx0
  obtain ⟨c0, c1, c2, c3, c4⟩ := HC.out W2 (Below.refl _ _)
  go_enter Tryz.func64, Tryz.ntmps64
  go_upto_region 1 with fail
  rw [← HW.out]
  cases hm : v.mayB with
  | false =>
    have HX := Lib.hid (show hashesOfJ v = ([], 3) by unfold hashesOfJ; rw [if_pos hm])
    rw [hm] at HM
    clear hm
    go_wp2_with fail
    refine HM.out.mono ?_
    clear HM c0 c1 c2 c3 c4
    rintro r w1 ⟨rfl, hb1⟩
    have HB1 := Lib.hid (HB2.out.trans (hb1.mono HB2.out.size))
    clear hb1
    go_wp2
    go_ret2
    exact hashOf_no HX.out HB1.out
  | true =>
    have HMB := Lib.hid hm
    rw [hm] at HM
    clear hm
    go_wp2_with fail
    refine HM.out.mono ?_
    clear HM c0 c1 c2 c3 c4
    rintro r w1 ⟨rfl, hb1⟩
    have HB1 := Lib.hid hb1
    obtain ⟨c0, c1, c2, c3, c4⟩ := HC.out w1 hb1
    clear hb1
    by_cases hk : v.kind = 5
    case neg =>
      have hd : ((v.kind : Int) != 5) = true := bne_iff_ne.2 hk
      have HX := Lib.hid (show hashesOfJ v = ([], 10) by unfold hashesOfJ; rw [if_neg (by rw [HMB.out]; decide), if_pos hk])
      clear hk
      go_wp2
      go_ret2
      exact hashOf_no HX.out (HB2.out.trans (HB1.out.mono HB2.out.size))
    have hd : ((v.kind : Int) != 5) = false := by rw [hk]; rfl
    obtain ⟨hri, hle, htx⟩ := may_obj HMB.out hk
    have HTS := Lib.hid (show ∀ i (h : i < v.names.length), v.names[i].size ≤ 4294967296 from fun i hi => by
      have := List.all_eq_true.1 htx _ (List.getElem_mem hi)
      unfold txtOk at this; simp at this; omega)
    have HK := Lib.hid hk
    have HLE := Lib.hid hle
    clear hri htx hk hle
    by_cases h4 : 4 < v.names.length
    · have hd2 : decide ((4 : Int) < v.names.length) = true := by simp; omega
      have HX := Lib.hid (show hashesOfJ v = ([], 5) by unfold hashesOfJ; rw [if_neg (by rw [HMB.out]; decide), if_neg (by rw [HK.out]; decide), if_pos h4])
      go_wp2
      go_ret2
      exact hashOf_no HX.out (HB2.out.trans (HB1.out.mono HB2.out.size))
    have hd2 : decide ((4 : Int) < v.names.length) = false := by simp; omega
    by_cases h0 : v.names.length = 0
    · have hd3 : ((v.names.length : Int) == 0) = true := by rw [h0]; rfl
      have HX := Lib.hid (show hashesOfJ v = ([], 4) by unfold hashesOfJ; rw [if_neg (by rw [HMB.out]; decide), if_neg (by rw [HK.out]; decide), if_neg h4, if_pos h0])
      go_wp2
      go_ret2
      exact hashOf_no HX.out (HB2.out.trans (HB1.out.mono HB2.out.size))
    have hd3 : ((v.names.length : Int) == 0) = false := beq_eq_false_iff_ne.2 (by omega)
    have HX := Lib.hid (show hashesOfJ v = hashLoop v.names v.items [] by unfold hashesOfJ; rw [if_neg (by rw [HMB.out]; decide), if_neg (by rw [HK.out]; decide), if_neg h4, if_neg h0])
    obtain ⟨i1, hi1, hy0, hy1, hy2⟩ := info_parts infoHash
    have h1z : W2.heap.size ≤ w1.heap.size := HB1.out.size
    go_upto_region 11 with (at_make; refine wpList_make_own _ rfl (.const (.int .i64 0)) (.tmp 24) 34 rfl W2.heap.size 62 i1 _ 2 Tryz.underlying34 hi1 hy0 hy1 .i64 .i64 _ v.names.length rfl rfl rfl (by rw [hy2]; omega) (by unfold maxLen; omega) h1z ?_; intro w4 hown4 hgrow4; have HO4 := Lib.hid hown4; have HB4 := Lib.hid (below_grown (v := .slice none 0 0) HB1.out h1z hgrow4 (fun b hb => by cases hb)); obtain ⟨c0, c1, c2, c3, c4⟩ := HC.out w4 HB4.out; clear hown4 hgrow4)
    clear c0 c1 c2 c3 c4 hd hd2 hd3
    obtain ⟨nn, hnn⟩ : ∃ nn, nn = v.names.length := ⟨_, rfl⟩
    rw [← hnn] at HO4 ⊢
    have HNN := Lib.hid hnn
    have hn0 : 0 < nn := by omega
    have hn4 : nn ≤ 4 := by omega
    clear hnn h0 h4
    go_loopw [4, 5, 6, 7, 29] (fun s4 _ _ _ i wr => ∃ (k : Nat) (acc : List Key2), k ≤ nn ∧ i = .int .i64 k ∧ acc.length = k ∧ hashesOfJ v = hashLoop (v.names.drop k) (v.items.drop k) acc ∧ (∃ g cap, s4 = .slice (some ⟨g, 0, none⟩) k cap) ∧ wr.ownsRow W2.heap.size 62 2 s4 k (acc.flatMap encK) ∧ Below W2.heap.size W2 wr) (fun _ _ _ _ i _ => nn - (intOf i).toNat)
    case atStart => exact ⟨0, [], by omega, rfl, rfl, HX.out, ⟨_, _, rfl⟩, HO4.out, HB4.out⟩
    case round =>
      obtain ⟨k, acc, hk, rfl, hacc, hh, hsl, hown, hb⟩ := hrel
      have HB := Lib.hid hb
      have HH := Lib.hid hh
      have HOW := Lib.hid hown
      have HAC := Lib.hid hacc
      obtain ⟨g0, cap0, rfl⟩ := hsl
      clear HO4 HB4 HB1 h1z hh hown hacc
      obtain ⟨c0, c1, c2, c3, c4⟩ := HC.out wr hb
      by_cases hlt : k < nn
      · have hst := HST.out wr hb
        have hkn : k < v.names.length := by have := HNN.out; omega
        have hki : k < v.items.length := by have := HLE.out; have := HNN.out; omega
        have hs2k : ∃ b2 o2, an = some ⟨b2, o2, none⟩ ∧ b2 < wr.heap.size ∧ wr.cell? ⟨b2, o2 + k, none⟩ = some (.string v.names[k]) := by
          rcases hst.1 with h | ⟨b, off, ha, _, hb', hc⟩
          · have := congrArg List.length h; rw [List.length_nil] at this; omega
          · exact ⟨b, off, ha, hb', hc k hkn⟩
        have hs3k : ∃ b3 o3 an3 cn3 ai3 ci3, ai = some ⟨b3, o3, none⟩ ∧ b3 < wr.heap.size ∧ wr.cell? ⟨b3, o3 + k * 5, none⟩ = some (.int .u8 v.items[k].kind) ∧ wr.cell? ⟨b3, o3 + k * 5 + 1, none⟩ = some (.int .i64 v.items[k].n) ∧ wr.cell? ⟨b3, o3 + k * 5 + 2, none⟩ = some (.string v.items[k].t) ∧ wr.cell? ⟨b3, o3 + k * 5 + 3, none⟩ = some (.slice an3 v.items[k].names.length cn3) ∧ wr.cell? ⟨b3, o3 + k * 5 + 4, none⟩ = some (.slice ai3 v.items[k].items.length ci3) := by
          rcases hst.2 with h | ⟨b, off, ha, _, hb', _, hr⟩
          · have := congrArg List.length h; rw [List.length_nil] at this; omega
          · obtain ⟨x0, x1, x2, x3, x4, m0, m1, m2, m3, m4, _, hR⟩ := hr.at k hki
            obtain ⟨an3, cn3, ai3, ci3, hx, _, _, _, _⟩ := hR.parts
            simp only [Value.agg.injEq, Array.mk.injEq, List.cons.injEq, and_true] at hx
            obtain ⟨rfl, rfl, rfl, rfl, rfl⟩ := hx
            exact ⟨b, off, an3, cn3, ai3, ci3, ha, hb', m0, m1, m2, m3, m4⟩
        obtain ⟨b2, o2, rfl, hb2', n0⟩ := hs2k
        obtain ⟨b3, o3, an3, cn3, ai3, ci3, rfl, hb3', m0, m1, m2, m3, m4⟩ := hs3k
        have HSTEP := Lib.hid (HH.out.trans (hashLoop_at k hkn hki))
        have HNS := Lib.hid (HTS.out k hkn)
        have HIT := Lib.hid (show v.items[k].t.size ≤ 4294967296 by
          have h1 := wts_item v.items k hki
          have h2 := v.wt_bd
          have h3 := v.items[k].wt_bd
          omega)
        obtain ⟨nm, hnm⟩ : ∃ nm, nm = v.names[k]'hkn := ⟨_, rfl⟩
        obtain ⟨it, hit⟩ : ∃ it, it = v.items[k]'hki := ⟨_, rfl⟩
        rw [← hnm] at n0 HSTEP HNS
        rw [← hit] at m0 m1 m2 m3 m4 HSTEP HIT
        have HNR := Lib.hid (fun w' => nameRole nm w' (Nat.le_trans HNS.out (by decide)))
        have HDG := Lib.hid (fun w' => recDigits it.t w' (Nat.le_trans HIT.out (by decide)))
        clear hnm hit hst hb hkn
        cases hro : roleOk nm.data.toList with
        | false =>
          have HF := Lib.hid (show hashesOfJ v = ([], 3) by rw [HSTEP.out, if_pos hro])
          rw [hro] at HNR
          clear hro
          go_wp2_with fail
          refine (HNR.out wr).mono ?_
          rintro r w5 ⟨rfl, rfl⟩
          go_wp2
          go_ret2
          exact hashOf_no HF.out (HB2.out.trans (HB.out.mono HB2.out.size))
        | true =>
        have HRO := Lib.hid hro
        rw [hro] at HNR
        clear hro
        go_wp2_with fail
        refine (HNR.out wr).mono ?_
        rintro r w5 ⟨rfl, rfl⟩
        go_upto_region 16 with fail
        obtain ⟨W6, hW6⟩ : ∃ W6, W6 = wr.alloc (.cells #[.int .u8 it.kind, .int .i64 it.n, .string it.t, .slice an3 it.names.length cn3, .slice ai3 it.items.length ci3] 30) := ⟨_, rfl⟩
        have hb6 : Below wr.heap.size wr W6 := by rw [hW6]; exact (Below.refl _ _).alloc (Nat.le_refl _) _
        have hx6 : W6.heap[wr.heap.size]? = some (.cells #[.int .u8 it.kind, .int .i64 it.n, .string it.t, .slice an3 it.names.length cn3, .slice ai3 it.items.length ci3] 30 (0, 0)) := by rw [hW6]; exact heap_alloc_new wr _
        have y0 : W6.cell? ⟨wr.heap.size, 0, none⟩ = some (.int .u8 it.kind) := box_cell hx6 rfl
        have y2 : W6.cell? ⟨wr.heap.size, 2, none⟩ = some (.string it.t) := box_cell hx6 rfl
        have HB6 := Lib.hid (HB.out.trans (hb6.mono HB.out.size))
        have HO6 := Lib.hid (owns_below HOW.out hb6)
        rw [← hW6]
        clear hW6 hx6 hb6 m0 m1 m2 m3 m4 n0 c0 c1 c2 c3 c4
        by_cases hik : it.kind = 3
        case neg =>
          have hd : ((it.kind : Int) != 3) = true := bne_iff_ne.2 hik
          have HF := Lib.hid (show hashesOfJ v = ([], 10) by rw [HSTEP.out, if_neg (by rw [HRO.out]; decide), if_pos hik])
          clear hik
          go_wp2
          go_ret2
          exact hashOf_no HF.out (HB2.out.trans (HB6.out.mono HB2.out.size))
        have hd : ((it.kind : Int) != 3) = false := by rw [hik]; rfl
        have HIK := Lib.hid hik
        clear hik
        cases hpo : pubOk it.t.data.toList with
        | false =>
          have HF := Lib.hid (show hashesOfJ v = ([], 3) by rw [HSTEP.out, if_neg (by rw [HRO.out]; decide), if_neg (by rw [HIK.out]; decide), if_pos hpo])
          rw [hpo] at HDG
          clear hpo
          go_wp2_with fail
          refine (HDG.out W6).mono ?_
          rintro r w7 ⟨rfl, rfl⟩
          go_wp2
          go_ret2
          exact hashOf_no HF.out (HB2.out.trans (HB6.out.mono HB2.out.size))
        | true =>
        have HF := Lib.hid (show hashesOfJ v = hashLoop (v.names.drop (k + 1)) (v.items.drop (k + 1)) (acc ++ [(nm, it.t)]) by rw [HSTEP.out, if_neg (by rw [HRO.out]; decide), if_neg (by rw [HIK.out]; decide), if_neg (by rw [hpo]; decide)])
        rw [hpo] at HDG
        clear hpo
        go_wp2_with fail
        refine (HDG.out W6).mono ?_
        rintro r w7 ⟨rfl, rfl⟩
        have h6z : W2.heap.size ≤ W6.heap.size := HB6.out.size
        have hbe : Below W6.heap.size W6 (W6.alloc (.cells #[.string nm, .string it.t] 62)) := (Below.refl _ _).alloc (Nat.le_refl _) _
        have HO7 := Lib.hid (owns_below HO6.out hbe)
        have HB7 := Lib.hid (HB6.out.trans (hbe.mono h6z))
        have h7z : W2.heap.size ≤ (W6.alloc (.cells #[.string nm, .string it.t] 62)).heap.size := HB7.out.size
        clear hbe
        go_wp2_with (at_builtin; refine wpList_append_lies _ rfl (.tmp 49) (.tmp 54) 34 rfl W2.heap.size 62 i1 _ 2 32 Tryz.underlying34 hi1 hy0 hy1 hy2 rfl (by omega) (.slice (some ⟨g0, 0, none⟩) k cap0) k (acc.flatMap encK) rfl HO7.out ⟨W6.heap.size, 0, none⟩ 1 1 (encK (nm, it.t)) rfl rfl (World.news_of_block (cs := #[.string nm, .string it.t]) (t := 62) (fr := (0, 0)) (heap_alloc_new W6 _)) (fun u hu => by simp [encK] at hu; rcases hu with rfl | rfl <;> rfl) (by omega) (by unfold maxLen; omega) (by omega) h7z _ rfl ?_; intro g2 cap3 w8 hown8 hgrow8 hat8 hlt8; have HO8 := Lib.hid hown8; have HB8 := Lib.hid (below_grown HB7.out h7z hgrow8 (fun b hb => (HO7.out.lt b hb).1)); clear hown8 hgrow8 hat8)
        go_roundw
        case rel => exact ⟨k + 1, acc ++ [(nm, it.t)], by omega, by go_num, by rw [List.length_append, HAC.out]; rfl, HF.out, ⟨g2, cap3, rfl⟩, by rw [List.flatMap_append]; simpa using HO8.out, HB8.out⟩
        case measure => simp [intOf]; omega
      · have hkk : v.names.length ≤ k := by have := HNN.out; omega
        have HE := Lib.hid (HH.out.trans (hashLoop_end k hkk))
        have HKA := Lib.hid (owns_keysW HOW.out HAC.out.symm)
        have hkn : k = nn := by omega
        subst hkn
        clear hb
        go_wp2
        go_ret2
        obtain ⟨z, zc, hz, hzk⟩ := HKA.out
        show HashOfPost v w (.returned (.tuple #[.slice (some ⟨g0, 0, none⟩) k cap0, .int .i64 0])) wr
        unfold HashOfPost
        rw [HE.out]
        have hcap := owns_cap HOW.out
        simp only [Value.slice.injEq] at hz
        obtain ⟨rfl, hz2, rfl⟩ := hz
        exact ⟨_, _, by rw [← hz2], hzk.carry (Nat.le_of_lt HZ2.out) (Nat.le_refl _) (fun _ _ _ => rfl), by rw [← hz2]; exact hcap, HB2.out.trans (HB.out.mono HB2.out.size)⟩
end Go.Proofs.YtgghgcilpfdbjaaGreatDoor

namespace Go.Proofs.YtgghgcilpfdbjaaGreatDoor
open Go.RowKit Go.WideMaps Go.Maps

set_option maxHeartbeats 400000 in
theorem hasBad (o : Nat) (err : Int) (y : ByteArray) (w : World) (h : PickBad o err w) :
    Calls Tryz.prog 63 #[.pointer (some ⟨o, 0, none⟩), .string y] w fun e w' => e = .returned (.bool false) ∧ w = w' := by
  obtain ⟨he, c6, k, c0⟩ := h
  have he' : (err == 0) = false := by simpa using he
  have he2 : (err != 0) = true := by simpa using he
  have HE := Lib.hid he
  clear he
  go_enter Tryz.func63, Tryz.ntmps63
  go_wp2_with fail
  refine (pickErr o err k w c6 c0 (fun h => absurd h HE.out)).mono ?_
  rintro r w' ⟨rfl, rfl⟩
  go_wp2
  go_ret
  exact ⟨rfl, rfl⟩
set_option maxHeartbeats 400000 in
theorem numBad (o : Nat) (err : Int) (y : ByteArray) (l h : Int) (w : World) (hb : PickBad o err w) (ho : o < w.heap.size) :
    Calls Tryz.prog 62 #[.pointer (some ⟨o, 0, none⟩), .string y, .int .i64 l, .int .i64 h] w fun e w' => e = .returned (.int .i64 0) ∧ Below w.heap.size w w' := by
  obtain ⟨W2, hW2⟩ : ∃ W2, W2 = (w.alloc (.cells #[.int .i64 l] 2)).alloc (.cells #[.int .i64 h] 2) := ⟨_, rfl⟩
  have hb2 : Below w.heap.size w W2 := by rw [hW2]; exact ((Below.refl _ _).alloc (Nat.le_refl _) _).alloc (by simp) _
  obtain ⟨he, c6, k, c0⟩ := hb.below hb2 ho
  have HB2 := Lib.hid hb2
  have HW := Lib.hid hW2
  clear hW2 hb2 hb
  have HT := Lib.hid (show ∀ fv, Calls Tryz.prog 102 #[.pointer (some ⟨o, 0, none⟩), .string y, fv] W2 (fun e w' => e = .returned (.int .i64 0) ∧ W2 = w') from fun fv => by
    have he' : (err == 0) = false := by simpa using he
    have he2 : (err != 0) = true := by simpa using he
    have HE := Lib.hid he
    clear he
    go_enter Tryz.func102, Tryz.ntmps102
    go_wp2_with fail
    refine (pickErr o err k W2 c6 c0 (fun h => absurd h HE.out)).mono ?_
    rintro r w' ⟨rfl, rfl⟩
    go_wp2
    go_ret
    exact ⟨rfl, rfl⟩)
  clear he c6 c0
  go_enter Tryz.func62, Tryz.ntmps62
  go_wp2_with fail
  rw [← HW.out]
  refine (HT.out _).mono ?_
  rintro e w' ⟨rfl, rfl⟩
  go_wp2
  go_ret
  exact ⟨rfl, HB2.out⟩
set_option maxHeartbeats 400000 in
theorem failBad (o : Nat) (err e : Int) (w : World) (h : PickBad o err w) :
    Calls Tryz.prog 66 #[.pointer (some ⟨o, 0, none⟩), .int .i64 e] w fun r w' => r = .returned (.tuple #[]) ∧ w' = w := by
  obtain ⟨he, c6, k, c0⟩ := h
  have he' : (err == 0) = false := by simpa using he
  have he2 : (err != 0) = true := by simpa using he
  have HE := Lib.hid he
  clear he
  go_enter Tryz.func66, Tryz.ntmps66
  go_wp2_with fail
  refine (pickErr o err k w c6 c0 (fun h => absurd h HE.out)).mono ?_
  rintro r w' ⟨rfl, rfl⟩
  go_wp2
  go_end0
  exact ⟨rfl, rfl⟩
end Go.Proofs.YtgghgcilpfdbjaaGreatDoor
