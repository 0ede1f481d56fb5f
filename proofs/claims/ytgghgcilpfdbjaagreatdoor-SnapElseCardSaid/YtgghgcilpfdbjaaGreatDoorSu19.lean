/- The contract of legateref08.May. -/
import Derived.Test.YtgghgcilpfdbjaaGreatDoorSu17
import Derived.Test.YtgghgcilpfdbjaaGreatDoorSu18
import Derived.Test.YtgghgcilpfdbjaaGreatDoorSu05
import Derived.Test.YtgghgcilpfdbjaaGreatDoorSu16
import Derived.Test.YtgghgcilpfdbjaaGreatDoorSu11
import Derived.Test.YtgghgcilpfdbjaaGreatDoorSu09
import Derived.Test.YtgghgcilpfdbjaaGreatDoorSu00
import Derived.BigQuiet
import Derived.Deep.RegionHeld3
import Derived.Deep.QuietTactic
import Derived.Outline

namespace Go.Proofs.YtgghgcilpfdbjaaGreatDoor
open Go.RowKit Go.WideMaps Go.Maps
set_option maxHeartbeats 400000 in
theorem hasBad (o : Nat) (err : Int) (y : ByteArray) (w : World) (h : PickBad o err w) :
   Calls Tryz.prog 63 #[.pointer (some ⟨o, 0, none⟩), .string y] w fun e w' => e = .returned (.bool false) ∧ w = w' := by
 obtain ⟨he, c6, k, c0⟩ := h
 have he' : (err == 0) = false := by simpa using he
 have he2 : (err != 0) = true := by simpa using he
 have HE := Lib.hid he
 clear he
 go_enter Tryz.func63, Tryz.ntmps63
 go_wp2_with fail
 refine (pickErr o err k w c6 c0 (fun h => absurd h HE.out)).mono ?_
 rintro r w' ⟨rfl, rfl⟩
 go_wp2
 go_ret
 exact ⟨rfl, rfl⟩
set_option maxHeartbeats 400000 in
theorem numBad (o : Nat) (err : Int) (y : ByteArray) (l h : Int) (w : World) (hb : PickBad o err w) (ho : o < w.heap.size) :
   Calls Tryz.prog 62 #[.pointer (some ⟨o, 0, none⟩), .string y, .int .i64 l, .int .i64 h] w fun e w' => e = .returned (.int .i64 0) ∧ Below w.heap.size w w' := by
 obtain ⟨W2, hW2⟩ : ∃ W2, W2 = (w.alloc (.cells #[.int .i64 l] 2)).alloc (.cells #[.int .i64 h] 2) := ⟨_, rfl⟩
 have hb2 : Below w.heap.size w W2 := by rw [hW2]; exact ((Below.refl _ _).alloc (Nat.le_refl _) _).alloc (by simp) _
 obtain ⟨he, c6, k, c0⟩ := hb.below hb2 ho
 have HB2 := Lib.hid hb2
 have HW := Lib.hid hW2
 clear hW2 hb2 hb
 have HT := Lib.hid (show ∀ fv, Calls Tryz.prog 102 #[.pointer (some ⟨o, 0, none⟩), .string y, fv] W2 (fun e w' => e = .returned (.int .i64 0) ∧ W2 = w') from fun fv => by
   have he' : (err == 0) = false := by simpa using he
   have he2 : (err != 0) = true := by simpa using he
   have HE := Lib.hid he
   clear he
   go_enter Tryz.func102, Tryz.ntmps102
   go_wp2_with fail
   refine (pickErr o err k W2 c6 c0 (fun h => absurd h HE.out)).mono ?_
   rintro r w' ⟨rfl, rfl⟩
   go_wp2
   go_ret
   exact ⟨rfl, rfl⟩)
 clear he c6 c0
 go_enter Tryz.func62, Tryz.ntmps62
 go_wp2_with fail
 rw [← HW.out]
 refine (HT.out _).mono ?_
 rintro e w' ⟨rfl, rfl⟩
 go_wp2
 go_ret
 exact ⟨rfl, HB2.out⟩
set_option maxHeartbeats 400000 in
theorem failBad (o : Nat) (err e : Int) (w : World) (h : PickBad o err w) :
   Calls Tryz.prog 66 #[.pointer (some ⟨o, 0, none⟩), .int .i64 e] w fun r w' => r = .returned (.tuple #[]) ∧ w' = w := by
 obtain ⟨he, c6, k, c0⟩ := h
 have he' : (err == 0) = false := by simpa using he
 have he2 : (err != 0) = true := by simpa using he
 have HE := Lib.hid he
 clear he
 go_enter Tryz.func66, Tryz.ntmps66
 go_wp2_with fail
 refine (pickErr o err k w c6 c0 (fun h => absurd h HE.out)).mono ?_
 rintro r w' ⟨rfl, rfl⟩
 go_wp2
 go_end0
 exact ⟨rfl, rfl⟩
end Go.Proofs.YtgghgcilpfdbjaaGreatDoor

namespace Go.Proofs.YtgghgcilpfdbjaaGreatDoor
open Go.RowKit
mutual
def JV.partB : JV → Bool
 | .mk k n t ns xs => properB k n t ns xs.length && JV.partsB xs
def JV.partsB : List JV → Bool
 | [] => true
 | x :: r => JV.partB x && JV.partsB r
end
mutual
def JV.depth : JV → Nat
 | .mk k _ _ _ xs => if k ≠ 4 ∧ k ≠ 5 then 0 else JV.depths xs + 1
def JV.depths : List JV → Nat
 | [] => 0
 | x :: r => max (JV.depth x) (JV.depths r)
end
theorem JV.partB_eq (v : JV) : v.partB = (properB v.kind v.n v.t v.names v.items.length && JV.partsB v.items) := by cases v; rw [JV.partB]; rfl
theorem JV.depth_eq (v : JV) : v.depth = if v.kind ≠ 4 ∧ v.kind ≠ 5 then 0 else JV.depths v.items + 1 := by cases v; rw [JV.depth]; rfl
theorem JV.count_eq (v : JV) : v.count = 1 + JV.counts v.items := by cases v; rw [JV.count]; rfl
theorem JV.depths_take (l : List JV) (k : Nat) (h : k < l.length) : JV.depths (l.take (k + 1)) = max (JV.depths (l.take k)) (JV.depth l[k]) := by
 induction l generalizing k with
 | nil => simp at h
 | cons x r ih =>
   cases k with
   | zero => simp [JV.depths]
   | succ k => simp only [List.take_succ_cons, JV.depths, List.getElem_cons_succ]; rw [ih k (by simpa using h)]; omega
theorem JV.partsB_take (l : List JV) (k : Nat) (h : k < l.length) : JV.partsB (l.take (k + 1)) = (JV.partsB (l.take k) && JV.partB l[k]) := by
 induction l generalizing k with
 | nil => simp at h
 | cons x r ih =>
   cases k with
   | zero => simp [JV.partsB]
   | succ k => simp only [List.take_succ_cons, JV.partsB, List.getElem_cons_succ]; rw [ih k (by simpa using h), Bool.and_assoc]
theorem JV.partsB_bad (l : List JV) (k : Nat) (h : k < l.length) (hb : JV.partB l[k] = false) : JV.partsB l = false := by
 induction l generalizing k with
 | nil => simp at h
 | cons x r ih =>
   cases k with
   | zero => simp only [List.getElem_cons_zero] at hb; rw [JV.partsB, hb]; rfl
   | succ k => rw [JV.partsB, ih k (by simpa using h) (by simpa using hb), Bool.and_false]
mutual
theorem JV.depth_le : ∀ v : JV, v.depth ≤ v.wt
 | .mk k _ _ _ xs => by have := JV.depths_le xs; rw [JV.depth, JV.wt]; split <;> omega
theorem JV.depths_le : ∀ l : List JV, JV.depths l ≤ JV.wts l
 | [] => by simp [JV.depths]
 | x :: r => by have := JV.depth_le x; have := JV.depths_le r; rw [JV.depths, JV.wts]; omega
end
theorem JV.proper_leaf {v : JV} (h : properB v.kind v.n v.t v.names v.items.length = true) (h4 : v.kind ≠ 4) (h5 : v.kind ≠ 5) : v.items = [] := by
 unfold properB at h
 split at h
 · simp at h; exact h.2.2.1
 split at h
 · simp at h; exact h.2.2
 split at h
 · simp at h; exact h.1.2.2
 · first | (cases h; done) | (rw [if_neg h4, if_neg h5] at h; cases h)
theorem JV.part_leaf (v : JV) (h4 : v.kind ≠ 4) (h5 : v.kind ≠ 5) : v.partB = properB v.kind v.n v.t v.names v.items.length := by
 rw [JV.partB_eq]
 cases h : properB v.kind v.n v.t v.names v.items.length
 · rfl
 · rw [JV.proper_leaf h h4 h5]; rfl
mutual
theorem JV.may_iff : ∀ (v : JV) (d : Nat) (l : Int), 0 ≤ l → ((v.may d l).1 = true ↔ v.partB = true ∧ (v.count : Int) ≤ l ∧ v.depth ≤ d) ∧ ((v.may d l).1 = true → (v.may d l).2 = l - v.count)
 | .mk k n t ns xs, d, l, hl => by
   rw [JV.may, JV.partB, JV.count, JV.depth]
   by_cases h0 : l - 1 < 0
   · rw [if_pos h0]; simp; omega
   rw [if_neg h0]
   cases hp : properB k n t ns xs.length
   · simp
   simp only [Bool.true_eq_false, if_false, Bool.true_and]
   by_cases hk : k ≠ 4 ∧ k ≠ 5
   · have hx : xs = [] := JV.proper_leaf (v := .mk k n t ns xs) hp hk.1 hk.2
     subst hx
     rw [if_pos hk, if_pos hk]
     simp [JV.partsB, JV.counts]; omega
   · rw [if_neg hk, if_neg hk]
     by_cases hd : d = 0
     · rw [if_pos hd]; simp; omega
     · rw [if_neg hd]
       obtain ⟨i1, i2⟩ := JV.mays_iff xs (d - 1) (l - 1) (by omega)
       refine ⟨?_, fun h => ?_⟩
       · rw [i1]; constructor
         · rintro ⟨a, b, c⟩; exact ⟨a, by push_cast; omega, by omega⟩
         · rintro ⟨a, b, c⟩; exact ⟨a, by push_cast at b; omega, by omega⟩
       · rw [i2 h]; push_cast; omega
theorem JV.mays_iff : ∀ (xs : List JV) (d : Nat) (l : Int), 0 ≤ l → ((JV.mays xs d l).1 = true ↔ JV.partsB xs = true ∧ (JV.counts xs : Int) ≤ l ∧ JV.depths xs ≤ d) ∧ ((JV.mays xs d l).1 = true → (JV.mays xs d l).2 = l - JV.counts xs)
 | [], d, l, hl => by simp [JV.mays, JV.partsB, JV.counts, JV.depths]; omega
 | x :: r, d, l, hl => by
   obtain ⟨a1, a2⟩ := JV.may_iff x d l hl
   rw [JV.mays, JV.partsB, JV.counts, JV.depths]
   cases h : (JV.may x d l).1
   · rw [h] at a1
     simp only [Bool.false_eq_true, if_false, false_iff, not_and, Bool.and_eq_true, false_implies, and_true] at a1 ⊢
     intro hp hc
     have := a1 hp.1 (by push_cast at hc; omega)
     omega
   · rw [if_pos rfl]
     have hb := (JV.may_bd x d l hl).2.2 h
     obtain ⟨c1, c2, c3⟩ := a1.1 h
     have e2 := a2 h
     obtain ⟨i1, i2⟩ := JV.mays_iff r d _ hb
     rw [i1, e2]
     refine ⟨?_, fun hh => ?_⟩
     · rw [c1, Bool.true_and]; constructor
       · rintro ⟨a, b, c⟩; exact ⟨a, by push_cast; omega, by omega⟩
       · rintro ⟨a, b, c⟩; exact ⟨a, by push_cast at b; omega, by omega⟩
     · have hh' : (JV.mays r d (JV.may x d l).2).1 = true := by rw [e2]; exact i1.2 (by rw [e2]; exact hh) |> fun z => by rwa [e2] at z
       have := i2 hh'
       rw [e2] at this
       rw [this]; push_cast; omega
end
theorem JV.mayB_iff (v : JV) : v.mayB = (v.partB && decide (v.count ≤ 8192) && decide (v.depth ≤ 12)) := by
 unfold JV.mayB
 rw [Bool.eq_iff_iff, (JV.may_iff v 12 8192 (by omega)).1]
 simp only [Bool.and_eq_true, decide_eq_true_eq]
 constructor
 · rintro ⟨a, b, c⟩; exact ⟨⟨a, by omega⟩, c⟩
 · rintro ⟨⟨a, b⟩, c⟩; exact ⟨a, by omega, c⟩
set_option maxHeartbeats 400000 in
theorem refRise (ns : List ByteArray) (an : Option Addr) (cn : Nat) (w : World) (h : StrsAt w 0 w.heap.size an ns) (hn : ns.length ≤ 4294967296) :
   Calls Tryz.prog 127 #[.slice an ns.length cn] w fun e w' => e = .returned (.bool (rises ns)) ∧ Below w.heap.size w w' := by
 have HS := Lib.hid h; clear h
 go_enter Tryz.func127, Tryz.ntmps127
 go_wp2
 go_loopw [3] (fun i wr => ∃ k : Nat, 1 ≤ k ∧ (k ≤ ns.length ∨ k = 1) ∧ i = .int .i64 k ∧ rises (ns.take k) = true ∧ Below w.heap.size w wr) (fun i _ => ns.length - (intOf i).toNat)
 case atStart => exact ⟨1, by omega, .inr rfl, rfl, by cases ns <;> rfl, Below.refl _ _⟩
 case round =>
   obtain ⟨k, hk1, hk2, rfl, hr, hbel⟩ := hrel
   by_cases hlt : k < ns.length
   · obtain ⟨b, off, rfl, _, hb, c1⟩ := (HS.out.below hbel (Nat.le_refl _) (Nat.le_refl _) hbel.size).at k hlt
     obtain ⟨b', off', hbb, _, _, c0⟩ := (HS.out.below hbel (Nat.le_refl _) (Nat.le_refl _) hbel.size).at (k - 1) (by omega)
     obtain ⟨rfl, rfl⟩ : b = b' ∧ off = off' := by simpa using hbb
     have HB := Lib.hid hbel
     have HR := Lib.hid hr
     have H2 := Lib.hid (rises_two ns k hk1 hlt)
     have HX := Lib.hid (rises_bad ns k hk1 hlt)
     clear hbel hr hbb
     obtain ⟨x, hx⟩ : ∃ x, x = ns[k-1] := ⟨_, rfl⟩
     obtain ⟨y, hy⟩ : ∃ y, y = ns[k] := ⟨_, rfl⟩
     rw [← hx] at c0 H2 HX
     rw [← hy] at c1 H2 HX
     clear hx hy
     have i0 : IntKind.i64.wrap ((k : Int) - 1) = (k : Int) - 1 := IntWalk.i64_in _ (by omega)
     have j0 : 0 ≤ (k : Int) - 1 := by omega
     have j1 : 1 ≤ (k : Int) := by omega
     have j2 : (k : Int) - 1 < (ns.length : Int) := by omega
     have j3 : (k : Int) < (ns.length : Int) := by omega
     have t0 : ((k : Int) - 1).toNat = k - 1 := by omega
     cases hlss : Op.bytesLess x.toList y.toList
     · have HF := Lib.hid (HX.out hlss)
       have hle : (Op.bytesLess y.toList x.toList || y.toList == x.toList) = true := by
         cases h : Op.bytesLess y.toList x.toList
         · rw [less_tri _ _ hlss h]; simp
         · rfl
       clear hlss
       go_wp2_with fail
       go_quiet (fail)
       go_wp2
       go_ret
       exact ⟨by rw [HF.out]; rfl, Below.drewN HB.out _⟩
     · have HL := Lib.hid hlss
       have hle1 : Op.bytesLess y.toList x.toList = false := by
         cases h : Op.bytesLess y.toList x.toList
         · rfl
         · have := less_trans _ _ _ hlss h; rw [less_irrefl] at this; cases this
       have hle2 : (y.toList == x.toList) = false := by
         rw [beq_eq_false_iff_ne]; intro h; rw [h, less_irrefl] at hlss; cases hlss
       clear hlss
       go_wp2_with fail
       go_quiet (fail)
       go_wp2
       go_roundw
       case rel => exact ⟨k + 1, by omega, by omega, by go_num, by rw [H2.out, HR.out, HL.out]; rfl, Below.drewN HB.out _⟩
       case measure => simp [intOf]; omega
   · have HB := Lib.hid hbel
     have HF := Lib.hid (show rises ns = true by
       have : ns.take k = ns := List.take_of_length_le (by omega)
       rwa [this] at hr)
     clear hr hbel
     go_wp2
     go_ret
     exact ⟨by rw [HF.out]; rfl, HB.out⟩
set_option maxHeartbeats 400000 in
theorem refDepth (N : Nat) : ∀ (v : JV) (x : Value) (w : World), v.wt ≤ N → N ≤ 4294967296 → Rep w 0 w.heap.size v x →
   Calls Tryz.prog 91 #[x] w fun e w' => e = .returned (.int .i64 v.depth) ∧ Below w.heap.size w w' := by
 induction N with
 | zero => intro v x w h; have := v.wt_pos; omega
 | succ N ih =>
   intro v x w hN hM hR
   obtain ⟨an, cn, ai, ci, rfl, h1, h2, h3, h4⟩ := hR.parts
   obtain ⟨b1, b2, b3, b4⟩ := v.wt_bd
   have IH := Lib.hid ih; clear ih
   have H4 := Lib.hid h4; clear h4 hR h3
   have HD := Lib.hid v.depth_eq
   by_cases hk : v.kind ≠ 4 ∧ v.kind ≠ 5
   · rw [if_pos hk] at HD
     have e4 : (v.kind == 4) = false := by simpa using hk.1
     have e5 : (v.kind == 5) = false := by simpa using hk.2
     have e6 : (v.kind != 4) = true := by simpa using hk.1
     have e7 : (v.kind != 5) = true := by simpa using hk.2
     clear hk
     go_enter Tryz.func91, Tryz.ntmps91
     go_wp2
     go_ret
     exact ⟨by rw [HD.out] <;> rfl, (Below.refl _ _).alloc (Nat.le_refl _) _⟩
   · rw [if_neg hk] at HD
     have hk' : v.kind = 4 ∨ v.kind = 5 := by omega
     obtain ⟨kd, hkd⟩ : ∃ kd, kd = v.kind := ⟨_, rfl⟩
     rw [← hkd] at hk' ⊢
     clear hk hkd
     have hD := JV.depths_le v.items
     rcases hk' with rfl | rfl
     all_goals
       go_enter Tryz.func91, Tryz.ntmps91
       go_wp2
       go_loopw [3, 4] (fun s i wr => ∃ k : Nat, k ≤ v.items.length ∧ i = .int .i64 k ∧ s = .int .i64 (JV.depths (v.items.take k) : Nat) ∧ Below w.heap.size w wr ∧ wr.cell? ⟨w.heap.size, 4, none⟩ = some (.slice ai v.items.length ci) ∧ w.heap.size < wr.heap.size) (fun _ i _ => v.items.length - (intOf i).toNat)
       case atStart => exact ⟨0, Nat.zero_le _, rfl, by simp [JV.depths], (Below.refl _ _).alloc (Nat.le_refl _) _, by go_simp, by simp⟩
       case round =>
         obtain ⟨k, hk, rfl, rfl, hw, hc4, hz⟩ := hrel
         by_cases hlt : k < v.items.length
         · obtain ⟨b, off, c0, c1, c2, c3, c4, rfl, _, hb, e0, e1, e2, e3, e4, hrep⟩ := (H4.out.below hw (Nat.le_refl _) (Nat.le_refl _) hw.size).at k hlt
           have hk1 := JV.wts_get v.items k hlt
           have hk2 := JV.depth_le v.items[k]
           have hk3 := JV.depths_le (v.items.take k)
           have hk4 := JV.wts_take v.items k
           have HS := Lib.hid (JV.depths_take v.items k hlt)
           have HW := Lib.hid hw; clear hw
           have HR := Lib.hid hrep; clear hrep
           go_wp2_with fail
           refine (IH.out v.items[k] _ _ (by omega) (by omega) HR.out).mono ?_
           rintro e w1 ⟨rfl, hb1⟩
           have HC4 := Lib.hid (show w1.cell? ⟨w.heap.size, 4, none⟩ = _ from (hb1.cell hz).trans hc4)
           have hz1 : w.heap.size < w1.heap.size := Nat.lt_of_lt_of_le hz hb1.size
           have HB1 := Lib.hid hb1; clear hb1
           generalize JV.depth v.items[k] = dk at *
           generalize JV.depths (v.items.take k) = ds at *
           go_wp2
           go_roundw
           case rel => exact ⟨k + 1, by omega, by go_num, by rw [HS.out] <;> (congr 1; omega), HW.out.trans (HB1.out.mono HW.out.size), HC4.out, hz1⟩
           case measure => simp [intOf]; omega
         · obtain rfl : k = v.items.length := by omega
           have HW := Lib.hid hw; clear hw
           have HE := Lib.hid (show v.depth = JV.depths (v.items.take v.items.length) + 1 by rw [HD.out, List.take_length])
           have hk3 : JV.depths (v.items.take v.items.length) ≤ 4294967296 := by rw [List.take_length]; omega
           generalize JV.depths (v.items.take v.items.length) = ds at *
           go_wp2
           go_ret
           exact ⟨ret_int (by rw [HE.out]; push_cast; rfl), HW.out⟩
set_option maxHeartbeats 2000000 in
set_option maxRecDepth 100000 in
theorem refPart (N : Nat) : ∀ (v : JV) (x : Value) (w : World), v.wt ≤ N → N ≤ 4294967296 → Rep w 0 w.heap.size v x →
   Calls Tryz.prog 89 #[x] w fun e w' => e = .returned (.bool v.partB) ∧ Below w.heap.size w w' := by
 induction N with
 | zero => intro v x w h; have := v.wt_pos; omega
 | succ N ih =>
   intro v x w hN hM hR
   obtain ⟨an, cn, ai, ci, rfl, h1, h2, h3, h4⟩ := hR.parts
   obtain ⟨b1, b2, b3, b4⟩ := v.wt_bd
   have b5 := v.wt_eq
   have IH := Lib.hid ih
   have H3 := Lib.hid h3
   have H4 := Lib.hid h4
   have HP := Lib.hid v.partB_eq
   have HPL := Lib.hid v.part_leaf
   have hbs : bytesSum v.names ≤ 4294967296 := by omega
   clear ih h3 h4 hR h1 h2 b5
   obtain ⟨k, hk⟩ : ∃ k, k = v.kind := ⟨_, rfl⟩
   obtain ⟨n, hn⟩ : ∃ n, n = v.n := ⟨_, rfl⟩
   obtain ⟨t, ht⟩ : ∃ t, t = v.t := ⟨_, rfl⟩
   obtain ⟨ns, hns⟩ : ∃ ns, ns = v.names := ⟨_, rfl⟩
   obtain ⟨xs, hxs⟩ : ∃ xs, xs = v.items := ⟨_, rfl⟩
   obtain ⟨pb, hpb⟩ : ∃ pb, pb = v.partB := ⟨_, rfl⟩
   rw [← hk, ← hn, ← ht, ← hns, ← hxs, ← hpb] at HP HPL
   rw [← hns] at H3 b2 hbs
   rw [← hxs] at H4 b3 b4
   rw [← ht] at b1
   rw [← hk, ← hn, ← ht, ← hns, ← hxs, ← hpb]
   have hwN : JV.wts xs ≤ N := by omega
   have hwv : v.wt ≤ 4294967296 := by omega
   clear hk hn ht hns hxs hpb hN
   obtain ⟨ln, hln⟩ : ∃ ln, ln = ns.length := ⟨_, rfl⟩
   obtain ⟨li, hli⟩ : ∃ li, li = xs.length := ⟨_, rfl⟩
   rw [← hln] at b2 ⊢
   rw [← hli] at b3 HP HPL ⊢
   have HLN := Lib.hid hln
   have HLI := Lib.hid hli
   clear hln hli
   by_cases hk1 : k = 1
   · subst hk1
     have HQ := Lib.hid (show pb = decide (t.toList = [] ∧ ln = 0 ∧ li = 0 ∧ (n = 0 ∨ n = 1)) by rw [HPL.out (by decide) (by decide), HLN.out]; rfl)
     go_enter Tryz.func89, Tryz.ntmps89
     go_wp2
     all_goals go_ret
     all_goals refine ⟨ret_bool ?_, (Below.refl _ _).alloc (Nat.le_refl _) _⟩
     all_goals rw [HQ.out]
     all_goals (first | (simp_all; done) | (rw [Bool.eq_iff_iff]; simp_all; done) | (simp_all; omega))
   by_cases hk2 : k = 2
   · subst hk2
     have HQ := Lib.hid (show pb = decide (t.toList = [] ∧ ln = 0 ∧ li = 0) by rw [HPL.out (by decide) (by decide), HLN.out]; rfl)
     clear hk1
     go_enter Tryz.func89, Tryz.ntmps89
     go_wp2
     all_goals go_ret
     all_goals refine ⟨ret_bool ?_, (Below.refl _ _).alloc (Nat.le_refl _) _⟩
     all_goals rw [HQ.out]
     all_goals (first | (simp_all; done) | (rw [Bool.eq_iff_iff]; simp_all; done) | (simp_all; omega))
   by_cases hk3 : k = 3
   · subst hk3
     have HQ := Lib.hid (show pb = (decide (n = 0 ∧ ln = 0 ∧ li = 0) && txtOk t) by rw [HPL.out (by decide) (by decide), HLN.out]; rfl)
     clear hk1 hk2
     by_cases hn : n = 0
     · subst hn
       cases htx : txtOk t
       · rw [htx, Bool.and_false] at HQ
         have HT := Lib.hid (fun w => refText t w (by omega))
         rw [htx] at HT
         clear htx
         go_enter Tryz.func89, Tryz.ntmps89
         go_wp2_with (go_at_call 126; refine (HT.out _).mono ?_; rintro e w1 ⟨rfl, hb1⟩; have HB1 := Lib.hid hb1; clear hb1)
         go_ret
         exact ⟨by rw [HQ.out] <;> rfl, ((Below.refl _ _).alloc (Nat.le_refl _) _).trans (HB1.out.mono (by simp))⟩
       · rw [htx, Bool.and_true] at HQ
         have HT := Lib.hid (fun w => refText t w (by omega))
         rw [htx] at HT
         clear htx
         go_enter Tryz.func89, Tryz.ntmps89
         go_wp2_with fail
         refine (HT.out _).mono ?_
         rintro e w1 ⟨rfl, hb1⟩
         have c3 : w1.cell? ⟨w.heap.size, 3, none⟩ = some (.slice an ln cn) := by rw [hb1.cell (by simp)]; go_simp
         have c4 : w1.cell? ⟨w.heap.size, 4, none⟩ = some (.slice ai li ci) := by rw [hb1.cell (by simp)]; go_simp
         have HB1 := Lib.hid (((Below.refl _ _).alloc (Nat.le_refl _) _).trans (hb1.mono (by simp)))
         clear hb1
         go_wp2
         all_goals go_ret
         all_goals refine ⟨ret_bool ?_, HB1.out⟩
         all_goals rw [HQ.out]
         all_goals (first | (simp_all; done) | (rw [Bool.eq_iff_iff]; simp_all; done) | (simp_all; omega))
     · have HF := Lib.hid (show pb = false by rw [HQ.out, decide_eq_false (fun h => hn h.1)]; rfl)
       go_enter Tryz.func89, Tryz.ntmps89
       go_wp2
       go_ret
       exact ⟨by rw [HF.out] <;> rfl, (Below.refl _ _).alloc (Nat.le_refl _) _⟩
   by_cases hk45 : k = 4 ∨ k = 5
   · clear hk1 hk2 hk3 HPL
     by_cases hg : n = 0 ∧ t.toList = [] ∧ (k = 4 → ln = 0) ∧ (k = 5 → ln = li)
     · obtain ⟨rfl, te, g4, g5⟩ := hg
       have HQ := Lib.hid (show pb = (rises ns && ns.all txtOk && JV.partsB xs) by
         rw [HP.out]
         rcases hk45 with rfl | rfl
         · have hz : ns = [] := List.eq_nil_of_length_eq_zero (by rw [← HLN.out]; exact g4 rfl)
           subst hz
           simp [properB, te, rises]
         · have hz : ns.length = li := by rw [← HLN.out]; exact g5 rfl
           simp [properB, te, hz])
       clear HP
       rcases hk45 with rfl | rfl
       · have h0 : ln = 0 := g4 rfl
         subst h0
         clear g4 g5
         cases hr : rises ns
         · have HF := Lib.hid (show pb = false by rw [HQ.out, hr]; rfl)
           have HRS := Lib.hid (fun w (h : StrsAt w 0 w.heap.size an ns) => refRise ns an cn w h (by rw [← HLN.out]; omega))
           rw [hr, ← HLN.out] at HRS
           clear hr
           go_enter Tryz.func89, Tryz.ntmps89
           go_wp2_with fail
           refine (HRS.out _ (H3.out.below ((Below.refl _ _).alloc (Nat.le_refl _) _) (Nat.le_refl _) (Nat.le_refl _) (by simp))).mono ?_
           rintro e w1 ⟨rfl, hb1⟩
           have HB1 := Lib.hid (((Below.refl _ _).alloc (Nat.le_refl _) _).trans (hb1.mono (by simp)))
           clear hb1
           go_wp2
           go_ret
           exact ⟨by rw [HF.out] <;> rfl, HB1.out⟩
         · rw [hr, Bool.true_and] at HQ
           have HRS := Lib.hid (fun w (h : StrsAt w 0 w.heap.size an ns) => refRise ns an cn w h (by rw [← HLN.out]; omega))
           rw [hr, ← HLN.out] at HRS
           clear hr
           go_enter Tryz.func89, Tryz.ntmps89
           go_wp2_with fail
           refine (HRS.out _ (H3.out.below ((Below.refl _ _).alloc (Nat.le_refl _) _) (Nat.le_refl _) (Nat.le_refl _) (by simp))).mono ?_
           rintro e w1 ⟨rfl, hb1⟩
           have HX1 := Lib.hid (show w1.heap[w.heap.size]? = some (.cells #[.int .u8 4, .int .i64 0, .string t, .slice an 0 cn, .slice ai li ci] 30 (0, 0)) by rw [hb1.block _ (by simp)]; exact heap_alloc_new w _)
           have HB1 := Lib.hid (((Below.refl _ _).alloc (Nat.le_refl _) _).trans (hb1.mono (by simp)))
           clear hb1 HRS
           go_wp2_with fail
           go_loopw [3] (fun i wr => ∃ j : Nat, j ≤ 0 ∧ i = .int .i64 j ∧ (ns.take j).all txtOk = true ∧ Below w.heap.size w wr ∧ wr.heap[w.heap.size]? = some (.cells #[.int .u8 4, .int .i64 0, .string t, .slice an 0 cn, .slice ai li ci] 30 (0, 0))) (fun i _ => 0 - (intOf i).toNat)
           case atStart => exact ⟨0, by omega, rfl, by simp, HB1.out, HX1.out⟩
           case round =>
             clear HB1 HX1
             obtain ⟨j, hj, rfl, ha, hbel, hx⟩ := hrel
             have c3 : wr.cell? ⟨w.heap.size, 3, none⟩ = some (.slice an 0 cn) := box_cell hx rfl
             have HX := Lib.hid hx
             have HA1 := Lib.hid ha
             have HB := Lib.hid hbel
             have hz : w.heap.size < wr.heap.size := heap_lt hx
             clear ha hbel hx
             by_cases hlt : j < 0
             · exact absurd hlt (by omega)
             · have HQ2 := Lib.hid (show pb = JV.partsB xs by
                 have : ns.all txtOk = true := by
                   have h := HA1.out
                   rwa [List.take_of_length_le (by rw [← HLN.out]; omega)] at h
                 rw [HQ.out, this]; rfl)
               clear HA1 HQ
               obtain ⟨wo, rfl⟩ : ∃ wo : World, wo = wr := ⟨_, rfl⟩
               go_wp2_with fail
               go_loopw [4] (fun i wr => ∃ q : Nat, q ≤ li ∧ i = .int .i64 q ∧ JV.partsB (xs.take q) = true ∧ Below w.heap.size w wr ∧ wr.heap[w.heap.size]? = some (.cells #[.int .u8 4, .int .i64 0, .string t, .slice an 0 cn, .slice ai li ci] 30 (0, 0))) (fun i _ => li - (intOf i).toNat)
               case atStart => exact ⟨0, by omega, rfl, rfl, HB.out, HX.out⟩
               case round =>
                 clear HB HX c3
                 obtain ⟨q, hq, rfl, ha, hbel, hx⟩ := hrel
                 have c4 : wr.cell? ⟨w.heap.size, 4, none⟩ = some (.slice ai li ci) := box_cell hx rfl
                 have HX := Lib.hid hx
                 have HA1 := Lib.hid ha
                 have HB := Lib.hid hbel
                 have hz2 : w.heap.size < wr.heap.size := heap_lt hx
                 clear ha hbel hx
                 by_cases hql : q < li
                 · have hqx : q < xs.length := by rw [← HLI.out]; exact hql
                   obtain ⟨b, off, c0, c1, c2, c3, c5, hae, _, hb2, e0, e1, e2, e3, e4, hrep⟩ := (H4.out.below HB.out (Nat.le_refl _) (Nat.le_refl _) HB.out.size).at q hqx
                   subst hae
                   have hwq := JV.wts_get xs q hqx
                   have HA := Lib.hid (JV.partsB_take xs q hqx)
                   have HN := Lib.hid (JV.partsB_bad xs q hqx)
                   have HI := Lib.hid (IH.out xs[q] _ wr (by omega) (by omega) hrep)
                   clear hrep
                   generalize xs[q] = it at HA HN HI hwq
                   cases hy : it.partB
                   · have HF := Lib.hid (show pb = false by rw [HQ2.out, HN.out hy])
                     rw [hy] at HI
                     clear hy
                     go_wp2_with fail
                     refine HI.out.mono ?_
                     rintro e w2 ⟨rfl, hb2'⟩
                     have HB2 := Lib.hid (HB.out.trans (hb2'.mono HB.out.size))
                     clear hb2'
                     go_wp2
                     go_ret
                     exact ⟨by rw [HF.out] <;> rfl, HB2.out⟩
                   · rw [hy] at HI HA
                     clear hy
                     go_wp2_with fail
                     refine HI.out.mono ?_
                     rintro e w2 ⟨rfl, hb2'⟩
                     have HB2 := Lib.hid (HB.out.trans (hb2'.mono HB.out.size))
                     have HX2 := Lib.hid (show w2.heap[w.heap.size]? = _ from (hb2'.block _ hz2).trans HX.out)
                     clear hb2'
                     go_wp2
                     go_roundw
                     case rel => exact ⟨q + 1, by omega, by go_num, by rw [HA.out, HA1.out]; rfl, HB2.out, HX2.out⟩
                     case measure => simp [intOf]; omega
                 · have HF := Lib.hid (show pb = true by
                     have h := HA1.out
                     rw [List.take_of_length_le (by rw [← HLI.out]; omega)] at h
                     rw [HQ2.out, h])
                   go_wp2
                   go_ret
                   exact ⟨by rw [HF.out] <;> rfl, HB.out⟩
       · have h0 : ln = li := g5 rfl
         subst h0
         clear g4 g5
         cases hr : rises ns
         · have HF := Lib.hid (show pb = false by rw [HQ.out, hr]; rfl)
           have HRS := Lib.hid (fun w (h : StrsAt w 0 w.heap.size an ns) => refRise ns an cn w h (by rw [← HLN.out]; omega))
           rw [hr, ← HLN.out] at HRS
           clear hr
           go_enter Tryz.func89, Tryz.ntmps89
           go_wp2_with fail
           refine (HRS.out _ (H3.out.below ((Below.refl _ _).alloc (Nat.le_refl _) _) (Nat.le_refl _) (Nat.le_refl _) (by simp))).mono ?_
           rintro e w1 ⟨rfl, hb1⟩
           have HB1 := Lib.hid (((Below.refl _ _).alloc (Nat.le_refl _) _).trans (hb1.mono (by simp)))
           clear hb1
           go_wp2
           go_ret
           exact ⟨by rw [HF.out] <;> rfl, HB1.out⟩
         · rw [hr, Bool.true_and] at HQ
           have HRS := Lib.hid (fun w (h : StrsAt w 0 w.heap.size an ns) => refRise ns an cn w h (by rw [← HLN.out]; omega))
           rw [hr, ← HLN.out] at HRS
           clear hr
           go_enter Tryz.func89, Tryz.ntmps89
           go_wp2_with fail
           refine (HRS.out _ (H3.out.below ((Below.refl _ _).alloc (Nat.le_refl _) _) (Nat.le_refl _) (Nat.le_refl _) (by simp))).mono ?_
           rintro e w1 ⟨rfl, hb1⟩
           have HX1 := Lib.hid (show w1.heap[w.heap.size]? = some (.cells #[.int .u8 5, .int .i64 0, .string t, .slice an ln cn, .slice ai ln ci] 30 (0, 0)) by rw [hb1.block _ (by simp)]; exact heap_alloc_new w _)
           have HB1 := Lib.hid (((Below.refl _ _).alloc (Nat.le_refl _) _).trans (hb1.mono (by simp)))
           clear hb1 HRS
           go_wp2_with fail
           go_loopw [3] (fun i wr => ∃ j : Nat, j ≤ ln ∧ i = .int .i64 j ∧ (ns.take j).all txtOk = true ∧ Below w.heap.size w wr ∧ wr.heap[w.heap.size]? = some (.cells #[.int .u8 5, .int .i64 0, .string t, .slice an ln cn, .slice ai ln ci] 30 (0, 0))) (fun i _ => ln - (intOf i).toNat)
           case atStart => exact ⟨0, by omega, rfl, by simp, HB1.out, HX1.out⟩
           case round =>
             clear HB1 HX1
             obtain ⟨j, hj, rfl, ha, hbel, hx⟩ := hrel
             have c3 : wr.cell? ⟨w.heap.size, 3, none⟩ = some (.slice an ln cn) := box_cell hx rfl
             have HX := Lib.hid hx
             have HA1 := Lib.hid ha
             have HB := Lib.hid hbel
             have hz : w.heap.size < wr.heap.size := heap_lt hx
             clear ha hbel hx
             by_cases hlt : j < ln
             · have hltn : j < ns.length := by rw [← HLN.out]; exact hlt
               obtain ⟨b, off, hae, _, hb2, c0⟩ := (H3.out.below HB.out (Nat.le_refl _) (Nat.le_refl _) HB.out.size).at j hltn
               subst hae
               have hsz := bytesSum_get ns j hltn
               have HA := Lib.hid (show (ns.take (j + 1)).all txtOk = ((ns.take j).all txtOk && txtOk ns[j]) by rw [List.take_succ_eq_append_getElem hltn, List.all_append]; simp)
               have HN := Lib.hid (show txtOk ns[j] = false → ns.all txtOk = false from fun hf => by rw [List.all_eq_false]; exact ⟨ns[j], List.getElem_mem _, by simp [hf]⟩)
               generalize ns[j] = y at c0 hsz HA HN
               have HT := Lib.hid (refText y wr (by omega))
               cases hy : txtOk y
               · have HF := Lib.hid (show pb = false by rw [HQ.out, HN.out hy]; rfl)
                 rw [hy] at HT
                 clear hy
                 go_wp2_with fail
                 refine HT.out.mono ?_
                 rintro e w2 ⟨rfl, hb2'⟩
                 have HB2 := Lib.hid (HB.out.trans (hb2'.mono HB.out.size))
                 clear hb2'
                 go_wp2
                 go_ret
                 exact ⟨by rw [HF.out] <;> rfl, HB2.out⟩
               · rw [hy] at HT HA
                 clear hy
                 go_wp2_with fail
                 refine HT.out.mono ?_
                 rintro e w2 ⟨rfl, hb2'⟩
                 have HB2 := Lib.hid (HB.out.trans (hb2'.mono HB.out.size))
                 have HX2 := Lib.hid (show w2.heap[w.heap.size]? = _ from (hb2'.block _ hz).trans HX.out)
                 clear hb2'
                 go_wp2
                 go_roundw
                 case rel => exact ⟨j + 1, by omega, by go_num, by rw [HA.out, HA1.out]; rfl, HB2.out, HX2.out⟩
                 case measure => simp [intOf]; omega
             · have HQ2 := Lib.hid (show pb = JV.partsB xs by
                 have : ns.all txtOk = true := by
                   have h := HA1.out
                   rwa [List.take_of_length_le (by rw [← HLN.out]; omega)] at h
                 rw [HQ.out, this]; rfl)
               clear HA1 HQ
               obtain ⟨wo, rfl⟩ : ∃ wo : World, wo = wr := ⟨_, rfl⟩
               go_wp2_with fail
               go_loopw [4] (fun i wr => ∃ q : Nat, q ≤ ln ∧ i = .int .i64 q ∧ JV.partsB (xs.take q) = true ∧ Below w.heap.size w wr ∧ wr.heap[w.heap.size]? = some (.cells #[.int .u8 5, .int .i64 0, .string t, .slice an ln cn, .slice ai ln ci] 30 (0, 0))) (fun i _ => ln - (intOf i).toNat)
               case atStart => exact ⟨0, by omega, rfl, rfl, HB.out, HX.out⟩
               case round =>
                 clear HB HX c3
                 obtain ⟨q, hq, rfl, ha, hbel, hx⟩ := hrel
                 have c4 : wr.cell? ⟨w.heap.size, 4, none⟩ = some (.slice ai ln ci) := box_cell hx rfl
                 have HX := Lib.hid hx
                 have HA1 := Lib.hid ha
                 have HB := Lib.hid hbel
                 have hz2 : w.heap.size < wr.heap.size := heap_lt hx
                 clear ha hbel hx
                 by_cases hql : q < ln
                 · have hqx : q < xs.length := by rw [← HLI.out]; exact hql
                   obtain ⟨b, off, c0, c1, c2, c3, c5, hae, _, hb2, e0, e1, e2, e3, e4, hrep⟩ := (H4.out.below HB.out (Nat.le_refl _) (Nat.le_refl _) HB.out.size).at q hqx
                   subst hae
                   have hwq := JV.wts_get xs q hqx
                   have HA := Lib.hid (JV.partsB_take xs q hqx)
                   have HN := Lib.hid (JV.partsB_bad xs q hqx)
                   have HI := Lib.hid (IH.out xs[q] _ wr (by omega) (by omega) hrep)
                   clear hrep
                   generalize xs[q] = it at HA HN HI hwq
                   cases hy : it.partB
                   · have HF := Lib.hid (show pb = false by rw [HQ2.out, HN.out hy])
                     rw [hy] at HI
                     clear hy
                     go_wp2_with fail
                     refine HI.out.mono ?_
                     rintro e w2 ⟨rfl, hb2'⟩
                     have HB2 := Lib.hid (HB.out.trans (hb2'.mono HB.out.size))
                     clear hb2'
                     go_wp2
                     go_ret
                     exact ⟨by rw [HF.out] <;> rfl, HB2.out⟩
                   · rw [hy] at HI HA
                     clear hy
                     go_wp2_with fail
                     refine HI.out.mono ?_
                     rintro e w2 ⟨rfl, hb2'⟩
                     have HB2 := Lib.hid (HB.out.trans (hb2'.mono HB.out.size))
                     have HX2 := Lib.hid (show w2.heap[w.heap.size]? = _ from (hb2'.block _ hz2).trans HX.out)
                     clear hb2'
                     go_wp2
                     go_roundw
                     case rel => exact ⟨q + 1, by omega, by go_num, by rw [HA.out, HA1.out]; rfl, HB2.out, HX2.out⟩
                     case measure => simp [intOf]; omega
                 · have HF := Lib.hid (show pb = true by
                     have h := HA1.out
                     rw [List.take_of_length_le (by rw [← HLI.out]; omega)] at h
                     rw [HQ2.out, h])
                   go_wp2
                   go_ret
                   exact ⟨by rw [HF.out] <;> rfl, HB.out⟩
     · have HF := Lib.hid (show pb = false by
         rw [HP.out]
         have : properB k n t ns li = false := by
           rcases hk45 with rfl | rfl
           · simp only [properB, show ¬ (4 : Int) = 1 by decide, show ¬ (4 : Int) = 2 by decide, show ¬ (4 : Int) = 3 by decide, if_false, if_true]
             exact decide_eq_false fun h => hg ⟨h.1, h.2.1, fun _ => by rw [HLN.out]; exact h.2.2, fun h => by omega⟩
           · simp only [properB, show ¬ (5 : Int) = 1 by decide, show ¬ (5 : Int) = 2 by decide, show ¬ (5 : Int) = 3 by decide, show ¬ (5 : Int) = 4 by decide, if_false, if_true]
             rw [decide_eq_false fun h => hg ⟨h.1, h.2.1, fun h => by omega, fun _ => by rw [HLN.out]; exact h.2.2⟩]; rfl
         rw [this]; rfl)
       clear HP
       by_cases a1 : n = 0
       · subst a1
         by_cases a2 : t.toList = []
         · rcases hk45 with rfl | rfl
           · have a5 : 0 < ln := Nat.pos_of_ne_zero fun e => hg ⟨rfl, a2, fun _ => e, fun h => by omega⟩
             clear hg
             go_enter Tryz.func89, Tryz.ntmps89
             go_wp2
             go_ret
             exact ⟨by rw [HF.out] <;> rfl, (Below.refl _ _).alloc (Nat.le_refl _) _⟩
           · have a5 : ¬ (ln : Int) = (li : Int) := fun e => hg ⟨rfl, a2, fun h => by omega, fun _ => by omega⟩
             clear hg
             go_enter Tryz.func89, Tryz.ntmps89
             go_wp2_with fail
             all_goals first | (exfalso; omega) | (go_ret; exact ⟨by rw [HF.out] <;> rfl, (Below.refl _ _).alloc (Nat.le_refl _) _⟩)
         · have a3 : t.toList.isEmpty = false := by rw [isEmpty_dec]; simp [a2]
           clear hg
           rcases hk45 with rfl | rfl
           all_goals
             go_enter Tryz.func89, Tryz.ntmps89
             go_wp2
             go_ret
             exact ⟨by rw [HF.out] <;> rfl, (Below.refl _ _).alloc (Nat.le_refl _) _⟩
       · clear hg
         rcases hk45 with rfl | rfl
         all_goals
           go_enter Tryz.func89, Tryz.ntmps89
           go_wp2
           go_ret
           exact ⟨by rw [HF.out] <;> rfl, (Below.refl _ _).alloc (Nat.le_refl _) _⟩
   · have HF := Lib.hid (show pb = false by rw [HP.out]; unfold properB; rw [if_neg hk1, if_neg hk2, if_neg hk3, if_neg (fun h => hk45 (.inl h)), if_neg (fun h => hk45 (.inr h))]; rfl)
     have e1 : (k == 1) = false := by simp [hk1]
     have e2 : (k == 2) = false := by simp [hk2]
     have e3 : (k == 3) = false := by simp [hk3]
     have e4 : (k == 4) = false := by simp; omega
     have e5 : (k == 5) = false := by simp; omega
     clear hk1 hk2 hk3 hk45
     go_enter Tryz.func89, Tryz.ntmps89
     go_wp2
     go_ret
     exact ⟨by rw [HF.out] <;> rfl, (Below.refl _ _).alloc (Nat.le_refl _) _⟩
set_option maxHeartbeats 400000 in
theorem refMay (v : JV) (x : Value) (w : World) (hv : v.wt ≤ 4294967296) (hR : Rep w 0 w.heap.size v x) :
   Calls Tryz.prog 43 #[x] w fun e w' => e = .returned (.bool v.mayB) ∧ Below w.heap.size w w' := by
 obtain ⟨an, cn, ai, ci, rfl, h1, h2, h3, h4⟩ := hR.parts
 clear h1 h2 h3 h4
 have HX0 := Lib.hid (heap_alloc_new w (.cells #[.int .u8 v.kind, .int .i64 v.n, .string v.t, .slice an v.names.length cn, .slice ai v.items.length ci] 30))
 have HB0 := Lib.hid (show Below w.heap.size w (w.alloc (.cells #[.int .u8 v.kind, .int .i64 v.n, .string v.t, .slice an v.names.length cn, .slice ai v.items.length ci] 30)) from (Below.refl _ _).alloc (Nat.le_refl _) _)
 have HR := Lib.hid hR
 have HM := Lib.hid v.mayB_iff
 clear hR
 have hc := JV.count_le v
 have hd := JV.depth_le v
 have HP := Lib.hid (refPart 4294967296 v _ _ hv (Nat.le_refl _) (HR.out.below HB0.out (Nat.le_refl _) (Nat.le_refl _) (by simp)))
 cases hp : v.partB
 · rw [hp] at HP HM
   clear hp
   go_enter Tryz.func43, Tryz.ntmps43
   go_wp2_with fail
   refine HP.out.mono ?_
   rintro e w1 ⟨rfl, hb1⟩
   have HB1 := Lib.hid (HB0.out.trans (hb1.mono (by simp)))
   clear hb1
   go_wp2
   go_ret
   exact ⟨by rw [HM.out] <;> rfl, HB1.out⟩
 rw [hp, Bool.true_and] at HM
 rw [hp] at HP
 clear hp
 obtain ⟨W0, hW0⟩ : ∃ W0, W0 = w.alloc (.cells #[.int .u8 v.kind, .int .i64 v.n, .string v.t, .slice an v.names.length cn, .slice ai v.items.length ci] 30) := ⟨_, rfl⟩
 have hzz : w.heap.size < W0.heap.size := by rw [hW0]; simp
 have HLA := Lib.hid (show ∀ w1, Below W0.heap.size W0 w1 → Below w.heap.size w w1 ∧ w1.heap[w.heap.size]? = some (.cells #[.int .u8 v.kind, .int .i64 v.n, .string v.t, .slice an v.names.length cn, .slice ai v.items.length ci] 30 (0, 0)) from fun w1 h => by
   rw [hW0] at h
   exact ⟨HB0.out.trans (h.mono (by simp)), by rw [h.block _ (by simp)]; exact HX0.out⟩)
 rw [← hW0] at HP
 have HW0 := Lib.hid hW0
 clear hW0
 go_enter Tryz.func43, Tryz.ntmps43
 go_wp2_with fail
 rw [← HW0.out]
 refine HP.out.mono ?_
 rintro e w1 ⟨rfl, hb1⟩
 obtain ⟨hB1, hx1⟩ := HLA.out w1 hb1
 have HB1 := Lib.hid hB1
 have HBA := Lib.hid hb1
 have HX1 := Lib.hid hx1
 have c0 : w1.cell? ⟨w.heap.size, 0, none⟩ = some (.int .u8 v.kind) := box_cell hx1 rfl
 have c1 : w1.cell? ⟨w.heap.size, 1, none⟩ = some (.int .i64 v.n) := box_cell hx1 rfl
 have c2 : w1.cell? ⟨w.heap.size, 2, none⟩ = some (.string v.t) := box_cell hx1 rfl
 have c3 : w1.cell? ⟨w.heap.size, 3, none⟩ = some (.slice an v.names.length cn) := box_cell hx1 rfl
 have c4 : w1.cell? ⟨w.heap.size, 4, none⟩ = some (.slice ai v.items.length ci) := box_cell hx1 rfl
 clear hb1 hx1 hB1
 have HC := Lib.hid (refCount 4294967296 v _ w1 hv (Nat.le_refl _) (HR.out.below HB1.out (Nat.le_refl _) (Nat.le_refl _) HB1.out.size))
 obtain ⟨c, hcc⟩ : ∃ c : Nat, c = v.count := ⟨_, rfl⟩
 rw [← hcc] at HC hc HM
 clear hcc
 go_wp2_with fail
 refine HC.out.mono ?_
 clear HC c0 c1 c2 c3 c4
 rintro e w2 ⟨rfl, hb2⟩
 obtain ⟨hB2, hx2⟩ := HLA.out w2 (HBA.out.trans (hb2.mono HBA.out.size))
 have HB2 := Lib.hid hB2
 have c0 : w2.cell? ⟨w.heap.size, 0, none⟩ = some (.int .u8 v.kind) := box_cell hx2 rfl
 have c1 : w2.cell? ⟨w.heap.size, 1, none⟩ = some (.int .i64 v.n) := box_cell hx2 rfl
 have c2 : w2.cell? ⟨w.heap.size, 2, none⟩ = some (.string v.t) := box_cell hx2 rfl
 have c3 : w2.cell? ⟨w.heap.size, 3, none⟩ = some (.slice an v.names.length cn) := box_cell hx2 rfl
 have c4 : w2.cell? ⟨w.heap.size, 4, none⟩ = some (.slice ai v.items.length ci) := box_cell hx2 rfl
 clear hb2 hx2 hB2
 by_cases h8 : c ≤ 8192
 · rw [decide_eq_true h8, Bool.true_and] at HM
   have h8' : (c : Int) ≤ 8192 := by omega
   have HD := Lib.hid (refDepth 4294967296 v _ w2 hv (Nat.le_refl _) (HR.out.below HB2.out (Nat.le_refl _) (Nat.le_refl _) HB2.out.size))
   obtain ⟨d, hdd⟩ : ∃ d : Nat, d = v.depth := ⟨_, rfl⟩
   rw [← hdd] at HD hd HM
   clear hdd
   go_wp2_with fail
   refine HD.out.mono ?_
   clear HD
   rintro e w3 ⟨rfl, hb3⟩
   have HB3 := Lib.hid (HB2.out.trans (hb3.mono HB2.out.size))
   clear hb3
   by_cases h12 : d ≤ 12
   · rw [decide_eq_true h12] at HM
     have h12' : (d : Int) ≤ 12 := by omega
     go_wp2
     go_ret
     exact ⟨by rw [HM.out] <;> rfl, HB3.out⟩
   · rw [decide_eq_false h12] at HM
     have h12' : ¬ (d : Int) ≤ 12 := by omega
     have h13 : decide ((d : Int) ≤ 12) = false := decide_eq_false h12'
     go_wp2
     go_ret
     exact ⟨by rw [HM.out] <;> rfl, HB3.out⟩
 · rw [decide_eq_false h8, Bool.false_and] at HM
   have h8' : ¬ (c : Int) ≤ 8192 := by omega
   have h9 : decide ((c : Int) ≤ 8192) = false := decide_eq_false h8'
   go_wp2
   go_ret
   exact ⟨by rw [HM.out] <;> rfl, HB2.out⟩
end Go.Proofs.YtgghgcilpfdbjaaGreatDoor
