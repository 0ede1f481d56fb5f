/- The contracts of legateref21.digits, MayHashes, SameHashes and of legateref23.file. -/
import Derived.Test.YtgghgcilpfdbjaaGreatDoorSy16
import Derived.Test.YtgghgcilpfdbjaaGreatDoorSy18
import Derived.Test.YtgghgcilpfdbjaaGreatDoorSy19
import Derived.Test.YtgghgcilpfdbjaaGreatDoorSy09
import Derived.Test.YtgghgcilpfdbjaaGreatDoorSy02
import Derived.Test.YtgghgcilpfdbjaaGreatDoorSy06
import Derived.Laws.EntriesVeiled
import Derived.Test.YtgghgcilpfdbjaaGreatDoorSy17
import Derived.Test.YtgghgcilpfdbjaaGreatDoorSy08
import Derived.Test.YtgghgcilpfdbjaaGreatDoorSy03
import Derived.BigQuiet

namespace Go.Proofs.YtgghgcilpfdbjaaGreatDoor
open Go.RowKit
def FailPost (o m lo hi : Nat) (v : JV) (an ai : Option Addr) (cn ci : Nat) (st : PS) (w : World) (r : Ending) (w' : World) : Prop := r = .returned (.tuple #[]) ∧ PickAt o m lo hi v an ai cn ci st w' ∧ Touch (fun b => b = o ∨ b = m) w w'
set_option maxHeartbeats 1000000 in
theorem pickFailG (o m lo hi : Nat) (v : JV) (an ai : Option Addr) (cn ci : Nat) (e : Int) (st : PS) (w : World) (hP : PickAt o m lo hi v an ai cn ci st w) :
   Calls Tryz.prog 66 #[.pointer (some ⟨o, 0, none⟩), .int .i64 e] w (FailPost o m lo hi v an ai cn ci (st.fail e) w) := by
 have c6 : w.cell? ⟨o, 6, none⟩ = some (.int .i64 st.err) := box_cell hP.obj rfl
 have c0 : w.cell? ⟨o, 0, none⟩ = some (.int .u8 5) := (box_cell (j := 0) hP.obj rfl).trans (by rw [hP.kind]; rfl)
 have d7 : w.frozen? ⟨o, 6, none⟩ = false := by simp [World.frozen?, hP.obj]
 by_cases he : st.err = 0
 · rw [he] at c6
   refine (pickFail o e w c6 c0 d7).mono ?_
   rintro r w' ⟨rfl, rfl⟩
   refine ⟨rfl, ?_, (Touch.refl _ _).setCell (.inl (.inl rfl)) _⟩
   unfold PS.fail
   rw [if_pos he]
   exact hP.fail e
 · have he' : (st.err == 0) = false := by simpa using he
   have HX := Lib.hid (show st.fail e = st by unfold PS.fail; rw [if_neg he])
   have HP := Lib.hid hP
   have HE := Lib.hid (pickErr o st.err 5 w c6 c0 (fun h => by simp [h] at he'))
   clear hP he c6 c0 d7
   go_enter Tryz.func66, Tryz.ntmps66
   go_wp2_with fail
   refine HE.out.mono ?_
   rintro r w' ⟨rfl, h'⟩
   subst w'
   go_wp2
   go_end0
   exact ⟨rfl, by rw [HX.out]; exact HP.out, Touch.refl _ _⟩
theorem snp_list : snpN.toList = [115, 110, 97, 112, 115, 104, 111, 116] := by rw [ByteArray.toList_eq]; rfl
def tyS (v : JV) (st : PS) : PS := if (pickText v typN st).1 ≠ snpN then (pickText v typN st).2.fail 13 else (pickText v typN st).2
set_option maxHeartbeats 1000000 in
theorem snapParseType (o m lo hi p : Nat) (v : JV) (an ai : Option Addr) (cn ci : Nat) (st : PS) (w : World) (hP : PickAt o m lo hi v an ai cn ci st w) (ha : st.asked.length ≤ 4294967296) :
   Calls Tryz.prog 113 #[.pointer (some ⟨o, 0, none⟩), .pointer (some ⟨p, 0, none⟩)] w (FailPost o m lo hi v an ai cn ci (tyS v st) w) := by
 have HT := Lib.hid (pickTextF o m lo hi v an ai cn ci typN st w hP (by decide) ha)
 clear hP
 go_enter Tryz.func113, Tryz.ntmps113
 go_wp2_with fail
 refine HT.out.mono ?_
 clear HT
 rintro r w1 ⟨rfl, h1, h2⟩
 obtain ⟨a, hA⟩ : ∃ a, a = pickText v typN st := ⟨_, rfl⟩
 have HTY := Lib.hid (show tyS v st = if a.1 ≠ snpN then a.2.fail 13 else a.2 by unfold tyS; rw [hA])
 rw [← hA] at h1 ⊢
 have H2 := Lib.hid h2
 have H1 := Lib.hid h1
 clear hA h1 h2
 by_cases hc : a.1 = snpN
 · have hc2 : (a.1.toList == [115, 110, 97, 112, 115, 104, 111, 116]) = true := by rw [← snp_list, ba_eq, decide_eq_true_eq]; exact hc
   have HX := Lib.hid (show tyS v st = a.2 by rw [HTY.out, if_neg (by simp [hc])])
   clear hc
   go_wp2
   go_end0
   exact ⟨rfl, by rw [HX.out]; exact H1.out, H2.out⟩
 · have hc2 : (a.1.toList == [115, 110, 97, 112, 115, 104, 111, 116]) = false := by rw [← snp_list, ba_eq, decide_eq_false_iff_not]; exact hc
   have HX := Lib.hid (show tyS v st = a.2.fail 13 by rw [HTY.out, if_pos hc])
   have HF := Lib.hid (pickFailG o m lo hi v an ai cn ci 13 a.2 w1 H1.out)
   clear hc
   go_wp2_with fail
   refine HF.out.mono ?_
   rintro r w2 ⟨rfl, h3, h4⟩
   have H3 := Lib.hid h3
   have H4 := Lib.hid (H2.out.trans h4)
   clear h3 h4
   go_wp2
   go_end0
   exact ⟨rfl, by rw [HX.out]; exact H3.out, H4.out⟩
def ParsePost (o m lo hi p : Nat) (v : JV) (an ai : Option Addr) (cn ci : Nat) (st : PS) (x0 x1 x2 : Value) (w : World) (r : Ending) (w' : World) : Prop :=
 r = .returned (.tuple #[]) ∧ PickAt o m lo hi v an ai cn ci st w' ∧ w'.rowIs p 24 3 (pick3 x0 x1 x2) ∧ Touch (fun b => b = o ∨ b = m ∨ b = p) w w'
set_option maxHeartbeats 1000000 in
theorem snapParseVersion (o m lo hi p : Nat) (v : JV) (an ai : Option Addr) (cn ci : Nat) (st : PS) (x0 x1 x2 : Value) (w : World) (hP : PickAt o m lo hi v an ai cn ci st w) (ha : st.asked.length ≤ 4294967296) (hr : w.rowIs p 24 3 (pick3 x0 x1 x2)) (hpo : p ≠ o) (hpm : p ≠ m) (hph : hi ≤ p) :
   Calls Tryz.prog 114 #[.pointer (some ⟨o, 0, none⟩), .pointer (some ⟨p, 0, none⟩)] w (ParsePost o m lo hi p v an ai cn ci (pickNum v verN 1 1099511627776 st).2 (.int .i64 (pickNum v verN 1 1099511627776 st).1) x1 x2 w) := by
 have ho : o < w.heap.size := heap_lt hP.obj
 have hm : m < w.heap.size := by obtain ⟨D, n, h, _⟩ := hP.map; exact h.lt
 have HN := Lib.hid (pickNumF o m lo hi v an ai cn ci verN 1 1099511627776 st w hP (by decide) ha hm ho)
 have HR := Lib.hid hr
 have HNE := Lib.hid (And.intro hpo (And.intro hpm hph))
 clear hP hr ho hm hpo hpm hph
 go_enter Tryz.func114, Tryz.ntmps114
 go_wp2_with fail
 refine HN.out.mono ?_
 clear HN
 rintro r w1 ⟨rfl, h1, h2⟩
 obtain ⟨a, hA⟩ : ∃ a, a = pickNum v verN 1 1099511627776 st := ⟨_, rfl⟩
 rw [← hA] at h1 ⊢
 have HA := Lib.hid hA
 have hr1 := h2.row HR.out (by have := HNE.out; omega)
 have H1 := Lib.hid h1
 have H2 := Lib.hid h2
 have HR1 := Lib.hid hr1
 have u0 := hr1.cell (i := 0) (by decide)
 have f0 := hr1.frozen 0
 simp only [pick3] at u0
 clear hA h1 h2 hr1
 go_wp2
 go_end0
 unfold ParsePost
 rw [← HA.out]
 refine ⟨rfl, H1.out.touch (touch_put _) HNE.out.1 HNE.out.2.1 HNE.out.2.2, (HR1.out.set 0 (.int .i64 a.1)).congr fun j hj => ?_, (H2.out.mono (fun k _ h => h.elim .inl (fun h => .inr (.inl h)))).trans ((touch_put _).mono (fun k _ h => .inr (.inr h)))⟩
 rcases j with _ | _ | _ | j <;> first | rfl | omega
set_option maxHeartbeats 1000000 in
theorem snapParseExpires (o m lo hi p : Nat) (v : JV) (an ai : Option Addr) (cn ci : Nat) (st : PS) (x0 x1 x2 : Value) (w : World) (hP : PickAt o m lo hi v an ai cn ci st w) (ha : st.asked.length ≤ 4294967296) (hr : w.rowIs p 24 3 (pick3 x0 x1 x2)) (hpo : p ≠ o) (hpm : p ≠ m) (hph : hi ≤ p) (hT : TabW w) (hTo : 0 ≠ o) (hTm : 0 ≠ m) :
   Calls Tryz.prog 115 #[.pointer (some ⟨o, 0, none⟩), .pointer (some ⟨p, 0, none⟩)] w (ParsePost o m lo hi p v an ai cn ci ((pickText v expN st).2.fail (readD (pickText v expN st).1.data.toList).2) x0 (.int .i64 (readD (pickText v expN st).1.data.toList).1) x2 w) := by
 have ho : o < w.heap.size := heap_lt hP.obj
 have hm : m < w.heap.size := by obtain ⟨D, n, h, _⟩ := hP.map; exact h.lt
 have HO := Lib.hid (And.intro ho hm)
 have HTX := Lib.hid (pickTextF o m lo hi v an ai cn ci expN st w hP (by decide) ha)
 have HR := Lib.hid hr
 have HNE := Lib.hid (And.intro hpo (And.intro hpm hph))
 have HT := Lib.hid hT
 have HTN := Lib.hid (And.intro hTo hTm)
 clear hP hr ho hm hpo hpm hph hT hTo hTm
 go_enter Tryz.func115, Tryz.ntmps115
 go_wp2_with fail
 refine HTX.out.mono ?_
 clear HTX
 rintro r w1 ⟨rfl, h1, h2⟩
 obtain ⟨a, hA⟩ : ∃ a, a = pickText v expN st := ⟨_, rfl⟩
 rw [← hA] at h1 ⊢
 have HA := Lib.hid hA
 have hr1 := h2.row HR.out (by have := HNE.out; omega)
 have ht1 : TabW w1 := ⟨fun i hi => by rw [h2.cell (p := ⟨0, i, none⟩) HT.out.lt (fun h => h.elim (fun e => HTN.out.1 e) (fun e => HTN.out.2 e))]; exact HT.out.months i hi, Nat.lt_of_lt_of_le HT.out.lt h2.size⟩
 have HRD := Lib.hid (whenRead a.1 w1 ht1)
 obtain ⟨rd, hrd⟩ : ∃ rd, rd = readD a.1.data.toList := ⟨_, rfl⟩
 rw [← hrd] at HRD ⊢
 have HRDE := Lib.hid hrd
 have H1 := Lib.hid h1
 have H2 := Lib.hid h2
 have HR1 := Lib.hid hr1
 clear hA h1 h2 hr1 ht1 hrd
 go_wp2_with fail
 refine HRD.out.mono ?_
 clear HRD
 rintro r w2 ⟨rfl, hb⟩
 have HF := Lib.hid (pickFailG o m lo hi v an ai cn ci rd.2 a.2 w2 (H1.out.below hb))
 have HR2 := Lib.hid (below_row hb HR1.out HR1.out.lt)
 have HT2 := Lib.hid (show Touch (fun b => b = o ∨ b = m) w w2 from H2.out.trans (Touch.of_below hb (Nat.le_refl _)))
 clear hb
 go_wp2_with fail
 refine HF.out.mono ?_
 clear HF
 rintro r w3 ⟨rfl, h3, h4⟩
 have hr3 := h4.row HR2.out (by have := HNE.out; omega)
 have u1 := hr3.cell (i := 1) (by decide)
 have f1 := hr3.frozen 1
 simp only [pick3] at u1
 have H3 := Lib.hid h3
 have H4 := Lib.hid (HT2.out.trans h4)
 have HR3 := Lib.hid hr3
 clear h3 h4 hr3
 go_wp2
 go_end0
 unfold ParsePost
 rw [← HA.out, ← HRDE.out]
 refine ⟨rfl, H3.out.touch (touch_put _) HNE.out.1 HNE.out.2.1 HNE.out.2.2, (HR3.out.set 1 (.int .i64 rd.1)).congr fun j hj => ?_, (H4.out.mono (fun k _ h => h.elim .inl (fun h => .inr (.inl h)))).trans ((touch_put _).mono (fun k _ h => .inr (.inr h)))⟩
 rcases j with _ | _ | _ | j <;> first | rfl | omega
end Go.Proofs.YtgghgcilpfdbjaaGreatDoor

namespace Go.Proofs.YtgghgcilpfdbjaaGreatDoor
open Go.RowKit Go.Lib
def encP (p : PinV) : List Value := [.string p.name, .int .i64 p.ver, .int .i64 p.len, .slice none 0 0]
theorem infoPin : (Tryz.prog.info? 36).map (fun i => (i.zero, i.size, i.bytes)) = some (some (.agg #[.string { data := #[] }, .int .i64 0, .int .i64 0, .slice none 0 0]), 4, 56) := by kernel_rfl
theorem flatP_len (l : List PinV) : (l.flatMap encP).length = l.length * 4 := by
 induction l with
 | nil => rfl
 | cons v r ih => rw [List.flatMap_cons, List.length_append, ih]; show 4 + r.length * 4 = (r.length + 1) * 4; omega
def MetaPost (o m lo hi p : Nat) (v : JV) (an ai : Option Addr) (cn ci : Nat) (ps : List PinV) (st : PS) (x0 x1 : Value) (w : World) (r : Ending) (w' : World) : Prop :=
 ∃ vs, r = .returned (.tuple #[]) ∧ PickAt o m lo hi v an ai cn ci st w' ∧ w'.rowIs p 24 3 (pick3 x0 x1 vs) ∧ w'.ownsRow w.heap.size 36 4 vs ps.length (ps.flatMap encP) ∧ Touch (fun b => b = o ∨ b = m ∨ b = p) w w'
theorem owns_touch {S : Nat → Prop} {w w' : World} {base e size n : Nat} {v : Value} {cs : List Value} (h : w.ownsRow base e size v n cs) (hT : Touch S w w') (hS : ∀ k, base ≤ k → ¬ S k) : w'.ownsRow base e size v n cs := by
 refine ⟨h.1, ?_⟩
 rcases h.2 with h2 | ⟨g, cap, cur, hv, hg, hh, r⟩
 · exact .inl h2
 · exact .inr ⟨g, cap, cur, hv, hg, by rw [hT.block g (heap_lt hh) (hS g hg)]; exact hh, r⟩
theorem owns_mono {w : World} {base base' e size n : Nat} {v : Value} {cs : List Value} (h : w.ownsRow base e size v n cs) (hb : base' ≤ base) : w.ownsRow base' e size v n cs := by
 refine ⟨h.1, ?_⟩
 rcases h.2 with h2 | ⟨g, cap, cur, hv, hg, r⟩
 · exact .inl h2
 · exact .inr ⟨g, cap, cur, hv, Nat.le_trans hb hg, r⟩
theorem metaOf_bad {ns : List ByteArray} {xs : List JV} {st : PS} {ps : List PinV} (k : Nat) (h1 : k < ns.length) (h2 : k < xs.length) (h : (pinOfJ ns[k] xs[k]).2 ≠ 0) : metaOf (ns.drop k) (xs.drop k) st ps = (ps, st.fail (pinOfJ ns[k] xs[k]).2) := by
 rw [List.drop_eq_getElem_cons h1, List.drop_eq_getElem_cons h2, metaOf, if_pos h]
theorem metaOf_ok {ns : List ByteArray} {xs : List JV} {st : PS} {ps : List PinV} (k : Nat) (h1 : k < ns.length) (h2 : k < xs.length) (h : (pinOfJ ns[k] xs[k]).2 = 0) : metaOf (ns.drop k) (xs.drop k) st ps = metaOf (ns.drop (k + 1)) (xs.drop (k + 1)) st (ps ++ [(pinOfJ ns[k] xs[k]).1]) := by
 rw [List.drop_eq_getElem_cons h1, List.drop_eq_getElem_cons h2, metaOf, if_neg (by simp [h])]
theorem metaOf_end {ns : List ByteArray} {xs : List JV} {st : PS} {ps : List PinV} (k : Nat) (h1 : ns.length ≤ k) : metaOf (ns.drop k) (xs.drop k) st ps = (ps, st) := by
 rw [List.drop_eq_nil_of_le h1]; rfl
theorem pinOf_hs (f : ByteArray) (x : JV) : (pinOfJ f x).1.hs = [] := by
 unfold pinOfJ
 dsimp only
 repeat' split
 all_goals rfl
set_option maxHeartbeats 4000000 in
set_option maxRecDepth 100000 in
theorem snapParseMeta (o m lo hi p : Nat) (v : JV) (an ai : Option Addr) (cn ci : Nat) (st : PS) (x0 x1 : Value) (w : World) (hP : PickAt o m lo hi v an ai cn ci st w) (ha : st.asked.length ≤ 4294967296) (hr : w.rowIs p 24 3 (pick3 x0 x1 (.slice none 0 0))) (hpo : p ≠ o) (hpm : p ≠ m) (hph : hi ≤ p) (hlo : 0 < w.heap.size)
   (hnn : (pickObj v metN 256 st).1.names.length = (pickObj v metN 256 st).1.items.length) (hwt : (pickObj v metN 256 st).1.wt ≤ 4294967296) (hit : ∀ k (h : k < (pickObj v metN 256 st).1.items.length), (pickObj v metN 256 st).1.items[k].kind = 5 ∧ (pickObj v metN 256 st).1.items[k].look hasN = none) (hsz : (pickObj v metN 256 st).1.items.length ≤ 256) (hns : ∀ k (h : k < (pickObj v metN 256 st).1.names.length), (pickObj v metN 256 st).1.names[k].size ≤ 4294967296) :
   Calls Tryz.prog 116 #[.pointer (some ⟨o, 0, none⟩), .pointer (some ⟨p, 0, none⟩)] w (MetaPost o m lo hi p v an ai cn ci (metaOf (pickObj v metN 256 st).1.names (pickObj v metN 256 st).1.items (pickObj v metN 256 st).2 []).1 (metaOf (pickObj v metN 256 st).1.names (pickObj v metN 256 st).1.items (pickObj v metN 256 st).2 []).2 x0 x1 w) := by
 have ho : o < w.heap.size := heap_lt hP.obj
 have hm : m < w.heap.size := by obtain ⟨D, n, h, _⟩ := hP.map; exact h.lt
 have hpl : p < w.heap.size := hr.lt
 have HOB := Lib.hid (pickObjF o m lo hi v an ai cn ci metN 256 st w hP (by decide) ha)
 have HR := Lib.hid hr
 have HNE := Lib.hid (And.intro (show p ≠ o ∧ p ≠ m ∧ hi ≤ p from ⟨hpo, hpm, hph⟩) (show o < w.heap.size ∧ m < w.heap.size ∧ p < w.heap.size from ⟨ho, hm, hpl⟩))
 have HLO := Lib.hid hlo
 clear hP hr ho hm hpl hpo hpm hph hlo
 go_enter Tryz.func116, Tryz.ntmps116
 go_wp2_with fail
 refine HOB.out.mono ?_
 clear HOB
 rintro r w1 ⟨⟨an2, cn2, ai2, ci2, rfl, hrep⟩, hp1, ht1⟩
 obtain ⟨M, hM⟩ : ∃ M, M = pickObj v metN 256 st := ⟨_, rfl⟩
 have HM := Lib.hid hM
 rw [← hM] at hnn hwt hit hsz hns hp1 hrep ⊢
 clear hM
 obtain ⟨J, sm⟩ := M
 dsimp only at hnn hwt hit hsz hns hp1 hrep ⊢
 have HIT := Lib.hid hit
 have HNS := Lib.hid hns
 have HNN := Lib.hid hnn
 have HWT := Lib.hid hwt
 have HSZ := Lib.hid hsz
 have HREP := Lib.hid hrep
 have HP1 := Lib.hid hp1
 have HT1 := Lib.hid ht1
 have HR1 := Lib.hid (ht1.row HR.out (by have := HNE.out; omega))
 have HZ1 := Lib.hid ht1.size
 clear hnn hwt hit hsz hns hrep hp1 ht1
 obtain ⟨WM, hWM⟩ : ∃ WM, WM = w1.alloc (.cells #[.int .u8 J.kind, .int .i64 J.n, .string J.t, .slice an2 J.names.length cn2, .slice ai2 J.items.length ci2] 30) := ⟨_, rfl⟩
 have hbM : Below w1.heap.size w1 WM := by rw [hWM]; exact (Below.refl _ _).alloc (Nat.le_refl _) _
 have hxM : WM.heap[w1.heap.size]? = some (.cells #[.int .u8 J.kind, .int .i64 J.n, .string J.t, .slice an2 J.names.length cn2, .slice ai2 J.items.length ci2] 30 (0, 0)) := by rw [hWM]; exact heap_alloc_new w1 _
 have HXM := Lib.hid hxM
 have HBM := Lib.hid hbM
 have HPM := Lib.hid (HP1.out.below hbM)
 have HRM := Lib.hid (below_row hbM HR1.out HR1.out.lt)
 have HTM := Lib.hid (show Touch (fun b => b = o ∨ b = m ∨ b = p) w WM from (HT1.out.mono (fun k _ h => h.elim .inl (fun h => .inr (.inl h)))).trans (Touch.of_below hbM (Nat.le_refl _)))
 have HWM := Lib.hid hWM
 clear hbM hxM hWM
 go_upto_region 1 with fail
 rw [← HWM.out]
 have c3 : WM.cell? ⟨w1.heap.size, 3, none⟩ = some (.slice an2 J.names.length cn2) := box_cell HXM.out rfl
 go_wp2
 clear c3
 go_loopw [5, 6, 7, 8, 14] (fun _ _ _ _ i wr => ∃ (k : Nat) (ps : List PinV) (vs : Value), k ≤ J.names.length ∧ i = .int .i64 k ∧ ps.length ≤ k ∧ metaOf J.names J.items sm [] = metaOf (J.names.drop k) (J.items.drop k) sm ps ∧ wr.rowIs p 24 3 (pick3 x0 x1 vs) ∧ wr.ownsRow WM.heap.size 36 4 vs ps.length (ps.flatMap encP) ∧ Touch (fun b => b = p) WM wr) (fun _ _ _ _ i _ => J.names.length - (intOf i).toNat)
 case atStart => exact ⟨0, [], .slice none 0 0, by omega, rfl, by simp, rfl, HRM.out, ⟨by simp, .inl ⟨rfl, rfl⟩⟩, Touch.refl _ _⟩
 case round =>
   obtain ⟨k, ps, vs, hk, rfl, hpk, hmo, hrow, hown, ht⟩ := hrel
   have htz := ht.size
   have hzM : w1.heap.size < WM.heap.size := heap_lt HXM.out
   have HREPr := Rep.carry (lo' := w.heap.size) (hi' := w1.heap.size) (Nat.le_refl _) (Nat.le_refl _) (fun b h1 h2 => (ht.block b (by omega) (by have := HNE.out; omega)).trans (HBM.out.block b h2)) _ _ HREP.out
   have c4 : wr.cell? ⟨w1.heap.size, 4, none⟩ = some (.slice ai2 J.items.length ci2) := box_cell ((ht.block _ hzM (by have := HNE.out; have := HZ1.out; omega)).trans HXM.out) rfl
   obtain ⟨an0, cn0, ai0, ci0, hx, -, -, h3, h4⟩ := HREPr.parts
   simp only [Value.agg.injEq, Array.mk.injEq, List.cons.injEq, Value.slice.injEq, true_and, and_true] at hx
   obtain ⟨⟨rfl, rfl⟩, rfl, rfl⟩ := hx
   have HROW := Lib.hid hrow
   have HOWN := Lib.hid hown
   have HMO := Lib.hid hmo
   have HT := Lib.hid ht
   have HZ := Lib.hid (show w1.heap.size < wr.heap.size by omega)
   have HPR := Lib.hid (HPM.out.touch ht HNE.out.1.1 HNE.out.1.2.1 HNE.out.1.2.2)
   have HZM := Lib.hid hzM
   clear hrow hown hmo ht htz hzM HREPr
   by_cases hlt : k < J.names.length
   · have hlt2 : k < J.items.length := by have := HNN.out; omega
     obtain ⟨bn, on, ha, _, _, n0⟩ := h3.at k hlt
     obtain ⟨bi, oi, an3, cn3, ai3, ci3, hai, _, _, y0, y1, y2, y3, y4, hry⟩ := h4.get k hlt2
     subst ha hai
     obtain ⟨hk5, hlk⟩ := HIT.out k hlt2
     have hwk := JV.wts_get J.items k hlt2
     have hbd := J.wt_bd
     have HPO := Lib.hid (snapPinOf J.names[k] J.items[k] _ wr w.heap.size w1.heap.size (by have := HWT.out; omega) HLO.out (Nat.le_of_lt HZ.out) hry hk5 hlk (by have := HNS.out k hlt; omega))
     have HMB := Lib.hid (metaOf_bad (st := sm) (ps := ps) k hlt hlt2)
     have HMK := Lib.hid (metaOf_ok (st := sm) (ps := ps) k hlt hlt2)
     have HPH := Lib.hid (pinOf_hs J.names[k] J.items[k])
     obtain ⟨PO, hPO⟩ : ∃ PO, PO = pinOfJ J.names[k] J.items[k] := ⟨_, rfl⟩
     rw [← hPO] at HPO HMB HMK HPH
     generalize J.names[k] = fk at *
     generalize J.items[k] = xk at *
     clear h3 h4 hry hk5 hlk hwk hbd hPO
     obtain ⟨⟨pn, pv, pl, phs⟩, er⟩ := PO
     dsimp only at HPO HMB HMK HPH
     obtain rfl : phs = [] := HPH.out
     go_wp2_with fail
     refine HPO.out.mono ?_
     clear HPO y0 y1 y2 y3 y4 n0 c4
     rintro r w2 ⟨rfl, hb2⟩
     obtain ⟨WX, hWX⟩ : ∃ WX, WX = w2.alloc (.cells #[.string pn, .int .i64 pv, .int .i64 pl, .slice none 0 0] 36) := ⟨_, rfl⟩
     have hbX : Below wr.heap.size wr WX := by rw [hWX]; exact hb2.alloc hb2.size _
     have hxX : WX.heap[w2.heap.size]? = some (.cells #[.string pn, .int .i64 pv, .int .i64 pl, .slice none 0 0] 36 (0, 0)) := by rw [hWX]; exact heap_alloc_new w2 _
     have HBX := Lib.hid hbX
     have HXX := Lib.hid hxX
     have HWX := Lib.hid hWX
     have HZX := Lib.hid (show wr.heap.size ≤ w2.heap.size from hb2.size)
     clear hb2 hbX hxX hWX
     go_upto_region 5 with fail
     rw [← HWX.out]
     by_cases he : er = 0
     · subst he
       have HMK2 := Lib.hid (HMK.out rfl)
       clear HMB HMK
       obtain ⟨i1, hi1, hy0, hy1, hy2⟩ := info_parts infoPin
       obtain ⟨sv, cv, rfl⟩ := owns_slice HOWN.out
       have hrowX := below_row HBX.out HROW.out HROW.out.lt
       have hownX := owns_below HOWN.out HBX.out
       have HRX := Lib.hid hrowX
       have HOX := Lib.hid hownX
       have HCL := Lib.hid (show ∀ w' : World, Below WX.heap.size WX w' → w'.cell? ⟨p, 2, none⟩ = some (.slice sv ps.length cv) ∧ w'.cell? ⟨w2.heap.size, 0, none⟩ = some (.string pn) ∧ w'.cell? ⟨w2.heap.size, 1, none⟩ = some (.int .i64 pv) ∧ w'.cell? ⟨w2.heap.size, 2, none⟩ = some (.int .i64 pl) ∧ w'.cell? ⟨w2.heap.size, 3, none⟩ = some (.slice none 0 0) from fun w' h => by
         have x := (h.block _ (heap_lt HXX.out)).trans HXX.out
         exact ⟨by have := (below_row h HRX.out HRX.out.lt).cell (i := 2) (by decide); simpa [pick3] using this, box_cell x rfl, box_cell x rfl, box_cell x rfl, box_cell x rfl⟩)
       have hpsl : ps.length ≤ 256 := by have := HSZ.out; have := HNN.out; omega
       have HPSL := Lib.hid hpsl
       clear hrowX hownX hpsl
       have HOD := Lib.hid (show WX.drew.ownsRow WM.heap.size 36 4 (.slice sv ps.length cv) ps.length (ps.flatMap encP) from owns_below HOX.out ((Below.refl _ _).drew))
       have hwm : WM.heap.size ≤ WX.heap.size := by have h2 := HBX.out.size; have h3 := HT.out.size; omega
       have hpsl := HPSL.out
       have hkb : k < 256 := by have := HSZ.out; omega
       have hpn : some p ≠ (Value.slice sv ps.length cv).ownBlock := fun e => by have := (HOX.out.lt _ e.symm).1; have := HNE.out; have := HZ1.out; have := HZM.out; omega
       have hpl : p < WX.heap.size := HRX.out.lt
       have hflen := flatP_len ps
       obtain ⟨e2, y0, y1, y2, y3⟩ := HCL.out WX (Below.refl _ _)
       have fp2 := HRX.out.frozen 2
       go_upto_region 7 with fail
       go_region_law (refine step_append_lies _ (by rfl) (.tmp 38) (.tmp 40) 22 (by rfl) WM.heap.size 36 i1 _ 4 56 Tryz.underlying22 hi1 hy0 hy1 hy2 rfl (by omega) (.slice sv ps.length cv) ps.length (ps.flatMap encP) (by rfl) (HOD.out.alloc _) ⟨WX.heap.size, 0, none⟩ 1 1 (Array.toList #[.string pn, .int .i64 pv, .int .i64 pl, .slice none 0 0]) (by rfl) (by rfl) (World.news_of_block (cs := #[.string pn, .int .i64 pv, .int .i64 pl, .slice none 0 0]) (t := 36) (fr := (0, 0)) (heap_alloc_new WX.drew _)) (by simp [Value.oneCell']) (by omega) (by unfold maxLen; omega) (by omega) (by simp; omega) (WX.heap.size + 1) (by simp) ?_; intro g2 cap3 w4 hown4 hgrow4 hat4 hlt4; have c44 : w4.cell? ⟨p, 2, none⟩ = some (.slice sv ps.length cv) := (World.cell?_of_block (hgrow4.block p (by simp; omega) hpn)).trans ((cell_alloc_lt _ (show p < WX.drew.heap.size from hpl)).trans e2); have f44 : w4.frozen? ⟨p, 2, none⟩ = false := (World.frozen?_of_block (hgrow4.block p (by simp; omega) hpn)).trans ((((Below.refl WX.drew.heap.size WX.drew).alloc (Nat.le_refl _) _).frozen (show p < WX.drew.heap.size from hpl)).trans fp2); have HO4 := Lib.hid hown4; have HG4 := Lib.hid hgrow4; have HA4 := Lib.hid hat4; clear hown4 hgrow4 hat4)
       all_goals
         have tt := fun (ob : Obj) => HT.out.trans (Touch.of_below (S := fun b => b = p) (HBX.out.trans (((Below.refl WX.heap.size WX).drew.alloc (Nat.le_refl _) ob).mono HBX.out.size)) (Nat.le_refl _))
         have hr4 : w4.rowIs p 24 3 (pick3 x0 x1 (.slice sv ps.length cv)) := HRX.out.of_block ((HG4.out.block p (by simp; omega) hpn).trans (Below.heap_alloc _ _ _ (show p < WX.drew.heap.size from hpl)))
         have tt := tt (.cells #[.string pn, .int .i64 pv, .int .i64 pl, .slice none 0 0] 36)
         have ht4 : Touch (fun b => b = p) WM w4 := ⟨HG4.out.os.trans tt.os, HG4.out.tape.trans tt.tape, HG4.out.output.trans tt.output, Nat.le_trans tt.size HG4.out.size, fun q hq hn => (HG4.out.block q (Nat.lt_of_lt_of_le hq tt.size) (fun e => by have := (HOX.out.lt _ e.symm).1; omega)).trans (tt.block q hq hn)⟩
         have HFR := Lib.hid (show (w4.setCell ⟨p, 2, none⟩ (.slice (some ⟨g2, 0, none⟩) (ps.length + 1) cap3)).rowIs p 24 3 (pick3 x0 x1 (.slice (some ⟨g2, 0, none⟩) (ps.length + 1) cap3)) from by
           refine (hr4.set 2 _).congr fun j hj => ?_
           rcases j with _ | _ | _ | j <;> first | rfl | omega)
         have HFO := Lib.hid (show (w4.setCell ⟨p, 2, none⟩ (.slice (some ⟨g2, 0, none⟩) (ps.length + 1) cap3)).ownsRow WM.heap.size 36 4 (.slice (some ⟨g2, 0, none⟩) (ps.length + 1) cap3) (ps ++ [(⟨pn, pv, pl, []⟩ : PinV)]).length ((ps ++ [(⟨pn, pv, pl, []⟩ : PinV)]).flatMap encP) from by
           have h := owns_touch HO4.out (touch_put (g := p) (j := 2) (.slice (some ⟨g2, 0, none⟩) (ps.length + 1) cap3)) (fun k hk e => by have := HNE.out; have := HZ1.out; have := HZM.out; omega)
           rw [List.length_append, List.flatMap_append]
           exact h)
         have HFT := Lib.hid (ht4.trans (touch_put (g := p) (j := 2) (.slice (some ⟨g2, 0, none⟩) (ps.length + 1) cap3)))
         clear tt hr4 ht4 HO4 HG4 HA4 c44 f44 e2 y0 y1 y2 y3 fp2
         go_wp2
         go_roundw
         case rel => exact ⟨k + 1, _, _, by omega, by go_num, by simp; omega, HMO.out.trans HMK2.out, HFR.out, HFO.out, HFT.out⟩
         case measure => simp [intOf]; omega
     · have HMB := Lib.hid (HMB.out he)
       have hd2 : (er != 0) = true := by simpa using he
       have HF := Lib.hid (pickFailG o m lo hi v an ai cn ci er sm WX (HPR.out.below HBX.out))
       clear he HMK
       go_wp2_with fail
       refine HF.out.mono ?_
       rintro r w3 ⟨rfl, h3, h4⟩
       have hrowX := below_row HBX.out HROW.out HROW.out.lt
       have hr3 := h4.row hrowX (by have := HNE.out; omega)
       have hown3 : w3.ownsRow w.heap.size 36 4 vs ps.length (ps.flatMap encP) := owns_mono (owns_touch (owns_below HOWN.out HBX.out) h4 (fun k hk e => by have := HNE.out; have := HZ1.out; have := HZM.out; omega)) (by have := HZ1.out; have := HZM.out; omega)
       have HFIN := Lib.hid (show MetaPost o m lo hi p v an ai cn ci (metaOf J.names J.items sm []).1 (metaOf J.names J.items sm []).2 x0 x1 w (.returned (.tuple #[])) w3 from by
         rw [HMO.out, HMB.out]
         exact ⟨vs, rfl, h3, hr3, hown3, (HTM.out.trans ((HT.out.mono (fun k _ h => .inr (.inr h))).trans ((Touch.of_below HBX.out (Nat.le_refl _)).trans (h4.mono (fun k _ h => h.elim .inl (fun h => .inr (.inl h)))))))⟩)
       clear h3 h4 hrowX hr3 hown3
       go_wp2
       go_end0
       rw [← HM.out]
       exact HFIN.out
   · have HE := Lib.hid (metaOf_end (xs := J.items) (st := sm) (ps := ps) k (show J.names.length ≤ k by omega))
     clear h3 h4
     have HFIN := Lib.hid (show MetaPost o m lo hi p v an ai cn ci (metaOf J.names J.items sm []).1 (metaOf J.names J.items sm []).2 x0 x1 w (.returned (.tuple #[])) wr from by
       rw [HMO.out, HE.out]
       exact ⟨vs, rfl, HPR.out, HROW.out, owns_mono HOWN.out (by have := HZ1.out; have := HZM.out; omega), HTM.out.trans (HT.out.mono (fun k _ h => .inr (.inr h)))⟩)
     go_wp2
     go_end0
     rw [← HM.out]
     exact HFIN.out
abbrev partsC : Array Value := #[.func (.func 113) #[] #[], .func (.func 114) #[] #[], .func (.func 115) #[] #[], .func (.func 116) #[] #[]]
set_option maxHeartbeats 1000000 in
theorem snapParts (w : World) : Calls Tryz.prog 79 #[] w fun e w' => ∃ b, e = .returned (.slice (some ⟨b, 0, none⟩) 4 4) ∧ w'.heap[b]? = some (.cells partsC 105 (0, 0)) ∧ w.heap.size ≤ b ∧ Below w.heap.size w w' := by
 go_enter Tryz.func79, Tryz.ntmps79
 go_wp2
 go_ret
 exact ⟨_, rfl, heap_alloc_new _ _, Nat.le_refl _, (Below.refl _ _).alloc (Nat.le_refl _) _⟩
def stB (v : JV) : Int × PS := pickNum v verN 1 1099511627776 (tyS v ⟨[], 0⟩)
def stC (v : JV) : ByteArray × PS := pickText v expN (stB v).2
def stR (v : JV) : Int × Int := readD (stC v).1.data.toList
def stM (v : JV) : JV × PS := pickObj v metN 256 ((stC v).2.fail (stR v).2)
def stL (v : JV) : List PinV × PS := metaOf (stM v).1.names (stM v).1.items (stM v).2 []
theorem snapOf_eq {v : JV} (hm : v.mayB = true) (hk : v.kind = 5) : snapOfJ v = if pickDone v (stL v).2 ≠ 0 then (snapZ, pickDone v (stL v).2) else (⟨(stB v).1, (stR v).1, (stL v).1⟩, 0) := by
 unfold snapOfJ
 rw [hm, if_neg (by simp), if_neg (by simp [hk])]
 rfl
theorem fail_len {st : PS} {e : Int} : (st.fail e).asked = st.asked := by unfold PS.fail; split <;> rfl
theorem text_len {v : JV} {y : ByteArray} {st : PS} : (pickText v y st).2.asked.length ≤ st.asked.length + 1 := by
 unfold pickText
 split
 · simp
 split
 · simp
 · split <;> simp
end Go.Proofs.YtgghgcilpfdbjaaGreatDoor

namespace Go.Proofs.YtgghgcilpfdbjaaGreatDoor
open Go.RowKit
structure PinsOwn (B : Nat) (w : World) (vs : Value) (qs : List PinC) : Prop where
 own : w.ownsRow B 36 4 vs qs.length (qs.flatMap encQ)
 cap : ∀ q ∈ qs, q.1.hs.length ≤ q.2.2
 keys : ∀ q ∈ qs, ∃ lo hi, B ≤ lo ∧ hi ≤ w.heap.size ∧ (∀ b, vs.ownBlock = some b → ¬ (lo ≤ b ∧ b < hi)) ∧ KeysW w lo hi q.2.1 q.1.hs
theorem PinsOwn.nil (B : Nat) (w : World) : PinsOwn B w (.slice none 0 0) [] := ⟨World.ownsRow_nil _ _ _ _, by simp, by simp⟩
theorem PinsOwn.touch {S : Nat → Prop} {B : Nat} {w w' : World} {vs : Value} {qs : List PinC} (h : PinsOwn B w vs qs) (hT : Touch S w w') (hS : ∀ k, B ≤ k → ¬ S k) : PinsOwn B w' vs qs :=
 ⟨owns_touch h.own hT hS, h.cap, fun q hq => by
   obtain ⟨lo, hi, h1, h2, h3, hk⟩ := h.keys q hq
   exact ⟨lo, hi, h1, Nat.le_trans h2 hT.size, h3, hk.carry (Nat.le_refl _) (Nat.le_refl _) (fun b b1 b2 => hT.block b (by omega) (hS b (by omega)))⟩⟩
theorem PinsOwn.below {B : Nat} {w w' : World} {vs : Value} {qs : List PinC} (h : PinsOwn B w vs qs) (hb : Below w.heap.size w w') : PinsOwn B w' vs qs :=
 h.touch (Touch.of_below (S := fun _ => False) hb (Nat.le_refl _)) (fun _ _ h => h)
theorem PinsOwn.mono {B B' : Nat} {w : World} {vs : Value} {qs : List PinC} (h : PinsOwn B w vs qs) (hB : B' ≤ B) : PinsOwn B' w vs qs :=
 ⟨owns_mono h.own hB, h.cap, fun q hq => by
   obtain ⟨lo, hi, h1, h2⟩ := h.keys q hq
   exact ⟨lo, hi, Nat.le_trans hB h1, h2⟩⟩
theorem PinsOwn.snoc {B : Nat} {w w' : World} {v v' : Value} {qs : List PinC} (h : PinsOwn B w v qs) (q : PinC) (lo hi : Nat) (h1 : B ≤ lo) (h2 : hi ≤ w.heap.size) (h3 : ∀ b, v.ownBlock = some b → ¬ (lo ≤ b ∧ b < hi)) (hc : q.1.hs.length ≤ q.2.2) (hk : KeysW w lo hi q.2.1 q.1.hs)
   (hg : w.grownBy w' v.ownBlock) (hown : w'.ownsRow B 36 4 v' (qs.length + 1) (qs.flatMap encQ ++ encQ q)) (hat : v'.ownBlock = v.ownBlock ∨ ∃ g, v'.ownBlock = some g ∧ w.heap.size ≤ g) : PinsOwn B w' v' (qs ++ [q]) := by
 have hx : ∀ {lo hi : Nat}, hi ≤ w.heap.size → (∀ b, v.ownBlock = some b → ¬ (lo ≤ b ∧ b < hi)) → ∀ b, v'.ownBlock = some b → ¬ (lo ≤ b ∧ b < hi) := fun hz hn b hb => by
   rcases hat with e | ⟨g, e, hge⟩
   · exact hn b (by rw [← e]; exact hb)
   · rw [e] at hb; simp at hb; omega
 have hcar : ∀ {lo hi : Nat} {a : Option Addr} {l : List Key2}, hi ≤ w.heap.size → (∀ b, v.ownBlock = some b → ¬ (lo ≤ b ∧ b < hi)) → KeysW w lo hi a l → KeysW w' lo hi a l := fun hz hn hr =>
   hr.carry (Nat.le_refl _) (Nat.le_refl _) (fun b hb1 hb2 => hg.block b (by omega) (fun e => hn b e.symm ⟨hb1, hb2⟩))
 refine ⟨?_, fun p hp => ?_, fun p hp => ?_⟩
 · rw [List.length_append, List.flatMap_append]; simpa using hown
 · rcases List.mem_append.1 hp with hp | hp
   · exact h.cap p hp
   · obtain rfl : p = q := by simpa using hp
     exact hc
 · rcases List.mem_append.1 hp with hp | hp
   · obtain ⟨lo', hi', k1, k2, k3, hk'⟩ := h.keys p hp
     exact ⟨lo', hi', k1, Nat.le_trans k2 hg.size, hx k2 k3, hcar k2 k3 hk'⟩
   · obtain rfl : p = q := by simpa using hp
     exact ⟨lo, hi, h1, Nat.le_trans h2 hg.size, hx h2 h3, hcar h2 h3 hk⟩
theorem PinsOwn.pins {B : Nat} {w : World} {a : Option Addr} {n c : Nat} {qs : List PinC} (h : PinsOwn B w (.slice a n c) qs) : n = qs.length ∧ PinsAt w B w.heap.size a (qs.map (·.1)) := by
 have ho := h.own
 rcases h.own.2 with ⟨hv, h0⟩ | ⟨g, cap, cur, hv, hg, hh, hc, hm, hs, ht⟩
 · simp only [Value.slice.injEq] at hv
   exact ⟨by omega, .inl (by rw [List.eq_nil_of_length_eq_zero h0]; rfl)⟩
 · simp only [Value.slice.injEq] at hv
   obtain ⟨rfl, rfl, rfl⟩ := hv
   refine ⟨rfl, .inr ⟨g, 0, rfl, hg, heap_lt hh, fun i hi2 => ?_⟩⟩
   have hi3 : i < qs.length := by simpa using hi2
   have cell : ∀ q (hq : q < 4), w.cell? ⟨g, 0 + i * 4 + q, none⟩ = some ((encQ qs[i])[q]'(by rw [encQ_len]; exact hq)) := fun q hq => by
     have e : (⟨g, 0, none⟩ : Addr).add (i * 4 + q) = ⟨g, i * 4 + q, none⟩ := by unfold Addr.add; split <;> simp_all
     have := ho.cells (g := g) rfl _ _ (flatQ_get qs i q hi3 hq)
     rw [e] at this
     rw [show 0 + i * 4 + q = i * 4 + q by omega]; exact this
   obtain ⟨lo, hi, k1, k2, _, hk⟩ := h.keys qs[i] (List.getElem_mem hi3)
   rw [List.getElem_map]
   exact ⟨cell 0 (by decide), cell 1 (by decide), cell 2 (by decide), qs[i].2.1, qs[i].2.2, cell 3 (by decide), h.cap _ (List.getElem_mem hi3), (hk.carry k1 k2 (fun _ _ _ => rfl)).1⟩
def OfCPost (C : JV → Prop) (w : World) (e : Ending) (w' : World) : Prop := ∃ u, C u ∧ OfPost u w e w'
def PinOfPost (C : JV → Prop) (f : ByteArray) (v : JV) (w : World) (e : Ending) (w' : World) : Prop :=
 ∃ r ha hc, PinOfR C f v r ∧ e = .returned (.tuple #[.agg #[.string r.1.name, .int .i64 r.1.ver, .int .i64 r.1.len, .slice ha r.1.hs.length hc], .int .i64 r.2]) ∧ KeysW w' w.heap.size w'.heap.size ha r.1.hs ∧ r.1.hs.length ≤ hc ∧ Below w.heap.size w w'
theorem keys_off {W : World} {lo hi b : Nat} {a : Option Addr} {l : List Key2} {v0 v1 v2 v3 : Value} (h : KeysW W lo hi a l) (hb : b < lo) {lo' : Nat} (hl : lo' ≤ lo) : KeysW ((((W.setCell ⟨b, 0, none⟩ v0).setCell ⟨b, 1, none⟩ v1).setCell ⟨b, 2, none⟩ v2).setCell ⟨b, 3, none⟩ v3) lo' hi a l :=
 h.carry hl (Nat.le_refl _) fun k h1 _ => by
   have hn : k ≠ b := by omega
   rw [Below.heap_setCell _ _ _ _ hn, Below.heap_setCell _ _ _ _ hn, Below.heap_setCell _ _ _ _ hn, Below.heap_setCell _ _ _ _ hn]
set_option maxHeartbeats 4000000 in
set_option maxRecDepth 100000 in
theorem snapPinOfG (C : JV → Prop) (f : ByteArray) (v : JV) (x : Value) (w : World) (hN : v.wt ≤ 4294967296) (hR : Rep w 0 w.heap.size v x) (hk : v.kind = 5) (hf : f.size ≤ 9223372036854775807) (hOf : v.mayB = true → ∀ w1, Below w.heap.size w w1 → Calls Tryz.prog 61 #[x] w1 (OfCPost C w1)) :
   Calls Tryz.prog 29 #[.string f, x] w (PinOfPost C f v w) := by
 obtain ⟨an, cn, ai, ci, hx, h1, h2, h3, h4⟩ := hR.parts
 clear h1 h2 h3 h4
 subst hx
 obtain ⟨W2, hW2⟩ : ∃ W2, W2 = (w.alloc (.cells #[.int .u8 v.kind, .int .i64 v.n, .string v.t, .slice an v.names.length cn, .slice ai v.items.length ci] 30)).alloc (.cells #[.string { data := #[] }, .int .i64 0, .int .i64 0, .slice none 0 0] 36) := ⟨_, rfl⟩
 have hz1 : (w.alloc (.cells #[.int .u8 v.kind, .int .i64 v.n, .string v.t, .slice an v.names.length cn, .slice ai v.items.length ci] 30)).heap.size = w.heap.size + 1 := by simp
 have hz2 : W2.heap.size = w.heap.size + 2 := by rw [hW2]; simp
 have hb2 : Below w.heap.size w W2 := by rw [hW2]; exact ((Below.refl _ _).alloc (Nat.le_refl _) _).alloc (by simp) _
 have hx0 : W2.heap[w.heap.size]? = some (.cells #[.int .u8 v.kind, .int .i64 v.n, .string v.t, .slice an v.names.length cn, .slice ai v.items.length ci] 30 (0, 0)) := by rw [hW2, Below.heap_alloc _ _ _ (by simp)]; exact heap_alloc_new w _
 have hr0 : W2.rowIs (w.heap.size + 1) 36 4 (pick4 (.string { data := #[] }) (.int .i64 0) (.int .i64 0) (.slice none 0 0)) := by
   have := rowIs_box4 (w.alloc (.cells #[.int .u8 v.kind, .int .i64 v.n, .string v.t, .slice an v.names.length cn, .slice ai v.items.length ci] 30)) (.string { data := #[] }) (.int .i64 0) (.int .i64 0) (.slice none 0 0) 36
   rw [hz1, ← hW2] at this
   exact this
 have HRN := Lib.hid (nameRoleOf f W2 hf)
 have HM := Lib.hid (valueMay v _ W2 hN (hR.below hb2 (Nat.le_refl _) (Nat.zero_le _) hb2.size))
 have HOF := Lib.hid hOf
 have HW := Lib.hid hW2
 have HB2 := Lib.hid hb2
 have HX0 := Lib.hid hx0
 have HR0 := Lib.hid hr0
 have HZ := Lib.hid hz2
 have HK := Lib.hid hk
 clear hR hW2 hb2 hx0 hr0 hz1 hz2 hOf
 have c0 : W2.cell? ⟨w.heap.size, 0, none⟩ = some (.int .u8 v.kind) := box_cell HX0.out rfl
 have c1 : W2.cell? ⟨w.heap.size, 1, none⟩ = some (.int .i64 v.n) := box_cell HX0.out rfl
 have c2 : W2.cell? ⟨w.heap.size, 2, none⟩ = some (.string v.t) := box_cell HX0.out rfl
 have c3 : W2.cell? ⟨w.heap.size, 3, none⟩ = some (.slice an v.names.length cn) := box_cell HX0.out rfl
 have c4 : W2.cell? ⟨w.heap.size, 4, none⟩ = some (.slice ai v.items.length ci) := box_cell HX0.out rfl
 by_cases hre : roleErr f = 0
 · have HRE := Lib.hid (roleErr_0 hre)
   rw [hre] at HRN
   clear hre
   cases hm : v.mayB
   · have HX := Lib.hid (show PinOfR C f v (pinZ, 3) from .inl ⟨by rw [HRE.out, hm]; rfl, rfl⟩)
     rw [hm] at HM
     clear hm hk
     go_enter Tryz.func29, Tryz.ntmps29
     go_upto_region 1 with fail
     rw [← HW.out]
     go_wp2_with fail
     refine HRN.out.mono ?_
     rintro e w' ⟨rfl, h'⟩
     subst h'
     go_wp2_with fail
     refine HM.out.mono ?_
     rintro e w1 ⟨rfl, hb1⟩
     have hr := below_row hb1 HR0.out HR0.out.lt
     have HBE := Lib.hid (HB2.out.trans (hb1.mono HB2.out.size))
     have t0 := hr.cell (i := 0) (by decide); have t1 := hr.cell (i := 1) (by decide); have t2 := hr.cell (i := 2) (by decide); have t3 := hr.cell (i := 3) (by decide); have s0 := hr.frozen 0; have s1 := hr.frozen 1; have s2 := hr.frozen 2; have s3 := hr.frozen 3
     simp only [pick4] at t0 t1 t2 t3
     have HRS := Lib.hid hr
     clear hr hb1
     go_wp2
     refine bodyPost_ret (results_row_tmp Tryz.results29 _ _ (w.heap.size + 1) 36 _ (0, 0) _ rfl (row4_heap (set4 _ _ _ _ HRS.out)) Tryz.underlying36 rfl (by kernel_rfl) _ rfl) rfl ⟨(pinZ, 3), none, 0, HX.out, rfl, KeysW.nil _ _ _ _, Nat.le_refl _, below4 _ _ _ _ HBE.out (by omega)⟩
   · have HMB := Lib.hid hm
     rw [hm] at HM
     clear hm hk
     go_enter Tryz.func29, Tryz.ntmps29
     go_upto_region 1 with fail
     rw [← HW.out]
     go_wp2_with fail
     refine HRN.out.mono ?_
     rintro e w' ⟨rfl, h'⟩
     subst h'
     go_wp2_with fail
     refine HM.out.mono ?_
     clear HM c0 c1 c2 c3 c4
     rintro e w1 ⟨rfl, hb1⟩
     have hx1 := (hb1.block _ (heap_lt HX0.out)).trans HX0.out
     have HB1 := Lib.hid (HB2.out.trans (hb1.mono HB2.out.size))
     have HR1 := Lib.hid (below_row hb1 HR0.out HR0.out.lt)
     have HZ1 := Lib.hid (show w.heap.size + 2 ≤ w1.heap.size from by have := hb1.size; have := HZ.out; omega)
     have c0 : w1.cell? ⟨w.heap.size, 0, none⟩ = some (.int .u8 v.kind) := box_cell hx1 rfl
     have c1 : w1.cell? ⟨w.heap.size, 1, none⟩ = some (.int .i64 v.n) := box_cell hx1 rfl
     have c2 : w1.cell? ⟨w.heap.size, 2, none⟩ = some (.string v.t) := box_cell hx1 rfl
     have c3 : w1.cell? ⟨w.heap.size, 3, none⟩ = some (.slice an v.names.length cn) := box_cell hx1 rfl
     have c4 : w1.cell? ⟨w.heap.size, 4, none⟩ = some (.slice ai v.items.length ci) := box_cell hx1 rfl
     have HOF1 := Lib.hid (HOF.out HMB.out w1 HB1.out)
     clear hb1 hx1
     go_wp2_with fail
     refine HOF1.out.mono ?_
     clear HOF HOF1 c0 c1 c2 c3 c4
     rintro e w2 ⟨u, hC, o, m, lo2, hi2, an2, ai2, cn2, ci2, rfl, hp2, ho2, hm2, hb2⟩
     have HU := Lib.hid (show ∀ r, pinOfK f u = r → PinOfR C f v r from fun r h => .inr ⟨by rw [HRE.out, HMB.out]; rfl, u, hC, h.symm⟩)
     have HTS := Lib.hid (names_wt hp2.wt)
     have HUW := Lib.hid hp2.wt
     clear hC
     obtain ⟨A, hA⟩ : ∃ A, A = pickNum u verN 1 1099511627776 ⟨[], 0⟩ := ⟨_, rfl⟩
     have HA := Lib.hid hA
     have HAS := Lib.hid (show A.2.asked.length ≤ 1 by rw [hA]; exact num_size)
     clear hA
     obtain ⟨W3, hW3⟩ : ∃ W3, W3 = w2.alloc (.cells #[.string f, .int .i64 0, .int .i64 (-1), .slice none 0 0] 36) := ⟨_, rfl⟩
     have hb3 : Below w2.heap.size w2 W3 := by rw [hW3]; exact (Below.refl _ _).alloc (Nat.le_refl _) _
     have hq3 : W3.rowIs w2.heap.size 36 4 (pick4 (.string f) (.int .i64 0) (.int .i64 (-1)) (.slice none 0 0)) := by rw [hW3]; exact rowIs_box4 _ _ _ _ _ _
     have hoz : o < w2.heap.size := heap_lt hp2.obj
     have hmz : m < w2.heap.size := by obtain ⟨D, n, h, _⟩ := hp2.map; exact h.lt
     have HO := Lib.hid (And.intro (show o < w2.heap.size ∧ m < w2.heap.size ∧ hi2 ≤ w2.heap.size from ⟨hoz, hmz, hp2.le⟩) (show w1.heap.size ≤ o ∧ w1.heap.size ≤ m from ⟨ho2, hm2⟩))
     have HP3 := Lib.hid (hp2.below hb3)
     have HR3 := Lib.hid (below_row (hb2.trans (hb3.mono hb2.size)) HR1.out HR1.out.lt)
     have HB3 := Lib.hid (HB1.out.trans ((hb2.trans (hb3.mono hb2.size)).mono (by have := HZ1.out; omega)))
     have HQ3 := Lib.hid hq3
     have HW3 := Lib.hid hW3
     have HZ3 := Lib.hid (show w2.heap.size < W3.heap.size ∧ w1.heap.size ≤ w2.heap.size from ⟨hq3.lt, hb2.size⟩)
     have HN3 := Lib.hid (pickNumF o m lo2 hi2 u an2 ai2 cn2 ci2 verN 1 1099511627776 ⟨[], 0⟩ W3 HP3.out (by decide) (by simp) (by have := HO.out; have := HZ3.out; omega) (by have := HO.out; have := HZ3.out; omega))
     clear hp2 ho2 hm2 hb2 hW3 hb3 hq3 hoz hmz HR1 HB1
     go_upto_region 6 with fail
     rw [← HW3.out]
     go_wp2_with fail
     refine HN3.out.mono ?_
     clear HN3
     rintro e w3 ⟨rfl, hp3, ht3⟩
     rw [← HA.out] at hp3 ⊢
     have hr3 := ht3.row HR3.out (by have := HO.out; have := HZ1.out; omega)
     have hq3 := ht3.row HQ3.out (by have := HO.out; omega)
     have HB4 := Lib.hid (HB3.out.trans (ht3.below (by have := HZ1.out; have := HZ3.out; omega) (fun k hk e => by have := HO.out; have := HZ1.out; omega)))
     obtain ⟨W4, hW4⟩ : ∃ W4, W4 = w3.setCell ⟨w2.heap.size, 1, none⟩ (.int .i64 A.1) := ⟨_, rfl⟩
     have ht4 : Touch (fun b => b = w2.heap.size) w3 W4 := by rw [hW4]; exact touch_put _
     have hp4 := hp3.touch ht4 (by have := HO.out; omega) (by have := HO.out; omega) HO.out.1.2.2
     have hr4 := ht4.row hr3 (by have := HZ1.out; have := HZ3.out; omega)
     have hq4 : W4.rowIs w2.heap.size 36 4 (pick4 (.string f) (.int .i64 A.1) (.int .i64 (-1)) (.slice none 0 0)) := by
       rw [hW4]
       refine (hq3.set 1 (.int .i64 A.1)).congr fun j hj => ?_
       rcases j with _ | _ | _ | _ | j <;> first | rfl | omega
     have u1 := hq3.cell (i := 1) (by decide)
     have f1 := hq3.frozen 1
     simp only [pick4] at u1
     have HPa := Lib.hid hp4
     have HRa := Lib.hid hr4
     have HQa := Lib.hid hq4
     have HBa := Lib.hid (show Below w.heap.size w W4 from by rw [hW4]; exact HB4.out.setCell (by show w.heap.size ≤ w2.heap.size; have := HZ1.out; have := HZ3.out; omega) _)
     have HW4 := Lib.hid hW4
     have HZ4 := Lib.hid (show w2.heap.size < W4.heap.size from hq4.lt)
     clear hp3 ht3 hr3 hq3 ht4 hp4 hr4 hq4 hW4 HP3 HR3 HB3 HQ3
     go_upto_region 7 with fail
     rw [← HW4.out]
     clear u1 f1
     have HHL := Lib.hid (pickHasF o m lo2 hi2 u an2 ai2 cn2 ci2 lenN A.2 W4 HPa.out)
     cases hl : pickHas u lenN A.2
     · have HS0 := Lib.hid (show pinOfK f u = if pickDone u (hasSt u A.2).2 ≠ 0 then (pinZ, pickDone u (hasSt u A.2).2) else (⟨f, A.1, -1, (hasSt u A.2).1⟩, 0) by rw [pinOfK_eq, ← HA.out, show lenSt u A.2 = (-1, A.2) by unfold lenSt; rw [hl]; rfl])
       rw [hl] at HHL
       clear hl
       go_wp2_with fail
       refine HHL.out.mono ?_
       clear HHL
       rintro e wa ⟨rfl, hb⟩
       replace HPa := Lib.hid (HPa.out.below hb)
       replace HRa := Lib.hid (below_row hb HRa.out HRa.out.lt)
       replace HQa := Lib.hid (below_row hb HQa.out HQa.out.lt)
       replace HBa := Lib.hid (HBa.out.trans (hb.mono HBa.out.size))
       clear hb
       obtain ⟨ST, hST⟩ : ∃ ST, ST = A.2 := ⟨_, rfl⟩
       rw [← hST] at HPa HS0 HAS
       clear hST
       have HS := HS0
       have HSZ := Lib.hid (show ST.asked.length ≤ 2 by have := HAS.out; omega)
       have HHS := Lib.hid (pickHasF o m lo2 hi2 u an2 ai2 cn2 ci2 hasN ST wa HPa.out)
       cases hh : pickHas u hasN ST
       · have HX := Lib.hid (show pinOfK f u = if pickDone u ST ≠ 0 then (pinZ, pickDone u ST) else (⟨f, A.1, (-1), []⟩, 0) by have h := HS.out; unfold hasSt at h; rw [hh] at h; exact h)
         rw [hh] at HHS
         clear hh
         go_wp2_with fail
         refine HHS.out.mono ?_
         clear HHS
         rintro e wb ⟨rfl, hb⟩
         have HDO := Lib.hid (pickDoneF o m lo2 hi2 u an2 ai2 cn2 ci2 ST wb (HPa.out.below hb) HTS.out)
         have HRb := Lib.hid (below_row hb HRa.out HRa.out.lt)
         have HQb := Lib.hid (below_row hb HQa.out HQa.out.lt)
         have HBE := Lib.hid (HBa.out.trans (hb.mono HBa.out.size))
         clear hb
         obtain ⟨dn, hdn⟩ : ∃ dn, dn = pickDone u ST := ⟨_, rfl⟩
         rw [← hdn] at HDO HX
         clear hdn
         go_wp2_with fail
         refine HDO.out.mono ?_
         clear HDO
         rintro e w' ⟨rfl, h'⟩
         subst h'
         by_cases hd : dn = 0
         · have HR := Lib.hid (HU.out _ (show pinOfK f u = (⟨f, A.1, (-1), []⟩, 0) by rw [HX.out, hd]; rfl))
           subst hd
           have hr := HRb.out; have hq := HQb.out
           have t0 := hr.cell (i := 0) (by decide); have t1 := hr.cell (i := 1) (by decide); have t2 := hr.cell (i := 2) (by decide); have t3 := hr.cell (i := 3) (by decide); have s0 := hr.frozen 0; have s1 := hr.frozen 1; have s2 := hr.frozen 2; have s3 := hr.frozen 3; have z0 := hq.cell (i := 0) (by decide); have z1 := hq.cell (i := 1) (by decide); have z2 := hq.cell (i := 2) (by decide); have z3 := hq.cell (i := 3) (by decide)
           simp only [pick4] at t0 t1 t2 t3 z0 z1 z2 z3
           have HRS := Lib.hid hr
           clear hr hq
           go_wp2
           refine bodyPost_ret (results_row_tmp Tryz.results29 _ _ (w.heap.size + 1) 36 _ (0, 0) _ rfl (row4_heap (set4 _ _ _ _ HRS.out)) Tryz.underlying36 rfl (by kernel_rfl) _ rfl) rfl ⟨_, none, 0, HR.out, rfl, KeysW.nil _ _ _ _, Nat.le_refl _, below4 _ _ _ _ HBE.out (by omega)⟩
         · have HR := Lib.hid (HU.out _ (show pinOfK f u = (pinZ, dn) by rw [HX.out]; simp [hd]))
           have hd1 : (dn == 0) = false := by simpa using hd
           have hd2 : (dn != 0) = true := by simpa using hd
           clear hd
           have hr := HRb.out
           have t0 := hr.cell (i := 0) (by decide); have t1 := hr.cell (i := 1) (by decide); have t2 := hr.cell (i := 2) (by decide); have t3 := hr.cell (i := 3) (by decide); have s0 := hr.frozen 0; have s1 := hr.frozen 1; have s2 := hr.frozen 2; have s3 := hr.frozen 3
           simp only [pick4] at t0 t1 t2 t3
           have HRS := Lib.hid hr
           clear hr
           go_wp2
           refine bodyPost_ret (results_row_tmp Tryz.results29 _ _ (w.heap.size + 1) 36 _ (0, 0) _ rfl (row4_heap (set4 _ _ _ _ HRS.out)) Tryz.underlying36 rfl (by kernel_rfl) _ rfl) rfl ⟨(pinZ, dn), none, 0, HR.out, rfl, KeysW.nil _ _ _ _, Nat.le_refl _, below4 _ _ _ _ HBE.out (by omega)⟩
       · have HX0h := Lib.hid (show pinOfK f u = if pickDone u ((pickObj u hasN 4 ST).2.fail (hashesOfJ (pickObj u hasN 4 ST).1).2) ≠ 0 then (pinZ, pickDone u ((pickObj u hasN 4 ST).2.fail (hashesOfJ (pickObj u hasN 4 ST).1).2)) else (⟨f, A.1, (-1), (hashesOfJ (pickObj u hasN 4 ST).1).1⟩, 0) by have h := HS.out; unfold hasSt at h; rw [hh] at h; exact h)
         rw [hh] at HHS
         clear hh
         go_wp2_with fail
         refine HHS.out.mono ?_
         clear HHS
         rintro e wb ⟨rfl, hb⟩
         have HOB := Lib.hid (pickObjF o m lo2 hi2 u an2 ai2 cn2 ci2 hasN 4 ST wb (HPa.out.below hb) (by decide) (by have := HSZ.out; omega))
         have HRb := Lib.hid (below_row hb HRa.out HRa.out.lt)
         have HQb := Lib.hid (below_row hb HQa.out HQa.out.lt)
         have HBb := Lib.hid (HBa.out.trans (hb.mono HBa.out.size))
         have HZb := Lib.hid (show w2.heap.size < wb.heap.size from HQb.out.lt)
         clear hb HPa HRa HQa HBa
         go_wp2_with fail
         refine HOB.out.mono ?_
         clear HOB
         rintro e w6 ⟨⟨an6, cn6, ai6, ci6, rfl, hrep⟩, hp6, ht6⟩
         obtain ⟨M, hM⟩ : ∃ M, M = pickObj u hasN 4 ST := ⟨_, rfl⟩
         have HMW := Lib.hid (show M.1.wt ≤ 4294967296 by rw [hM]; exact pickObj_wt HUW.out)
         rw [← hM] at hp6 hrep HX0h ⊢
         clear hM
         have hr6 := ht6.row HRb.out (by have := HO.out; have := HZ1.out; omega)
         have hq6 := ht6.row HQb.out (by have := HO.out; omega)
         have HB6 := Lib.hid (HBb.out.trans (ht6.below (by have := HZ1.out; have := HZ3.out; have := HZb.out; omega) (fun k hk e => by have := HO.out; have := HZ1.out; omega)))
         have HHO := Lib.hid (recHashesOf M.1 _ w6 HMW.out (hrep.carry (Nat.zero_le _) (Nat.le_refl _) (fun _ _ _ => rfl)))
         have HR6 := Lib.hid hr6
         have HQ6 := Lib.hid hq6
         have HP6 := Lib.hid hp6
         have HZ6 := Lib.hid (show wb.heap.size ≤ w6.heap.size from ht6.size)
         clear hr6 hq6 hp6 ht6 hrep HRb HQb HBb
         go_wp2_with fail
         refine HHO.out.mono ?_
         clear HHO
         rintro e w7 ⟨ah, ch, rfl, hk7, hcp, hb7⟩
         obtain ⟨H, hH⟩ : ∃ H, H = hashesOfJ M.1 := ⟨_, rfl⟩
         rw [← hH] at hk7 hcp HX0h ⊢
         have HCP := Lib.hid hcp
         clear hH hcp
         have HP7 := Lib.hid (HP6.out.below hb7)
         have HR7 := Lib.hid (below_row hb7 HR6.out HR6.out.lt)
         have HQ7 := Lib.hid (below_row hb7 HQ6.out HQ6.out.lt)
         have HB7 := Lib.hid (HB6.out.trans (hb7.mono HB6.out.size))
         have HZ7 := Lib.hid (show w6.heap.size ≤ w7.heap.size from hb7.size)
         have HK7 := Lib.hid hk7
         have HFL := Lib.hid (pickFailG o m lo2 hi2 u an2 ai2 cn2 ci2 H.2 M.2 w7 HP7.out)
         obtain ⟨T, hT⟩ : ∃ T, T = M.2.fail H.2 := ⟨_, rfl⟩
         rw [← hT] at HX0h HFL
         clear hT hk7 hb7 HP6 HR6 HQ6 HB6
         go_wp2_with fail
         refine HFL.out.mono ?_
         clear HFL
         rintro e w8 ⟨rfl, hp8, ht8⟩
         have hr8 := ht8.row HR7.out (by have := HO.out; have := HZ1.out; omega)
         have hq8 := ht8.row HQ7.out (by have := HO.out; omega)
         have HB8 := Lib.hid (HB7.out.trans (ht8.below (by have := HZ1.out; have := HZ3.out; have := HZb.out; have := HZ6.out; have := HZ7.out; omega) (fun k hk e => by have := HO.out; have := HZ1.out; omega)))
         obtain ⟨W9, hW9⟩ : ∃ W9, W9 = w8.setCell ⟨w2.heap.size, 3, none⟩ (.slice ah H.1.length ch) := ⟨_, rfl⟩
         have ht9 : Touch (fun b => b = w2.heap.size) w8 W9 := by rw [hW9]; exact touch_put _
         have hp9 := hp8.touch ht9 (by have := HO.out; omega) (by have := HO.out; omega) HO.out.1.2.2
         have hr9 := ht9.row hr8 (by have := HZ1.out; have := HZ3.out; omega)
         have hq9 : W9.rowIs w2.heap.size 36 4 (pick4 (.string f) (.int .i64 A.1) (.int .i64 (-1)) (.slice ah H.1.length ch)) := by
           rw [hW9]
           refine (hq8.set 3 (.slice ah H.1.length ch)).congr fun j hj => ?_
           rcases j with _ | _ | _ | _ | j <;> first | rfl | omega
         have hk9 : KeysW W9 w6.heap.size W9.heap.size ah H.1 := HK7.out.carry (Nat.le_refl _) (Nat.le_trans ht8.size ht9.size) (fun b h1 h2 => by
           have hz1 := HZb.out; have hz2 := HZ6.out; have hz3 := HO.out
           rw [ht9.block b (Nat.lt_of_lt_of_le h2 ht8.size) (by omega), ht8.block b h2 (by omega)])
         have u3 := hq8.cell (i := 3) (by decide)
         have f3 := hq8.frozen 3
         simp only [pick4] at u3
         have HRb := Lib.hid hr9
         have HQb := Lib.hid hq9
         have HK9 := Lib.hid hk9
         have HBE := Lib.hid (show Below w.heap.size w W9 from by rw [hW9]; exact HB8.out.setCell (by show w.heap.size ≤ w2.heap.size; have := HZ1.out; have := HZ3.out; omega) _)
         have HDO := Lib.hid (pickDoneF o m lo2 hi2 u an2 ai2 cn2 ci2 T W9 hp9 HTS.out)
         have HW9 := Lib.hid hW9
         clear hp8 ht8 hr8 hq8 ht9 hp9 hr9 hq9 hk9 hW9 HR7 HQ7 HB7 HB8 HP7 HK7
         go_upto_region 13 with fail
         rw [← HW9.out]
         clear u3 f3
         obtain ⟨dn, hdn⟩ : ∃ dn, dn = pickDone u T := ⟨_, rfl⟩
         rw [← hdn] at HDO HX0h
         clear hdn
         go_wp2_with fail
         refine HDO.out.mono ?_
         clear HDO
         rintro e w' ⟨rfl, h'⟩
         subst h'
         by_cases hd : dn = 0
         · have HR := Lib.hid (HU.out _ (show pinOfK f u = (⟨f, A.1, (-1), H.1⟩, 0) by rw [HX0h.out, hd]; rfl))
           subst hd
           have hr := HRb.out; have hq := HQb.out
           have t0 := hr.cell (i := 0) (by decide); have t1 := hr.cell (i := 1) (by decide); have t2 := hr.cell (i := 2) (by decide); have t3 := hr.cell (i := 3) (by decide); have s0 := hr.frozen 0; have s1 := hr.frozen 1; have s2 := hr.frozen 2; have s3 := hr.frozen 3; have z0 := hq.cell (i := 0) (by decide); have z1 := hq.cell (i := 1) (by decide); have z2 := hq.cell (i := 2) (by decide); have z3 := hq.cell (i := 3) (by decide)
           simp only [pick4] at t0 t1 t2 t3 z0 z1 z2 z3
           have HRS := Lib.hid hr
           clear hr hq
           go_wp2
           refine bodyPost_ret (results_row_tmp Tryz.results29 _ _ (w.heap.size + 1) 36 _ (0, 0) _ rfl (row4_heap (set4 _ _ _ _ HRS.out)) Tryz.underlying36 rfl (by kernel_rfl) _ rfl) rfl ⟨_, ah, ch, HR.out, rfl, (keys_off (lo' := w.heap.size) HK9.out (by have := HZ1.out; have := HZ3.out; have := HZb.out; have := HZ6.out; omega) (by have := HZ1.out; have := HZ3.out; have := HZb.out; have := HZ6.out; omega)).carry (Nat.le_refl _) (by simp [World.setCell]) (fun _ _ _ => rfl), HCP.out, below4 _ _ _ _ HBE.out (by omega)⟩
         · have HR := Lib.hid (HU.out _ (show pinOfK f u = (pinZ, dn) by rw [HX0h.out]; simp [hd]))
           have hd1 : (dn == 0) = false := by simpa using hd
           have hd2 : (dn != 0) = true := by simpa using hd
           clear hd
           have hr := HRb.out
           have t0 := hr.cell (i := 0) (by decide); have t1 := hr.cell (i := 1) (by decide); have t2 := hr.cell (i := 2) (by decide); have t3 := hr.cell (i := 3) (by decide); have s0 := hr.frozen 0; have s1 := hr.frozen 1; have s2 := hr.frozen 2; have s3 := hr.frozen 3
           simp only [pick4] at t0 t1 t2 t3
           have HRS := Lib.hid hr
           clear hr
           go_wp2
           refine bodyPost_ret (results_row_tmp Tryz.results29 _ _ (w.heap.size + 1) 36 _ (0, 0) _ rfl (row4_heap (set4 _ _ _ _ HRS.out)) Tryz.underlying36 rfl (by kernel_rfl) _ rfl) rfl ⟨(pinZ, dn), none, 0, HR.out, rfl, KeysW.nil _ _ _ _, Nat.le_refl _, below4 _ _ _ _ HBE.out (by omega)⟩
     · obtain ⟨B, hB⟩ : ∃ B, B = pickNum u lenN 0 1099511627776 A.2 := ⟨_, rfl⟩
       have HS0 := Lib.hid (show pinOfK f u = if pickDone u (hasSt u B.2).2 ≠ 0 then (pinZ, pickDone u (hasSt u B.2).2) else (⟨f, A.1, B.1, (hasSt u B.2).1⟩, 0) by rw [pinOfK_eq, ← HA.out, show lenSt u A.2 = B by unfold lenSt; rw [hl, if_pos rfl, ← hB]])
       have HBS := Lib.hid (show B.2.asked.length ≤ 2 by rw [hB]; exact Nat.le_trans num_size (by have := HAS.out; omega))
       rw [hl] at HHL
       have HB := Lib.hid hB
       clear hl hB
       go_wp2_with fail
       refine HHL.out.mono ?_
       clear HHL
       rintro e w4 ⟨rfl, hb⟩
       have HN5 := Lib.hid (pickNumF o m lo2 hi2 u an2 ai2 cn2 ci2 lenN 0 1099511627776 A.2 w4 (HPa.out.below hb) (by decide) (by have := HAS.out; omega) (by have := HO.out; have := hb.size; have := HZ4.out; omega) (by have := HO.out; have := hb.size; have := HZ4.out; omega))
       have HR5 := Lib.hid (below_row hb HRa.out HRa.out.lt)
       have HQ5 := Lib.hid (below_row hb HQa.out HQa.out.lt)
       have HB5 := Lib.hid (HBa.out.trans (hb.mono HBa.out.size))
       have HZ5 := Lib.hid (show W4.heap.size ≤ w4.heap.size from hb.size)
       clear hb HPa HRa HQa HBa
       go_wp2_with fail
       refine HN5.out.mono ?_
       clear HN5
       rintro e w5 ⟨rfl, hp5, ht5⟩
       rw [← HB.out] at hp5 ⊢
       have hr5 := ht5.row HR5.out (by have := HO.out; have := HZ1.out; omega)
       have hq5 := ht5.row HQ5.out (by have := HO.out; omega)
       have HB6 := Lib.hid (HB5.out.trans (ht5.below (by have := HZ1.out; have := HZ3.out; have := HZ4.out; have := HZ5.out; omega) (fun k hk e => by have := HO.out; have := HZ1.out; omega)))
       obtain ⟨wa, hW6⟩ : ∃ W6, W6 = w5.setCell ⟨w2.heap.size, 2, none⟩ (.int .i64 B.1) := ⟨_, rfl⟩
       have ht6 : Touch (fun b => b = w2.heap.size) w5 wa := by rw [hW6]; exact touch_put _
       have hp6 := hp5.touch ht6 (by have := HO.out; omega) (by have := HO.out; omega) HO.out.1.2.2
       have hr6 := ht6.row hr5 (by have := HZ1.out; have := HZ3.out; omega)
       have hq6 : wa.rowIs w2.heap.size 36 4 (pick4 (.string f) (.int .i64 A.1) (.int .i64 B.1) (.slice none 0 0)) := by
         rw [hW6]
         refine (hq5.set 2 (.int .i64 B.1)).congr fun j hj => ?_
         rcases j with _ | _ | _ | _ | j <;> first | rfl | omega
       have u1 := hq5.cell (i := 2) (by decide)
       have f1 := hq5.frozen 2
       simp only [pick4] at u1
       have HPa := Lib.hid hp6
       have HRa := Lib.hid hr6
       have HQa := Lib.hid hq6
       have HBa := Lib.hid (show Below w.heap.size w wa from by rw [hW6]; exact HB6.out.setCell (by show w.heap.size ≤ w2.heap.size; have := HZ1.out; have := HZ3.out; omega) _)
       have HW6 := Lib.hid hW6
       clear hp5 ht5 hr5 hq5 ht6 hp6 hr6 hq6 hW6 HR5 HQ5 HB5
       go_upto_region 9 with fail
       rw [← HW6.out]
       clear u1 f1
       obtain ⟨ST, hST⟩ : ∃ ST, ST = B.2 := ⟨_, rfl⟩
       rw [← hST] at HPa HS0 HBS
       clear hST
       have HS := HS0
       have HSZ := HBS
       have HHS := Lib.hid (pickHasF o m lo2 hi2 u an2 ai2 cn2 ci2 hasN ST wa HPa.out)
       cases hh : pickHas u hasN ST
       · have HX := Lib.hid (show pinOfK f u = if pickDone u ST ≠ 0 then (pinZ, pickDone u ST) else (⟨f, A.1, B.1, []⟩, 0) by have h := HS.out; unfold hasSt at h; rw [hh] at h; exact h)
         rw [hh] at HHS
         clear hh
         go_wp2_with fail
         refine HHS.out.mono ?_
         clear HHS
         rintro e wb ⟨rfl, hb⟩
         have HDO := Lib.hid (pickDoneF o m lo2 hi2 u an2 ai2 cn2 ci2 ST wb (HPa.out.below hb) HTS.out)
         have HRb := Lib.hid (below_row hb HRa.out HRa.out.lt)
         have HQb := Lib.hid (below_row hb HQa.out HQa.out.lt)
         have HBE := Lib.hid (HBa.out.trans (hb.mono HBa.out.size))
         clear hb
         obtain ⟨dn, hdn⟩ : ∃ dn, dn = pickDone u ST := ⟨_, rfl⟩
         rw [← hdn] at HDO HX
         clear hdn
         go_wp2_with fail
         refine HDO.out.mono ?_
         clear HDO
         rintro e w' ⟨rfl, h'⟩
         subst h'
         by_cases hd : dn = 0
         · have HR := Lib.hid (HU.out _ (show pinOfK f u = (⟨f, A.1, B.1, []⟩, 0) by rw [HX.out, hd]; rfl))
           subst hd
           have hr := HRb.out; have hq := HQb.out
           have t0 := hr.cell (i := 0) (by decide); have t1 := hr.cell (i := 1) (by decide); have t2 := hr.cell (i := 2) (by decide); have t3 := hr.cell (i := 3) (by decide); have s0 := hr.frozen 0; have s1 := hr.frozen 1; have s2 := hr.frozen 2; have s3 := hr.frozen 3; have z0 := hq.cell (i := 0) (by decide); have z1 := hq.cell (i := 1) (by decide); have z2 := hq.cell (i := 2) (by decide); have z3 := hq.cell (i := 3) (by decide)
           simp only [pick4] at t0 t1 t2 t3 z0 z1 z2 z3
           have HRS := Lib.hid hr
           clear hr hq
           go_wp2
           refine bodyPost_ret (results_row_tmp Tryz.results29 _ _ (w.heap.size + 1) 36 _ (0, 0) _ rfl (row4_heap (set4 _ _ _ _ HRS.out)) Tryz.underlying36 rfl (by kernel_rfl) _ rfl) rfl ⟨_, none, 0, HR.out, rfl, KeysW.nil _ _ _ _, Nat.le_refl _, below4 _ _ _ _ HBE.out (by omega)⟩
         · have HR := Lib.hid (HU.out _ (show pinOfK f u = (pinZ, dn) by rw [HX.out]; simp [hd]))
           have hd1 : (dn == 0) = false := by simpa using hd
           have hd2 : (dn != 0) = true := by simpa using hd
           clear hd
           have hr := HRb.out
           have t0 := hr.cell (i := 0) (by decide); have t1 := hr.cell (i := 1) (by decide); have t2 := hr.cell (i := 2) (by decide); have t3 := hr.cell (i := 3) (by decide); have s0 := hr.frozen 0; have s1 := hr.frozen 1; have s2 := hr.frozen 2; have s3 := hr.frozen 3
           simp only [pick4] at t0 t1 t2 t3
           have HRS := Lib.hid hr
           clear hr
           go_wp2
           refine bodyPost_ret (results_row_tmp Tryz.results29 _ _ (w.heap.size + 1) 36 _ (0, 0) _ rfl (row4_heap (set4 _ _ _ _ HRS.out)) Tryz.underlying36 rfl (by kernel_rfl) _ rfl) rfl ⟨(pinZ, dn), none, 0, HR.out, rfl, KeysW.nil _ _ _ _, Nat.le_refl _, below4 _ _ _ _ HBE.out (by omega)⟩
       · have HX0h := Lib.hid (show pinOfK f u = if pickDone u ((pickObj u hasN 4 ST).2.fail (hashesOfJ (pickObj u hasN 4 ST).1).2) ≠ 0 then (pinZ, pickDone u ((pickObj u hasN 4 ST).2.fail (hashesOfJ (pickObj u hasN 4 ST).1).2)) else (⟨f, A.1, B.1, (hashesOfJ (pickObj u hasN 4 ST).1).1⟩, 0) by have h := HS.out; unfold hasSt at h; rw [hh] at h; exact h)
         rw [hh] at HHS
         clear hh
         go_wp2_with fail
         refine HHS.out.mono ?_
         clear HHS
         rintro e wb ⟨rfl, hb⟩
         have HOB := Lib.hid (pickObjF o m lo2 hi2 u an2 ai2 cn2 ci2 hasN 4 ST wb (HPa.out.below hb) (by decide) (by have := HSZ.out; omega))
         have HRb := Lib.hid (below_row hb HRa.out HRa.out.lt)
         have HQb := Lib.hid (below_row hb HQa.out HQa.out.lt)
         have HBb := Lib.hid (HBa.out.trans (hb.mono HBa.out.size))
         have HZb := Lib.hid (show w2.heap.size < wb.heap.size from HQb.out.lt)
         clear hb HPa HRa HQa HBa
         go_wp2_with fail
         refine HOB.out.mono ?_
         clear HOB
         rintro e w6 ⟨⟨an6, cn6, ai6, ci6, rfl, hrep⟩, hp6, ht6⟩
         obtain ⟨M, hM⟩ : ∃ M, M = pickObj u hasN 4 ST := ⟨_, rfl⟩
         have HMW := Lib.hid (show M.1.wt ≤ 4294967296 by rw [hM]; exact pickObj_wt HUW.out)
         rw [← hM] at hp6 hrep HX0h ⊢
         clear hM
         have hr6 := ht6.row HRb.out (by have := HO.out; have := HZ1.out; omega)
         have hq6 := ht6.row HQb.out (by have := HO.out; omega)
         have HB6 := Lib.hid (HBb.out.trans (ht6.below (by have := HZ1.out; have := HZ3.out; have := HZb.out; omega) (fun k hk e => by have := HO.out; have := HZ1.out; omega)))
         have HHO := Lib.hid (recHashesOf M.1 _ w6 HMW.out (hrep.carry (Nat.zero_le _) (Nat.le_refl _) (fun _ _ _ => rfl)))
         have HR6 := Lib.hid hr6
         have HQ6 := Lib.hid hq6
         have HP6 := Lib.hid hp6
         have HZ6 := Lib.hid (show wb.heap.size ≤ w6.heap.size from ht6.size)
         clear hr6 hq6 hp6 ht6 hrep HRb HQb HBb
         go_wp2_with fail
         refine HHO.out.mono ?_
         clear HHO
         rintro e w7 ⟨ah, ch, rfl, hk7, hcp, hb7⟩
         obtain ⟨H, hH⟩ : ∃ H, H = hashesOfJ M.1 := ⟨_, rfl⟩
         rw [← hH] at hk7 hcp HX0h ⊢
         have HCP := Lib.hid hcp
         clear hH hcp
         have HP7 := Lib.hid (HP6.out.below hb7)
         have HR7 := Lib.hid (below_row hb7 HR6.out HR6.out.lt)
         have HQ7 := Lib.hid (below_row hb7 HQ6.out HQ6.out.lt)
         have HB7 := Lib.hid (HB6.out.trans (hb7.mono HB6.out.size))
         have HZ7 := Lib.hid (show w6.heap.size ≤ w7.heap.size from hb7.size)
         have HK7 := Lib.hid hk7
         have HFL := Lib.hid (pickFailG o m lo2 hi2 u an2 ai2 cn2 ci2 H.2 M.2 w7 HP7.out)
         obtain ⟨T, hT⟩ : ∃ T, T = M.2.fail H.2 := ⟨_, rfl⟩
         rw [← hT] at HX0h HFL
         clear hT hk7 hb7 HP6 HR6 HQ6 HB6
         go_wp2_with fail
         refine HFL.out.mono ?_
         clear HFL
         rintro e w8 ⟨rfl, hp8, ht8⟩
         have hr8 := ht8.row HR7.out (by have := HO.out; have := HZ1.out; omega)
         have hq8 := ht8.row HQ7.out (by have := HO.out; omega)
         have HB8 := Lib.hid (HB7.out.trans (ht8.below (by have := HZ1.out; have := HZ3.out; have := HZb.out; have := HZ6.out; have := HZ7.out; omega) (fun k hk e => by have := HO.out; have := HZ1.out; omega)))
         obtain ⟨W9, hW9⟩ : ∃ W9, W9 = w8.setCell ⟨w2.heap.size, 3, none⟩ (.slice ah H.1.length ch) := ⟨_, rfl⟩
         have ht9 : Touch (fun b => b = w2.heap.size) w8 W9 := by rw [hW9]; exact touch_put _
         have hp9 := hp8.touch ht9 (by have := HO.out; omega) (by have := HO.out; omega) HO.out.1.2.2
         have hr9 := ht9.row hr8 (by have := HZ1.out; have := HZ3.out; omega)
         have hq9 : W9.rowIs w2.heap.size 36 4 (pick4 (.string f) (.int .i64 A.1) (.int .i64 B.1) (.slice ah H.1.length ch)) := by
           rw [hW9]
           refine (hq8.set 3 (.slice ah H.1.length ch)).congr fun j hj => ?_
           rcases j with _ | _ | _ | _ | j <;> first | rfl | omega
         have hk9 : KeysW W9 w6.heap.size W9.heap.size ah H.1 := HK7.out.carry (Nat.le_refl _) (Nat.le_trans ht8.size ht9.size) (fun b h1 h2 => by
           have hz1 := HZb.out; have hz2 := HZ6.out; have hz3 := HO.out
           rw [ht9.block b (Nat.lt_of_lt_of_le h2 ht8.size) (by omega), ht8.block b h2 (by omega)])
         have u3 := hq8.cell (i := 3) (by decide)
         have f3 := hq8.frozen 3
         simp only [pick4] at u3
         have HRb := Lib.hid hr9
         have HQb := Lib.hid hq9
         have HK9 := Lib.hid hk9
         have HBE := Lib.hid (show Below w.heap.size w W9 from by rw [hW9]; exact HB8.out.setCell (by show w.heap.size ≤ w2.heap.size; have := HZ1.out; have := HZ3.out; omega) _)
         have HDO := Lib.hid (pickDoneF o m lo2 hi2 u an2 ai2 cn2 ci2 T W9 hp9 HTS.out)
         have HW9 := Lib.hid hW9
         clear hp8 ht8 hr8 hq8 ht9 hp9 hr9 hq9 hk9 hW9 HR7 HQ7 HB7 HB8 HP7 HK7
         go_upto_region 13 with fail
         rw [← HW9.out]
         clear u3 f3
         obtain ⟨dn, hdn⟩ : ∃ dn, dn = pickDone u T := ⟨_, rfl⟩
         rw [← hdn] at HDO HX0h
         clear hdn
         go_wp2_with fail
         refine HDO.out.mono ?_
         clear HDO
         rintro e w' ⟨rfl, h'⟩
         subst h'
         by_cases hd : dn = 0
         · have HR := Lib.hid (HU.out _ (show pinOfK f u = (⟨f, A.1, B.1, H.1⟩, 0) by rw [HX0h.out, hd]; rfl))
           subst hd
           have hr := HRb.out; have hq := HQb.out
           have t0 := hr.cell (i := 0) (by decide); have t1 := hr.cell (i := 1) (by decide); have t2 := hr.cell (i := 2) (by decide); have t3 := hr.cell (i := 3) (by decide); have s0 := hr.frozen 0; have s1 := hr.frozen 1; have s2 := hr.frozen 2; have s3 := hr.frozen 3; have z0 := hq.cell (i := 0) (by decide); have z1 := hq.cell (i := 1) (by decide); have z2 := hq.cell (i := 2) (by decide); have z3 := hq.cell (i := 3) (by decide)
           simp only [pick4] at t0 t1 t2 t3 z0 z1 z2 z3
           have HRS := Lib.hid hr
           clear hr hq
           go_wp2
           refine bodyPost_ret (results_row_tmp Tryz.results29 _ _ (w.heap.size + 1) 36 _ (0, 0) _ rfl (row4_heap (set4 _ _ _ _ HRS.out)) Tryz.underlying36 rfl (by kernel_rfl) _ rfl) rfl ⟨_, ah, ch, HR.out, rfl, (keys_off (lo' := w.heap.size) HK9.out (by have := HZ1.out; have := HZ3.out; have := HZb.out; have := HZ6.out; omega) (by have := HZ1.out; have := HZ3.out; have := HZb.out; have := HZ6.out; omega)).carry (Nat.le_refl _) (by simp [World.setCell]) (fun _ _ _ => rfl), HCP.out, below4 _ _ _ _ HBE.out (by omega)⟩
         · have HR := Lib.hid (HU.out _ (show pinOfK f u = (pinZ, dn) by rw [HX0h.out]; simp [hd]))
           have hd1 : (dn == 0) = false := by simpa using hd
           have hd2 : (dn != 0) = true := by simpa using hd
           clear hd
           have hr := HRb.out
           have t0 := hr.cell (i := 0) (by decide); have t1 := hr.cell (i := 1) (by decide); have t2 := hr.cell (i := 2) (by decide); have t3 := hr.cell (i := 3) (by decide); have s0 := hr.frozen 0; have s1 := hr.frozen 1; have s2 := hr.frozen 2; have s3 := hr.frozen 3
           simp only [pick4] at t0 t1 t2 t3
           have HRS := Lib.hid hr
           clear hr
           go_wp2
           refine bodyPost_ret (results_row_tmp Tryz.results29 _ _ (w.heap.size + 1) 36 _ (0, 0) _ rfl (row4_heap (set4 _ _ _ _ HRS.out)) Tryz.underlying36 rfl (by kernel_rfl) _ rfl) rfl ⟨(pinZ, dn), none, 0, HR.out, rfl, KeysW.nil _ _ _ _, Nat.le_refl _, below4 _ _ _ _ HBE.out (by omega)⟩
 · have HX := Lib.hid (show PinOfR C f v (pinZ, 3) from .inl ⟨by rw [roleErr_1 hre]; rfl, rfl⟩)
   obtain ⟨re, hre'⟩ : ∃ re, re = roleErr f := ⟨_, rfl⟩
   rw [← hre'] at hre HRN
   have hd1 : (re == 0) = false := by simpa using hre
   have hd2 : (re != 0) = true := by simpa using hre
   have hr := HR0.out
   have t0 := hr.cell (i := 0) (by decide); have t1 := hr.cell (i := 1) (by decide); have t2 := hr.cell (i := 2) (by decide); have t3 := hr.cell (i := 3) (by decide); have s0 := hr.frozen 0; have s1 := hr.frozen 1; have s2 := hr.frozen 2; have s3 := hr.frozen 3
   simp only [pick4] at t0 t1 t2 t3
   have HRS := Lib.hid hr
   have HBE := Lib.hid HB2.out
   clear hr hre hre' hk
   go_enter Tryz.func29, Tryz.ntmps29
   go_upto_region 1 with fail
   rw [← HW.out]
   go_wp2_with fail
   refine HRN.out.mono ?_
   rintro e w' ⟨rfl, h'⟩
   subst h'
   go_wp2
   refine bodyPost_ret (results_row_tmp Tryz.results29 _ _ (w.heap.size + 1) 36 _ (0, 0) _ rfl (row4_heap (set4 _ _ _ _ HRS.out)) Tryz.underlying36 rfl (by kernel_rfl) _ rfl) rfl ⟨(pinZ, 3), none, 0, HX.out, rfl, KeysW.nil _ _ _ _, Nat.le_refl _, below4 _ _ _ _ HBE.out (by omega)⟩
def pinOfA (f : ByteArray) (v : JV) : PinV × Int := if ((roleOf f).isNone || !v.mayB) = true then (pinZ, 3) else if v.kind ≠ 5 then (pinZ, 10) else pinOfK f v
def PinAPost (r : PinV × Int) (w : World) (e : Ending) (w' : World) : Prop :=
 ∃ ha hc, e = .returned (.tuple #[.agg #[.string r.1.name, .int .i64 r.1.ver, .int .i64 r.1.len, .slice ha r.1.hs.length hc], .int .i64 r.2]) ∧ KeysW w' w.heap.size w'.heap.size ha r.1.hs ∧ r.1.hs.length ≤ hc ∧ Below w.heap.size w w'
set_option maxHeartbeats 4000000 in
set_option maxRecDepth 100000 in
theorem snapPinOfN (f : ByteArray) (v : JV) (x : Value) (w : World) (hN : v.wt ≤ 4294967296) (hR : Rep w 0 w.heap.size v x) (hk : v.kind ≠ 5) (hf : f.size ≤ 9223372036854775807) :
   Calls Tryz.prog 29 #[.string f, x] w (PinAPost (pinOfA f v) w) := by
 obtain ⟨an, cn, ai, ci, hx, h1, h2, h3, h4⟩ := hR.parts
 clear h1 h2 h3 h4
 subst hx
 obtain ⟨W2, hW2⟩ : ∃ W2, W2 = (w.alloc (.cells #[.int .u8 v.kind, .int .i64 v.n, .string v.t, .slice an v.names.length cn, .slice ai v.items.length ci] 30)).alloc (.cells #[.string { data := #[] }, .int .i64 0, .int .i64 0, .slice none 0 0] 36) := ⟨_, rfl⟩
 have hz1 : (w.alloc (.cells #[.int .u8 v.kind, .int .i64 v.n, .string v.t, .slice an v.names.length cn, .slice ai v.items.length ci] 30)).heap.size = w.heap.size + 1 := by simp
 have hz2 : W2.heap.size = w.heap.size + 2 := by rw [hW2]; simp
 have hb2 : Below w.heap.size w W2 := by rw [hW2]; exact ((Below.refl _ _).alloc (Nat.le_refl _) _).alloc (by simp) _
 have hx0 : W2.heap[w.heap.size]? = some (.cells #[.int .u8 v.kind, .int .i64 v.n, .string v.t, .slice an v.names.length cn, .slice ai v.items.length ci] 30 (0, 0)) := by rw [hW2, Below.heap_alloc _ _ _ (by simp)]; exact heap_alloc_new w _
 have hr0 : W2.rowIs (w.heap.size + 1) 36 4 (pick4 (.string { data := #[] }) (.int .i64 0) (.int .i64 0) (.slice none 0 0)) := by
   have := rowIs_box4 (w.alloc (.cells #[.int .u8 v.kind, .int .i64 v.n, .string v.t, .slice an v.names.length cn, .slice ai v.items.length ci] 30)) (.string { data := #[] }) (.int .i64 0) (.int .i64 0) (.slice none 0 0) 36
   rw [hz1, ← hW2] at this
   exact this
 have HRN := Lib.hid (nameRoleOf f W2 hf)
 have HM := Lib.hid (valueMay v _ W2 hN (hR.below hb2 (Nat.le_refl _) (Nat.zero_le _) hb2.size))
 have HW := Lib.hid hW2
 have HB2 := Lib.hid hb2
 have HX0 := Lib.hid hx0
 have HR0 := Lib.hid hr0
 have HZ := Lib.hid hz2
 have HK := Lib.hid hk
 clear hR hW2 hb2 hx0 hr0 hz1 hz2 hk
 have HC := Lib.hid (show ∀ w' : World, Below W2.heap.size W2 w' → w'.cell? ⟨w.heap.size, 0, none⟩ = some (.int .u8 v.kind) ∧ w'.cell? ⟨w.heap.size, 1, none⟩ = some (.int .i64 v.n) ∧ w'.cell? ⟨w.heap.size, 2, none⟩ = some (.string v.t) ∧ w'.cell? ⟨w.heap.size, 3, none⟩ = some (.slice an v.names.length cn) ∧ w'.cell? ⟨w.heap.size, 4, none⟩ = some (.slice ai v.items.length ci) from fun w' h => by
   have x := (h.block _ (heap_lt HX0.out)).trans HX0.out
   exact ⟨box_cell x rfl, box_cell x rfl, box_cell x rfl, box_cell x rfl, box_cell x rfl⟩)
 obtain ⟨c0, c1, c2, c3, c4⟩ := HC.out W2 (Below.refl _ _)
 have HEND := Lib.hid (show ∀ (w' : World) (er : Int), pinOfA f v = (pinZ, er) → Below W2.heap.size W2 w' → PinAPost (pinOfA f v) w (.returned (.tuple #[.agg #[.string { data := #[] }, .int .i64 0, .int .i64 0, .slice none 0 0], .int .i64 er])) ((((w'.setCell ⟨w.heap.size + 1, 0, none⟩ (.string { data := #[] })).setCell ⟨w.heap.size + 1, 1, none⟩ (.int .i64 0)).setCell ⟨w.heap.size + 1, 2, none⟩ (.int .i64 0)).setCell ⟨w.heap.size + 1, 3, none⟩ (.slice none 0 0)) from fun w' er he hb => by
   unfold PinAPost
   rw [he]
   exact ⟨none, 0, rfl, KeysW.nil _ _ _ _, Nat.le_refl _, below4 _ _ _ _ (HB2.out.trans (hb.mono HB2.out.size)) (by omega)⟩)
 by_cases hre : roleErr f = 0
 case neg =>
   have HX := Lib.hid (show pinOfA f v = (pinZ, 3) by unfold pinOfA; rw [roleErr_1 hre]; rfl)
   obtain ⟨re, hre'⟩ : ∃ re, re = roleErr f := ⟨_, rfl⟩
   rw [← hre'] at hre HRN
   have hd1 : (re == 0) = false := by simpa using hre
   have hd2 : (re != 0) = true := by simpa using hre
   have hr := HR0.out
   have t0 := hr.cell (i := 0) (by decide); have t1 := hr.cell (i := 1) (by decide); have t2 := hr.cell (i := 2) (by decide); have t3 := hr.cell (i := 3) (by decide); have s0 := hr.frozen 0; have s1 := hr.frozen 1; have s2 := hr.frozen 2; have s3 := hr.frozen 3
   simp only [pick4] at t0 t1 t2 t3
   have HRS := Lib.hid hr
   clear hr hre hre'
   go_enter Tryz.func29, Tryz.ntmps29
   go_upto_region 1 with fail
   rw [← HW.out]
   go_wp2_with fail
   refine HRN.out.mono ?_
   rintro e w' ⟨rfl, h'⟩
   subst h'
   go_wp2
   exact bodyPost_ret (results_row_tmp Tryz.results29 _ _ (w.heap.size + 1) 36 _ (0, 0) _ rfl (row4_heap (set4 _ _ _ _ HRS.out)) Tryz.underlying36 rfl (by kernel_rfl) _ rfl) rfl (HEND.out _ _ HX.out (Below.refl _ _))
 have HRE := Lib.hid (roleErr_0 hre)
 rw [hre] at HRN
 clear hre
 go_enter Tryz.func29, Tryz.ntmps29
 go_upto_region 1 with fail
 rw [← HW.out]
 go_wp2_with fail
 refine HRN.out.mono ?_
 rintro e w' ⟨rfl, h'⟩
 subst h'
 cases hm : v.mayB with
 | false =>
   have HX := Lib.hid (show pinOfA f v = (pinZ, 3) by unfold pinOfA; rw [HRE.out, hm]; rfl)
   rw [hm] at HM
   clear hm
   go_wp2_with fail
   refine HM.out.mono ?_
   rintro e w1 ⟨rfl, hb1⟩
   have hr := below_row hb1 HR0.out HR0.out.lt
   have HBE := Lib.hid hb1
   have t0 := hr.cell (i := 0) (by decide); have t1 := hr.cell (i := 1) (by decide); have t2 := hr.cell (i := 2) (by decide); have t3 := hr.cell (i := 3) (by decide); have s0 := hr.frozen 0; have s1 := hr.frozen 1; have s2 := hr.frozen 2; have s3 := hr.frozen 3
   simp only [pick4] at t0 t1 t2 t3
   have HRS := Lib.hid hr
   clear hr hb1 c0 c1 c2 c3 c4
   go_wp2
   exact bodyPost_ret (results_row_tmp Tryz.results29 _ _ (w.heap.size + 1) 36 _ (0, 0) _ rfl (row4_heap (set4 _ _ _ _ HRS.out)) Tryz.underlying36 rfl (by kernel_rfl) _ rfl) rfl (HEND.out _ _ HX.out HBE.out)
 | true =>
   have HX := Lib.hid (show pinOfA f v = (pinZ, 10) by unfold pinOfA; rw [HRE.out, hm, if_neg (by decide), if_pos HK.out])
   rw [hm] at HM
   clear hm
   go_wp2_with fail
   refine HM.out.mono ?_
   clear c0 c1 c2 c3 c4
   rintro e w1 ⟨rfl, hb1⟩
   have HB1 := Lib.hid hb1
   obtain ⟨c0, c1, c2, c3, c4⟩ := HC.out w1 hb1
   have HOB := Lib.hid (pickOf_bad v.kind v.n v.t (.slice an v.names.length cn) (.slice ai v.items.length ci) w1 HK.out)
   clear hb1
   go_wp2_with fail
   refine HOB.out.mono ?_
   clear HOB c0 c1 c2 c3 c4
   rintro e w2 ⟨o, rfl, ho1, ho2, hpb, hb2⟩
   obtain ⟨W3, hW3⟩ : ∃ W3, W3 = w2.alloc (.cells #[.string f, .int .i64 0, .int .i64 (-1), .slice none 0 0] 36) := ⟨_, rfl⟩
   have hb3 : Below w2.heap.size w2 W3 := by rw [hW3]; exact (Below.refl _ _).alloc (Nat.le_refl _) _
   have hq3 : W3.rowIs w2.heap.size 36 4 (pick4 (.string f) (.int .i64 0) (.int .i64 (-1)) (.slice none 0 0)) := by rw [hW3]; exact rowIs_box4 _ _ _ _ _ _
   have HPB := Lib.hid (hpb.below hb3 ho2)
   have HQ3 := Lib.hid hq3
   have HB3 := Lib.hid (HB1.out.trans ((hb2.trans (hb3.mono hb2.size)).mono HB1.out.size))
   have HO := Lib.hid (show o < w2.heap.size ∧ w2.heap.size < W3.heap.size ∧ w1.heap.size ≤ w2.heap.size from ⟨ho2, hq3.lt, hb2.size⟩)
   have HN3 := Lib.hid (numBad o 10 verN 1 1099511627776 W3 HPB.out (Nat.lt_trans ho2 hq3.lt))
   clear hb3 hq3 hpb ho1 ho2 hb2
   go_upto_region 6 with fail
   rw [← hW3]
   clear hW3
   go_wp2_with fail
   refine HN3.out.mono ?_
   clear HN3
   rintro e w4 ⟨rfl, hb4⟩
   have hq4 := below_row hb4 HQ3.out HQ3.out.lt
   have hp4 := HPB.out.below hb4 (by have := HO.out; omega)
   obtain ⟨W5, hW5⟩ : ∃ W5, W5 = w4.setCell ⟨w2.heap.size, 1, none⟩ (.int .i64 0) := ⟨_, rfl⟩
   have ht5 : Touch (fun b => b = w2.heap.size) w4 W5 := by rw [hW5]; exact touch_put _
   have hp5 : PickBad o 10 W5 := by
     obtain ⟨h1, h2, k, h3⟩ := hp4
     have hz := hb4.size
     have ho := HO.out
     exact ⟨h1, by rw [ht5.cell (p := ⟨o, 6, none⟩) (show o < w4.heap.size by omega) (show ¬ o = w2.heap.size by omega)]; exact h2, k, by rw [ht5.cell (p := ⟨o, 0, none⟩) (show o < w4.heap.size by omega) (show ¬ o = w2.heap.size by omega)]; exact h3⟩
   have u1 := hq4.cell (i := 1) (by decide)
   have f1 := hq4.frozen 1
   simp only [pick4] at u1
   have HP5 := Lib.hid hp5
   have hB3 := HB3.out.trans (hb4.mono HB3.out.size)
   have HB5 := Lib.hid (hB3.setCell (p := ⟨w2.heap.size, 1, none⟩) (Nat.le_trans HB1.out.size HO.out.2.2) (.int .i64 0))
   rw [← hW5] at HB5
   have hr5 := below_row HB5.out HR0.out HR0.out.lt
   have HRS := Lib.hid hr5
   have HW5 := Lib.hid hW5
   clear hq4 hp4 ht5 hp5 hW5 hb4 hr5
   go_upto_region 7 with fail
   rw [← HW5.out]
   clear u1 f1
   go_wp2_with fail
   refine (hasBad o 10 lenN W5 HP5.out).mono ?_
   rintro e w' ⟨rfl, h'⟩
   subst h'
   go_wp2_with fail
   refine (hasBad o 10 hasN W5 HP5.out).mono ?_
   rintro e w' ⟨rfl, h'⟩
   subst h'
   obtain ⟨k5, hk5⟩ := HP5.out.2.2
   have HDE := Lib.hid (doneErr o 10 k5 W5 (by decide) HP5.out.2.1 hk5)
   clear hk5
   go_wp2_with fail
   refine HDE.out.mono ?_
   rintro e w' ⟨rfl, h'⟩
   subst h'
   have hr := HRS.out
   have t0 := hr.cell (i := 0) (by decide); have t1 := hr.cell (i := 1) (by decide); have t2 := hr.cell (i := 2) (by decide); have t3 := hr.cell (i := 3) (by decide); have s0 := hr.frozen 0; have s1 := hr.frozen 1; have s2 := hr.frozen 2; have s3 := hr.frozen 3
   simp only [pick4] at t0 t1 t2 t3
   clear hr
   go_wp2
   exact bodyPost_ret (results_row_tmp Tryz.results29 _ _ (w.heap.size + 1) 36 _ (0, 0) _ rfl (row4_heap (set4 _ _ _ _ HRS.out)) Tryz.underlying36 rfl (by kernel_rfl) _ rfl) rfl (HEND.out _ _ HX.out HB5.out)
theorem snapPinOfA (f : ByteArray) (v : JV) (x : Value) (w : World) (lo hi : Nat) (hN : v.wt ≤ 4294967296) (hlo : 0 < lo) (hhi : hi ≤ w.heap.size) (hR : Rep w lo hi v x) (hf : f.size ≤ 9223372036854775807) :
   Calls Tryz.prog 29 #[.string f, x] w (PinAPost (pinOfA f v) w) := by
 by_cases hk : v.kind = 5
 case neg => exact snapPinOfN f v x w hN (hR.carry (Nat.zero_le _) hhi (fun _ _ _ => rfl)) hk hf
 refine (snapPinOfG (fun u => u = v) f v x w hN (hR.carry (Nat.zero_le _) hhi (fun _ _ _ => rfl)) hk hf (fun hm w1 hb => by
   obtain ⟨hri, hle, _⟩ := may_obj hm hk
   exact (pickOf_good v x w1 lo hi hN (Nat.le_trans hhi hb.size) (hR.below hb hhi (Nat.le_refl _) (Nat.le_refl _)) hk hri hle (fun _ _ => .inl hlo)).mono fun e w' h => ⟨v, rfl, h⟩)).mono ?_
 rintro e w' ⟨r, ha, hc, hr, rfl, h1, h2, h3⟩
 have : r = pinOfA f v := by
   unfold pinOfA
   rcases hr with ⟨ha, rfl⟩ | ⟨ha, u, rfl, rfl⟩
   · rw [if_pos ha]
   · rw [if_neg (by rw [ha]; decide), if_neg (by simp [hk])]
 subst this
 exact ⟨ha, hc, rfl, h1, h2, h3⟩
set_option maxHeartbeats 4000000 in
set_option maxRecDepth 100000 in
theorem ref21SameHashesG (l m : List Key2) (a b : Option Addr) (c d : Nat) (w : World) (hA : KeysAt w 0 w.heap.size a l) (hB : KeysAt w 0 w.heap.size b m) (hl : l.length ≤ 9223372036854775807) (hm : m.length ≤ 9223372036854775807) :
   Calls Tryz.prog 54 #[.slice a l.length c, .slice b m.length d] w (TellsEq l m w) := by
 by_cases hn : l.length = m.length
 case neg =>
   have t1 : ((l.length : Int) != (m.length : Int)) = true := by rw [bne_iff_ne]; omega
   have t2 : (l.length != m.length) = true := by rw [bne_iff_ne]; omega
   go_enter Tryz.func54, Tryz.ntmps54
   go_wp2
   go_ret
   exact ⟨false, rfl, by simp; intro h; exact hn (by rw [h]), Below.refl _ _⟩
 have t1 : ((l.length : Int) != (m.length : Int)) = false := by rw [hn]; simp
 have t2 : (l.length != m.length) = false := by rw [hn]; simp
 have HA := Lib.hid hA
 have HBb := Lib.hid hB
 have HN := Lib.hid hn
 clear hA hB hn
 go_enter Tryz.func54, Tryz.ntmps54
 go_wp2
 go_loopw [5] (fun i wr => ∃ k : Nat, k ≤ l.length ∧ i = .int .i64 k ∧ l.take k = m.take k ∧ Below w.heap.size w wr) (fun i _ => l.length - (intOf i).toNat)
 case atStart => exact ⟨0, by omega, rfl, by simp, Below.refl _ _⟩
 case round =>
   obtain ⟨k, hk, rfl, hsf, hb⟩ := hrel
   have HSF := Lib.hid hsf
   have HB := Lib.hid hb
   clear hsf
   by_cases hlt : k < l.length
   · have hlm : k < m.length := by have := HN.out; omega
     obtain ⟨b1, o1, ha1, _, _, e0, e1⟩ := (HA.out.below hb (Nat.le_refl _) (Nat.le_refl _) hb.size).at k hlt
     obtain ⟨b2, o2, ha2, _, _, y0, y1⟩ := (HBb.out.below hb (Nat.le_refl _) (Nat.le_refl _) hb.size).at k hlm
     subst ha1 ha2
     have HTK := Lib.hid (show l[k] = m[k] → l.take (k + 1) = m.take (k + 1) from fun h => by rw [List.take_succ_eq_append_getElem hlt, List.take_succ_eq_append_getElem hlm, HSF.out, h])
     have HNO := Lib.hid (show l[k] ≠ m[k] → l ≠ m from fun h e => h (by subst e; rfl))
     obtain ⟨p, hp⟩ : ∃ p, p = l[k] := ⟨_, rfl⟩
     obtain ⟨q, hq⟩ : ∃ q, q = m[k] := ⟨_, rfl⟩
     rw [← hp] at e0 e1
     rw [← hq] at y0 y1
     rw [← hp, ← hq] at HTK HNO
     clear hp hq hb
     obtain ⟨s0, s1⟩ := p
     obtain ⟨u0, u1⟩ := q
     dsimp only at e0 e1 y0 y1
     by_cases h0 : s0 = u0
     · have r0 : (s0.toList == u0.toList) = true := by rw [h0]; simp
       have HS0 := Lib.hid h0
       clear h0
       by_cases h1 : s1 = u1
       · have r1 : (s1.toList == u1.toList) = true := by rw [h1]; simp
         have HS1 := Lib.hid h1
         clear h1
         go_wp2_with fail
         go_quiet (fail)
         go_wp2
         go_roundw
         case rel => exact ⟨k + 1, by omega, by go_num, HTK.out (by rw [HS0.out, HS1.out]), Below.drewN HB.out _⟩
         case measure => simp [intOf]; omega
       · have r1 : (s1.toList == u1.toList) = false := beq_eq_false_iff_ne.2 (fun e => h1 (ba_ext2 e))
         have HS1 := Lib.hid h1
         clear h1
         go_wp2_with fail
         go_quiet (fail)
         go_wp2
         go_ret
         exact ⟨false, rfl, by simp; exact HNO.out (fun e => HS1.out (by injection e)), Below.drewN HB.out _⟩
     · have r0 : (s0.toList == u0.toList) = false := beq_eq_false_iff_ne.2 (fun e => h0 (ba_ext2 e))
       have HS0 := Lib.hid h0
       clear h0
       go_wp2_with fail
       go_quiet (fail)
       go_wp2
       go_ret
       exact ⟨false, rfl, by simp; exact HNO.out (fun e => HS0.out (by injection e)), Below.drewN HB.out _⟩
   · obtain rfl : k = l.length := by omega
     clear hb
     go_wp2
     go_ret
     exact ⟨true, rfl, by simp; have := HSF.out; rwa [List.take_length, HN.out, List.take_length] at this, HB.out⟩
end Go.Proofs.YtgghgcilpfdbjaaGreatDoor
