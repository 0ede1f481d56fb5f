/- The contracts of a picker's Fail in any state, snap.parseType, parseVersion, parseExpires. The contract of snap.parseMeta. Printed by genmeta.py. The contracts of snap.parts and snap.Of (of an object that may be, of which no pin has hashes). The contracts of legateref13.RoleOf and File: the same as the program's. The contracts of legateref21.digits, MayHashes, SameHashes and of legateref23.file. The contracts of legateref23.SamePin and Same in full: true just of what is equal. Pins in a row that the call owns, hashes and all: what stays, one pin more. -/
import Derived.Test.YtgghgcilpfdbjaaGreatDoorSk16
import Derived.Test.YtgghgcilpfdbjaaGreatDoorSk23
import Derived.Test.YtgghgcilpfdbjaaGreatDoorSk24
import Derived.Test.YtgghgcilpfdbjaaGreatDoorSk09
import Derived.Test.YtgghgcilpfdbjaaGreatDoorSk17
import Derived.Test.YtgghgcilpfdbjaaGreatDoorSk02
import Derived.Test.YtgghgcilpfdbjaaGreatDoorSk06
import Derived.Laws.EntriesVeiled
import Derived.Test.YtgghgcilpfdbjaaGreatDoorSk10
import Derived.Test.YtgghgcilpfdbjaaGreatDoorSk03
import Derived.Test.YtgghgcilpfdbjaaGreatDoorSk08
import Derived.BigQuiet
import Derived.Test.YtgghgcilpfdbjaaGreatDoorSk01
import Derived.StillTailTactics

namespace Go.Proofs.YtgghgcilpfdbjaaGreatDoor
open Go.RowKit

def FailPost (o m lo hi : Nat) (v : JV) (an ai : Option Addr) (cn ci : Nat) (st : PS) (w : World) (r : Ending) (w' : World) : Prop := r = .returned (.tuple #[]) ∧ PickAt o m lo hi v an ai cn ci st w' ∧ Touch (fun b => b = o ∨ b = m) w w'
set_option maxHeartbeats 1000000 in
theorem pickFailG (o m lo hi : Nat) (v : JV) (an ai : Option Addr) (cn ci : Nat) (e : Int) (st : PS) (w : World) (hP : PickAt o m lo hi v an ai cn ci st w) :
    Calls Tryz.prog 66 #[.pointer (some ⟨o, 0, none⟩), .int .i64 e] w (FailPost o m lo hi v an ai cn ci (st.fail e) w) := by
  have c6 : w.cell? ⟨o, 6, none⟩ = some (.int .i64 st.err) := box_cell hP.obj rfl
  have c0 : w.cell? ⟨o, 0, none⟩ = some (.int .u8 5) := (box_cell (j := 0) hP.obj rfl).trans (by rw [hP.kind]; rfl)
  have d7 : w.frozen? ⟨o, 6, none⟩ = false := by simp [World.frozen?, hP.obj]
  by_cases he : st.err = 0
  · rw [he] at c6
    refine (pickFail o e w c6 c0 d7).mono ?_
    rintro r w' ⟨rfl, rfl⟩
    refine ⟨rfl, ?_, (Touch.refl _ _).setCell (.inl (.inl rfl)) _⟩
    unfold PS.fail
    rw [if_pos he]
    exact hP.fail e
  · have he' : (st.err == 0) = false := by simpa using he
    have HX := Lib.hid (show st.fail e = st by unfold PS.fail; rw [if_neg he])
    have HP := Lib.hid hP
    have HE := Lib.hid (pickErr o st.err 5 w c6 c0 (fun h => by simp [h] at he'))
    clear hP he c6 c0 d7
    go_enter Tryz.func66, Tryz.ntmps66
    go_wp2_with fail
    refine HE.out.mono ?_
    rintro r w' ⟨rfl, h'⟩
    subst w'
    go_wp2
    go_end0
    exact ⟨rfl, by rw [HX.out]; exact HP.out, Touch.refl _ _⟩

theorem snp_list : snpN.toList = [115, 110, 97, 112, 115, 104, 111, 116] := by rw [ByteArray.toList_eq]; rfl
/-- The picker's state behind parseType. -/
def tyS (v : JV) (st : PS) : PS := if (pickText v typN st).1 ≠ snpN then (pickText v typN st).2.fail 13 else (pickText v typN st).2
set_option maxHeartbeats 1000000 in
theorem snapParseType (o m lo hi p : Nat) (v : JV) (an ai : Option Addr) (cn ci : Nat) (st : PS) (w : World) (hP : PickAt o m lo hi v an ai cn ci st w) (ha : st.asked.length ≤ 4294967296) :
    Calls Tryz.prog 113 #[.pointer (some ⟨o, 0, none⟩), .pointer (some ⟨p, 0, none⟩)] w (FailPost o m lo hi v an ai cn ci (tyS v st) w) := by
  have HT := Lib.hid (pickTextF o m lo hi v an ai cn ci typN st w hP (by decide) ha)
  clear hP
  go_enter Tryz.func113, Tryz.ntmps113
  go_wp2_with fail
  refine HT.out.mono ?_
  clear HT
  rintro r w1 ⟨rfl, h1, h2⟩
  obtain ⟨a, hA⟩ : ∃ a, a = pickText v typN st := ⟨_, rfl⟩
  have HTY := Lib.hid (show tyS v st = if a.1 ≠ snpN then a.2.fail 13 else a.2 by unfold tyS; rw [hA])
  rw [← hA] at h1 ⊢
  have H2 := Lib.hid h2
  have H1 := Lib.hid h1
  clear hA h1 h2
  by_cases hc : a.1 = snpN
  · have hc2 : (a.1.toList == [115, 110, 97, 112, 115, 104, 111, 116]) = true := by rw [← snp_list, ba_eq, decide_eq_true_eq]; exact hc
    have HX := Lib.hid (show tyS v st = a.2 by rw [HTY.out, if_neg (by simp [hc])])
    clear hc
    go_wp2
    go_end0
    exact ⟨rfl, by rw [HX.out]; exact H1.out, H2.out⟩
  · have hc2 : (a.1.toList == [115, 110, 97, 112, 115, 104, 111, 116]) = false := by rw [← snp_list, ba_eq, decide_eq_false_iff_not]; exact hc
    have HX := Lib.hid (show tyS v st = a.2.fail 13 by rw [HTY.out, if_pos hc])
    have HF := Lib.hid (pickFailG o m lo hi v an ai cn ci 13 a.2 w1 H1.out)
    clear hc
    go_wp2_with fail
    refine HF.out.mono ?_
    rintro r w2 ⟨rfl, h3, h4⟩
    have H3 := Lib.hid h3
    have H4 := Lib.hid (H2.out.trans h4)
    clear h3 h4
    go_wp2
    go_end0
    exact ⟨rfl, by rw [HX.out]; exact H3.out, H4.out⟩

/-- What a parse of a part of a snapshot leaves: the picker's state, the snapshot's box. -/
def ParsePost (o m lo hi p : Nat) (v : JV) (an ai : Option Addr) (cn ci : Nat) (st : PS) (x0 x1 x2 : Value) (w : World) (r : Ending) (w' : World) : Prop :=
  r = .returned (.tuple #[]) ∧ PickAt o m lo hi v an ai cn ci st w' ∧ w'.rowIs p 24 3 (pick3 x0 x1 x2) ∧ Touch (fun b => b = o ∨ b = m ∨ b = p) w w'
set_option maxHeartbeats 1000000 in
theorem snapParseVersion (o m lo hi p : Nat) (v : JV) (an ai : Option Addr) (cn ci : Nat) (st : PS) (x0 x1 x2 : Value) (w : World) (hP : PickAt o m lo hi v an ai cn ci st w) (ha : st.asked.length ≤ 4294967296) (hr : w.rowIs p 24 3 (pick3 x0 x1 x2)) (hpo : p ≠ o) (hpm : p ≠ m) (hph : hi ≤ p) :
    Calls Tryz.prog 114 #[.pointer (some ⟨o, 0, none⟩), .pointer (some ⟨p, 0, none⟩)] w (ParsePost o m lo hi p v an ai cn ci (pickNum v verN 1 1099511627776 st).2 (.int .i64 (pickNum v verN 1 1099511627776 st).1) x1 x2 w) := by
  have ho : o < w.heap.size := heap_lt hP.obj
  have hm : m < w.heap.size := by obtain ⟨D, n, h, _⟩ := hP.map; exact h.lt
  have HN := Lib.hid (pickNumF o m lo hi v an ai cn ci verN 1 1099511627776 st w hP (by decide) ha hm ho)
  have HR := Lib.hid hr
  have HNE := Lib.hid (And.intro hpo (And.intro hpm hph))
  clear hP hr ho hm hpo hpm hph
  go_enter Tryz.func114, Tryz.ntmps114
  go_wp2_with fail
  refine HN.out.mono ?_
  clear HN
  rintro r w1 ⟨rfl, h1, h2⟩
  obtain ⟨a, hA⟩ : ∃ a, a = pickNum v verN 1 1099511627776 st := ⟨_, rfl⟩
  rw [← hA] at h1 ⊢
  have HA := Lib.hid hA
  have hr1 := h2.row HR.out (by have := HNE.out; omega)
  have H1 := Lib.hid h1
  have H2 := Lib.hid h2
  have HR1 := Lib.hid hr1
  have u0 := hr1.cell (i := 0) (by decide)
  have f0 := hr1.frozen 0
  simp only [pick3] at u0
  clear hA h1 h2 hr1
  go_wp2
  go_end0
  unfold ParsePost
  rw [← HA.out]
  refine ⟨rfl, H1.out.touch (touch_put _) HNE.out.1 HNE.out.2.1 HNE.out.2.2, (HR1.out.set 0 (.int .i64 a.1)).congr fun j hj => ?_, (H2.out.mono (fun k _ h => h.elim .inl (fun h => .inr (.inl h)))).trans ((touch_put _).mono (fun k _ h => .inr (.inr h)))⟩
  rcases j with _ | _ | _ | j <;> first | rfl | omega
set_option maxHeartbeats 1000000 in
theorem snapParseExpires (o m lo hi p : Nat) (v : JV) (an ai : Option Addr) (cn ci : Nat) (st : PS) (x0 x1 x2 : Value) (w : World) (hP : PickAt o m lo hi v an ai cn ci st w) (ha : st.asked.length ≤ 4294967296) (hr : w.rowIs p 24 3 (pick3 x0 x1 x2)) (hpo : p ≠ o) (hpm : p ≠ m) (hph : hi ≤ p) (hT : TabW w) (hTo : 0 ≠ o) (hTm : 0 ≠ m) :
    Calls Tryz.prog 115 #[.pointer (some ⟨o, 0, none⟩), .pointer (some ⟨p, 0, none⟩)] w (ParsePost o m lo hi p v an ai cn ci ((pickText v expN st).2.fail (readD (pickText v expN st).1.data.toList).2) x0 (.int .i64 (readD (pickText v expN st).1.data.toList).1) x2 w) := by
  have ho : o < w.heap.size := heap_lt hP.obj
  have hm : m < w.heap.size := by obtain ⟨D, n, h, _⟩ := hP.map; exact h.lt
  have HO := Lib.hid (And.intro ho hm)
  have HTX := Lib.hid (pickTextF o m lo hi v an ai cn ci expN st w hP (by decide) ha)
  have HR := Lib.hid hr
  have HNE := Lib.hid (And.intro hpo (And.intro hpm hph))
  have HT := Lib.hid hT
  have HTN := Lib.hid (And.intro hTo hTm)
  clear hP hr ho hm hpo hpm hph hT hTo hTm
  go_enter Tryz.func115, Tryz.ntmps115
  go_wp2_with fail
  refine HTX.out.mono ?_
  clear HTX
  rintro r w1 ⟨rfl, h1, h2⟩
  obtain ⟨a, hA⟩ : ∃ a, a = pickText v expN st := ⟨_, rfl⟩
  rw [← hA] at h1 ⊢
  have HA := Lib.hid hA
  have hr1 := h2.row HR.out (by have := HNE.out; omega)
  have ht1 : TabW w1 := ⟨fun i hi => by rw [h2.cell (p := ⟨0, i, none⟩) HT.out.lt (fun h => h.elim (fun e => HTN.out.1 e) (fun e => HTN.out.2 e))]; exact HT.out.months i hi, Nat.lt_of_lt_of_le HT.out.lt h2.size⟩
  have HRD := Lib.hid (whenRead a.1 w1 ht1)
  obtain ⟨rd, hrd⟩ : ∃ rd, rd = readD a.1.data.toList := ⟨_, rfl⟩
  rw [← hrd] at HRD ⊢
  have HRDE := Lib.hid hrd
  have H1 := Lib.hid h1
  have H2 := Lib.hid h2
  have HR1 := Lib.hid hr1
  clear hA h1 h2 hr1 ht1 hrd
  go_wp2_with fail
  refine HRD.out.mono ?_
  clear HRD
  rintro r w2 ⟨rfl, hb⟩
  have HF := Lib.hid (pickFailG o m lo hi v an ai cn ci rd.2 a.2 w2 (H1.out.below hb))
  have HR2 := Lib.hid (below_row hb HR1.out HR1.out.lt)
  have HT2 := Lib.hid (show Touch (fun b => b = o ∨ b = m) w w2 from H2.out.trans (Touch.of_below hb (Nat.le_refl _)))
  clear hb
  go_wp2_with fail
  refine HF.out.mono ?_
  clear HF
  rintro r w3 ⟨rfl, h3, h4⟩
  have hr3 := h4.row HR2.out (by have := HNE.out; omega)
  have u1 := hr3.cell (i := 1) (by decide)
  have f1 := hr3.frozen 1
  simp only [pick3] at u1
  have H3 := Lib.hid h3
  have H4 := Lib.hid (HT2.out.trans h4)
  have HR3 := Lib.hid hr3
  clear h3 h4 hr3
  go_wp2
  go_end0
  unfold ParsePost
  rw [← HA.out, ← HRDE.out]
  refine ⟨rfl, H3.out.touch (touch_put _) HNE.out.1 HNE.out.2.1 HNE.out.2.2, (HR3.out.set 1 (.int .i64 rd.1)).congr fun j hj => ?_, (H4.out.mono (fun k _ h => h.elim .inl (fun h => .inr (.inl h)))).trans ((touch_put _).mono (fun k _ h => .inr (.inr h)))⟩
  rcases j with _ | _ | _ | j <;> first | rfl | omega
end Go.Proofs.YtgghgcilpfdbjaaGreatDoor

namespace Go.Proofs.YtgghgcilpfdbjaaGreatDoor
open Go.RowKit Go.Lib

def encP (p : PinV) : List Value := [.string p.name, .int .i64 p.ver, .int .i64 p.len, .slice none 0 0]
theorem infoPin : (Tryz.prog.info? 36).map (fun i => (i.zero, i.size, i.bytes)) = some (some (.agg #[.string { data := #[] }, .int .i64 0, .int .i64 0, .slice none 0 0]), 4, 56) := by kernel_rfl
theorem flatP_len (l : List PinV) : (l.flatMap encP).length = l.length * 4 := by
  induction l with
  | nil => rfl
  | cons v r ih => rw [List.flatMap_cons, List.length_append, ih]; show 4 + r.length * 4 = (r.length + 1) * 4; omega
/-- The pins that parseMeta has appended, and the picker's state behind it. -/
def MetaPost (o m lo hi p : Nat) (v : JV) (an ai : Option Addr) (cn ci : Nat) (ps : List PinV) (st : PS) (x0 x1 : Value) (w : World) (r : Ending) (w' : World) : Prop :=
  ∃ vs, r = .returned (.tuple #[]) ∧ PickAt o m lo hi v an ai cn ci st w' ∧ w'.rowIs p 24 3 (pick3 x0 x1 vs) ∧ w'.ownsRow w.heap.size 36 4 vs ps.length (ps.flatMap encP) ∧ Touch (fun b => b = o ∨ b = m ∨ b = p) w w'

theorem owns_touch {S : Nat → Prop} {w w' : World} {base e size n : Nat} {v : Value} {cs : List Value} (h : w.ownsRow base e size v n cs) (hT : Touch S w w') (hS : ∀ k, base ≤ k → ¬ S k) : w'.ownsRow base e size v n cs := by
  refine ⟨h.1, ?_⟩
  rcases h.2 with h2 | ⟨g, cap, cur, hv, hg, hh, r⟩
  · exact .inl h2
  · exact .inr ⟨g, cap, cur, hv, hg, by rw [hT.block g (heap_lt hh) (hS g hg)]; exact hh, r⟩
theorem owns_mono {w : World} {base base' e size n : Nat} {v : Value} {cs : List Value} (h : w.ownsRow base e size v n cs) (hb : base' ≤ base) : w.ownsRow base' e size v n cs := by
  refine ⟨h.1, ?_⟩
  rcases h.2 with h2 | ⟨g, cap, cur, hv, hg, r⟩
  · exact .inl h2
  · exact .inr ⟨g, cap, cur, hv, Nat.le_trans hb hg, r⟩
theorem metaOf_bad {ns : List ByteArray} {xs : List JV} {st : PS} {ps : List PinV} (k : Nat) (h1 : k < ns.length) (h2 : k < xs.length) (h : (pinOfJ ns[k] xs[k]).2 ≠ 0) : metaOf (ns.drop k) (xs.drop k) st ps = (ps, st.fail (pinOfJ ns[k] xs[k]).2) := by
  rw [List.drop_eq_getElem_cons h1, List.drop_eq_getElem_cons h2, metaOf, if_pos h]
theorem metaOf_ok {ns : List ByteArray} {xs : List JV} {st : PS} {ps : List PinV} (k : Nat) (h1 : k < ns.length) (h2 : k < xs.length) (h : (pinOfJ ns[k] xs[k]).2 = 0) : metaOf (ns.drop k) (xs.drop k) st ps = metaOf (ns.drop (k + 1)) (xs.drop (k + 1)) st (ps ++ [(pinOfJ ns[k] xs[k]).1]) := by
  rw [List.drop_eq_getElem_cons h1, List.drop_eq_getElem_cons h2, metaOf, if_neg (by simp [h])]
theorem metaOf_end {ns : List ByteArray} {xs : List JV} {st : PS} {ps : List PinV} (k : Nat) (h1 : ns.length ≤ k) : metaOf (ns.drop k) (xs.drop k) st ps = (ps, st) := by
  rw [List.drop_eq_nil_of_le h1]; rfl
theorem pinOf_hs (f : ByteArray) (x : JV) : (pinOfJ f x).1.hs = [] := by
  unfold pinOfJ
  dsimp only
  repeat' split
  all_goals rfl

set_option maxHeartbeats 4000000 in
set_option maxRecDepth 100000 in
theorem snapParseMeta (o m lo hi p : Nat) (v : JV) (an ai : Option Addr) (cn ci : Nat) (st : PS) (x0 x1 : Value) (w : World) (hP : PickAt o m lo hi v an ai cn ci st w) (ha : st.asked.length ≤ 4294967296) (hr : w.rowIs p 24 3 (pick3 x0 x1 (.slice none 0 0))) (hpo : p ≠ o) (hpm : p ≠ m) (hph : hi ≤ p) (hlo : 0 < w.heap.size)
    (hnn : (pickObj v metN 256 st).1.names.length = (pickObj v metN 256 st).1.items.length) (hwt : (pickObj v metN 256 st).1.wt ≤ 4294967296) (hit : ∀ k (h : k < (pickObj v metN 256 st).1.items.length), (pickObj v metN 256 st).1.items[k].kind = 5 ∧ (pickObj v metN 256 st).1.items[k].look hasN = none) (hsz : (pickObj v metN 256 st).1.items.length ≤ 256) (hns : ∀ k (h : k < (pickObj v metN 256 st).1.names.length), (pickObj v metN 256 st).1.names[k].size ≤ 4294967296) :
    Calls Tryz.prog 116 #[.pointer (some ⟨o, 0, none⟩), .pointer (some ⟨p, 0, none⟩)] w (MetaPost o m lo hi p v an ai cn ci (metaOf (pickObj v metN 256 st).1.names (pickObj v metN 256 st).1.items (pickObj v metN 256 st).2 []).1 (metaOf (pickObj v metN 256 st).1.names (pickObj v metN 256 st).1.items (pickObj v metN 256 st).2 []).2 x0 x1 w) := by
  have ho : o < w.heap.size := heap_lt hP.obj
  have hm : m < w.heap.size := by obtain ⟨D, n, h, _⟩ := hP.map; exact h.lt
  have hpl : p < w.heap.size := hr.lt
  have HOB := Lib.hid (pickObjF o m lo hi v an ai cn ci metN 256 st w hP (by decide) ha)
  have HR := Lib.hid hr
  have HNE := Lib.hid (And.intro (show p ≠ o ∧ p ≠ m ∧ hi ≤ p from ⟨hpo, hpm, hph⟩) (show o < w.heap.size ∧ m < w.heap.size ∧ p < w.heap.size from ⟨ho, hm, hpl⟩))
  have HLO := Lib.hid hlo
  clear hP hr ho hm hpl hpo hpm hph hlo
  go_enter Tryz.func116, Tryz.ntmps116
  go_wp2_with fail
  refine HOB.out.mono ?_
  clear HOB
  rintro r w1 ⟨⟨an2, cn2, ai2, ci2, rfl, hrep⟩, hp1, ht1⟩
  obtain ⟨M, hM⟩ : ∃ M, M = pickObj v metN 256 st := ⟨_, rfl⟩
  have HM := Lib.hid hM
  rw [← hM] at hnn hwt hit hsz hns hp1 hrep ⊢
  clear hM
  obtain ⟨J, sm⟩ := M
  dsimp only at hnn hwt hit hsz hns hp1 hrep ⊢
  have HIT := Lib.hid hit
  have HNS := Lib.hid hns
  have HNN := Lib.hid hnn
  have HWT := Lib.hid hwt
  have HSZ := Lib.hid hsz
  have HREP := Lib.hid hrep
  have HP1 := Lib.hid hp1
  have HT1 := Lib.hid ht1
  have HR1 := Lib.hid (ht1.row HR.out (by have := HNE.out; omega))
  have HZ1 := Lib.hid ht1.size
  clear hnn hwt hit hsz hns hrep hp1 ht1
  obtain ⟨WM, hWM⟩ : ∃ WM, WM = w1.alloc (.cells #[.int .u8 J.kind, .int .i64 J.n, .string J.t, .slice an2 J.names.length cn2, .slice ai2 J.items.length ci2] 30) := ⟨_, rfl⟩
  have hbM : Below w1.heap.size w1 WM := by rw [hWM]; exact (Below.refl _ _).alloc (Nat.le_refl _) _
  have hxM : WM.heap[w1.heap.size]? = some (.cells #[.int .u8 J.kind, .int .i64 J.n, .string J.t, .slice an2 J.names.length cn2, .slice ai2 J.items.length ci2] 30 (0, 0)) := by rw [hWM]; exact heap_alloc_new w1 _
  have HXM := Lib.hid hxM
  have HBM := Lib.hid hbM
  have HPM := Lib.hid (HP1.out.below hbM)
  have HRM := Lib.hid (below_row hbM HR1.out HR1.out.lt)
  have HTM := Lib.hid (show Touch (fun b => b = o ∨ b = m ∨ b = p) w WM from (HT1.out.mono (fun k _ h => h.elim .inl (fun h => .inr (.inl h)))).trans (Touch.of_below hbM (Nat.le_refl _)))
  have HWM := Lib.hid hWM
  clear hbM hxM hWM
  go_upto_region 1 with fail
  rw [← HWM.out]
  have c3 : WM.cell? ⟨w1.heap.size, 3, none⟩ = some (.slice an2 J.names.length cn2) := box_cell HXM.out rfl
  go_wp2
  clear c3
  go_loopw [5, 6, 7, 8, 14] (fun _ _ _ _ i wr => ∃ (k : Nat) (ps : List PinV) (vs : Value), k ≤ J.names.length ∧ i = .int .i64 k ∧ ps.length ≤ k ∧ metaOf J.names J.items sm [] = metaOf (J.names.drop k) (J.items.drop k) sm ps ∧ wr.rowIs p 24 3 (pick3 x0 x1 vs) ∧ wr.ownsRow WM.heap.size 36 4 vs ps.length (ps.flatMap encP) ∧ Touch (fun b => b = p) WM wr) (fun _ _ _ _ i _ => J.names.length - (intOf i).toNat)
  case atStart => exact ⟨0, [], .slice none 0 0, by omega, rfl, by simp, rfl, HRM.out, ⟨by simp, .inl ⟨rfl, rfl⟩⟩, Touch.refl _ _⟩
  case round =>
    obtain ⟨k, ps, vs, hk, rfl, hpk, hmo, hrow, hown, ht⟩ := hrel
    have htz := ht.size
    have hzM : w1.heap.size < WM.heap.size := heap_lt HXM.out
    have HREPr := Rep.carry (lo' := w.heap.size) (hi' := w1.heap.size) (Nat.le_refl _) (Nat.le_refl _) (fun b h1 h2 => (ht.block b (by omega) (by have := HNE.out; omega)).trans (HBM.out.block b h2)) _ _ HREP.out
    have c4 : wr.cell? ⟨w1.heap.size, 4, none⟩ = some (.slice ai2 J.items.length ci2) := box_cell ((ht.block _ hzM (by have := HNE.out; have := HZ1.out; omega)).trans HXM.out) rfl
    obtain ⟨an0, cn0, ai0, ci0, hx, -, -, h3, h4⟩ := HREPr.parts
    simp only [Value.agg.injEq, Array.mk.injEq, List.cons.injEq, Value.slice.injEq, true_and, and_true] at hx
    obtain ⟨⟨rfl, rfl⟩, rfl, rfl⟩ := hx
    have HROW := Lib.hid hrow
    have HOWN := Lib.hid hown
    have HMO := Lib.hid hmo
    have HT := Lib.hid ht
    have HZ := Lib.hid (show w1.heap.size < wr.heap.size by omega)
    have HPR := Lib.hid (HPM.out.touch ht HNE.out.1.1 HNE.out.1.2.1 HNE.out.1.2.2)
    have HZM := Lib.hid hzM
    clear hrow hown hmo ht htz hzM HREPr
    by_cases hlt : k < J.names.length
    · have hlt2 : k < J.items.length := by have := HNN.out; omega
      obtain ⟨bn, on, ha, _, _, n0⟩ := h3.at k hlt
      obtain ⟨bi, oi, an3, cn3, ai3, ci3, hai, _, _, y0, y1, y2, y3, y4, hry⟩ := h4.get k hlt2
      subst ha hai
      obtain ⟨hk5, hlk⟩ := HIT.out k hlt2
      have hwk := JV.wts_get J.items k hlt2
      have hbd := J.wt_bd
      have HPO := Lib.hid (snapPinOf J.names[k] J.items[k] _ wr w.heap.size w1.heap.size (by have := HWT.out; omega) HLO.out (Nat.le_of_lt HZ.out) hry hk5 hlk (by have := HNS.out k hlt; omega))
      have HMB := Lib.hid (metaOf_bad (st := sm) (ps := ps) k hlt hlt2)
      have HMK := Lib.hid (metaOf_ok (st := sm) (ps := ps) k hlt hlt2)
      have HPH := Lib.hid (pinOf_hs J.names[k] J.items[k])
      obtain ⟨PO, hPO⟩ : ∃ PO, PO = pinOfJ J.names[k] J.items[k] := ⟨_, rfl⟩
      rw [← hPO] at HPO HMB HMK HPH
      generalize J.names[k] = fk at *
      generalize J.items[k] = xk at *
      clear h3 h4 hry hk5 hlk hwk hbd hPO
      obtain ⟨⟨pn, pv, pl, phs⟩, er⟩ := PO
      dsimp only at HPO HMB HMK HPH
      obtain rfl : phs = [] := HPH.out
      go_wp2_with fail
      refine HPO.out.mono ?_
      clear HPO y0 y1 y2 y3 y4 n0 c4
      rintro r w2 ⟨rfl, hb2⟩
      obtain ⟨WX, hWX⟩ : ∃ WX, WX = w2.alloc (.cells #[.string pn, .int .i64 pv, .int .i64 pl, .slice none 0 0] 36) := ⟨_, rfl⟩
      have hbX : Below wr.heap.size wr WX := by rw [hWX]; exact hb2.alloc hb2.size _
      have hxX : WX.heap[w2.heap.size]? = some (.cells #[.string pn, .int .i64 pv, .int .i64 pl, .slice none 0 0] 36 (0, 0)) := by rw [hWX]; exact heap_alloc_new w2 _
      have HBX := Lib.hid hbX
      have HXX := Lib.hid hxX
      have HWX := Lib.hid hWX
      have HZX := Lib.hid (show wr.heap.size ≤ w2.heap.size from hb2.size)
      clear hb2 hbX hxX hWX
      go_upto_region 5 with fail
      rw [← HWX.out]
      by_cases he : er = 0
      · subst he
        have HMK2 := Lib.hid (HMK.out rfl)
        clear HMB HMK
        obtain ⟨i1, hi1, hy0, hy1, hy2⟩ := info_parts infoPin
        obtain ⟨sv, cv, rfl⟩ := owns_slice HOWN.out
        have hrowX := below_row HBX.out HROW.out HROW.out.lt
        have hownX := owns_below HOWN.out HBX.out
        have HRX := Lib.hid hrowX
        have HOX := Lib.hid hownX
        have HCL := Lib.hid (show ∀ w' : World, Below WX.heap.size WX w' → w'.cell? ⟨p, 2, none⟩ = some (.slice sv ps.length cv) ∧ w'.cell? ⟨w2.heap.size, 0, none⟩ = some (.string pn) ∧ w'.cell? ⟨w2.heap.size, 1, none⟩ = some (.int .i64 pv) ∧ w'.cell? ⟨w2.heap.size, 2, none⟩ = some (.int .i64 pl) ∧ w'.cell? ⟨w2.heap.size, 3, none⟩ = some (.slice none 0 0) from fun w' h => by
          have x := (h.block _ (heap_lt HXX.out)).trans HXX.out
          exact ⟨by have := (below_row h HRX.out HRX.out.lt).cell (i := 2) (by decide); simpa [pick3] using this, box_cell x rfl, box_cell x rfl, box_cell x rfl, box_cell x rfl⟩)
        have hpsl : ps.length ≤ 256 := by have := HSZ.out; have := HNN.out; omega
        have HPSL := Lib.hid hpsl
        clear hrowX hownX hpsl
        have HOD := Lib.hid (show WX.drew.ownsRow WM.heap.size 36 4 (.slice sv ps.length cv) ps.length (ps.flatMap encP) from owns_below HOX.out ((Below.refl _ _).drew))
        have hwm : WM.heap.size ≤ WX.heap.size := by have h2 := HBX.out.size; have h3 := HT.out.size; omega
        have hpsl := HPSL.out
        have hkb : k < 256 := by have := HSZ.out; omega
        have hpn : some p ≠ (Value.slice sv ps.length cv).ownBlock := fun e => by have := (HOX.out.lt _ e.symm).1; have := HNE.out; have := HZ1.out; have := HZM.out; omega
        have hpl : p < WX.heap.size := HRX.out.lt
        have hflen := flatP_len ps
        obtain ⟨e2, y0, y1, y2, y3⟩ := HCL.out WX (Below.refl _ _)
        have fp2 := HRX.out.frozen 2
        go_upto_region 7 with fail
        go_region_law (refine step_append_lies _ (by rfl) (.tmp 38) (.tmp 40) 22 (by rfl) WM.heap.size 36 i1 _ 4 56 Tryz.underlying22 hi1 hy0 hy1 hy2 rfl (by omega) (.slice sv ps.length cv) ps.length (ps.flatMap encP) (by rfl) (HOD.out.alloc _) ⟨WX.heap.size, 0, none⟩ 1 1 (Array.toList #[.string pn, .int .i64 pv, .int .i64 pl, .slice none 0 0]) (by rfl) (by rfl) (World.news_of_block (cs := #[.string pn, .int .i64 pv, .int .i64 pl, .slice none 0 0]) (t := 36) (fr := (0, 0)) (heap_alloc_new WX.drew _)) (by simp [Value.oneCell']) (by omega) (by unfold maxLen; omega) (by omega) (by simp; omega) (WX.heap.size + 1) (by simp) ?_; intro g2 cap3 w4 hown4 hgrow4 hat4 hlt4; have c44 : w4.cell? ⟨p, 2, none⟩ = some (.slice sv ps.length cv) := (World.cell?_of_block (hgrow4.block p (by simp; omega) hpn)).trans ((cell_alloc_lt _ (show p < WX.drew.heap.size from hpl)).trans e2); have f44 : w4.frozen? ⟨p, 2, none⟩ = false := (World.frozen?_of_block (hgrow4.block p (by simp; omega) hpn)).trans ((((Below.refl WX.drew.heap.size WX.drew).alloc (Nat.le_refl _) _).frozen (show p < WX.drew.heap.size from hpl)).trans fp2); have HO4 := Lib.hid hown4; have HG4 := Lib.hid hgrow4; have HA4 := Lib.hid hat4; clear hown4 hgrow4 hat4)
        all_goals
          have tt := fun (ob : Obj) => HT.out.trans (Touch.of_below (S := fun b => b = p) (HBX.out.trans (((Below.refl WX.heap.size WX).drew.alloc (Nat.le_refl _) ob).mono HBX.out.size)) (Nat.le_refl _))
          have hr4 : w4.rowIs p 24 3 (pick3 x0 x1 (.slice sv ps.length cv)) := HRX.out.of_block ((HG4.out.block p (by simp; omega) hpn).trans (Below.heap_alloc _ _ _ (show p < WX.drew.heap.size from hpl)))
          have tt := tt (.cells #[.string pn, .int .i64 pv, .int .i64 pl, .slice none 0 0] 36)
          have ht4 : Touch (fun b => b = p) WM w4 := ⟨HG4.out.os.trans tt.os, HG4.out.tape.trans tt.tape, HG4.out.output.trans tt.output, Nat.le_trans tt.size HG4.out.size, fun q hq hn => (HG4.out.block q (Nat.lt_of_lt_of_le hq tt.size) (fun e => by have := (HOX.out.lt _ e.symm).1; omega)).trans (tt.block q hq hn)⟩
          have HFR := Lib.hid (show (w4.setCell ⟨p, 2, none⟩ (.slice (some ⟨g2, 0, none⟩) (ps.length + 1) cap3)).rowIs p 24 3 (pick3 x0 x1 (.slice (some ⟨g2, 0, none⟩) (ps.length + 1) cap3)) from by
            refine (hr4.set 2 _).congr fun j hj => ?_
            rcases j with _ | _ | _ | j <;> first | rfl | omega)
          have HFO := Lib.hid (show (w4.setCell ⟨p, 2, none⟩ (.slice (some ⟨g2, 0, none⟩) (ps.length + 1) cap3)).ownsRow WM.heap.size 36 4 (.slice (some ⟨g2, 0, none⟩) (ps.length + 1) cap3) (ps ++ [(⟨pn, pv, pl, []⟩ : PinV)]).length ((ps ++ [(⟨pn, pv, pl, []⟩ : PinV)]).flatMap encP) from by
            have h := owns_touch HO4.out (touch_put (g := p) (j := 2) (.slice (some ⟨g2, 0, none⟩) (ps.length + 1) cap3)) (fun k hk e => by have := HNE.out; have := HZ1.out; have := HZM.out; omega)
            rw [List.length_append, List.flatMap_append]
            exact h)
          have HFT := Lib.hid (ht4.trans (touch_put (g := p) (j := 2) (.slice (some ⟨g2, 0, none⟩) (ps.length + 1) cap3)))
          clear tt hr4 ht4 HO4 HG4 HA4 c44 f44 e2 y0 y1 y2 y3 fp2
          go_wp2
          go_roundw
          case rel => exact ⟨k + 1, _, _, by omega, by go_num, by simp; omega, HMO.out.trans HMK2.out, HFR.out, HFO.out, HFT.out⟩
          case measure => simp [intOf]; omega
      · have HMB := Lib.hid (HMB.out he)
        have hd2 : (er != 0) = true := by simpa using he
        have HF := Lib.hid (pickFailG o m lo hi v an ai cn ci er sm WX (HPR.out.below HBX.out))
        clear he HMK
        go_wp2_with fail
        refine HF.out.mono ?_
        rintro r w3 ⟨rfl, h3, h4⟩
        have hrowX := below_row HBX.out HROW.out HROW.out.lt
        have hr3 := h4.row hrowX (by have := HNE.out; omega)
        have hown3 : w3.ownsRow w.heap.size 36 4 vs ps.length (ps.flatMap encP) := owns_mono (owns_touch (owns_below HOWN.out HBX.out) h4 (fun k hk e => by have := HNE.out; have := HZ1.out; have := HZM.out; omega)) (by have := HZ1.out; have := HZM.out; omega)
        have HFIN := Lib.hid (show MetaPost o m lo hi p v an ai cn ci (metaOf J.names J.items sm []).1 (metaOf J.names J.items sm []).2 x0 x1 w (.returned (.tuple #[])) w3 from by
          rw [HMO.out, HMB.out]
          exact ⟨vs, rfl, h3, hr3, hown3, (HTM.out.trans ((HT.out.mono (fun k _ h => .inr (.inr h))).trans ((Touch.of_below HBX.out (Nat.le_refl _)).trans (h4.mono (fun k _ h => h.elim .inl (fun h => .inr (.inl h)))))))⟩)
        clear h3 h4 hrowX hr3 hown3
        go_wp2
        go_end0
        rw [← HM.out]
        exact HFIN.out
    · have HE := Lib.hid (metaOf_end (xs := J.items) (st := sm) (ps := ps) k (show J.names.length ≤ k by omega))
      clear h3 h4
      have HFIN := Lib.hid (show MetaPost o m lo hi p v an ai cn ci (metaOf J.names J.items sm []).1 (metaOf J.names J.items sm []).2 x0 x1 w (.returned (.tuple #[])) wr from by
        rw [HMO.out, HE.out]
        exact ⟨vs, rfl, HPR.out, HROW.out, owns_mono HOWN.out (by have := HZ1.out; have := HZM.out; omega), HTM.out.trans (HT.out.mono (fun k _ h => .inr (.inr h)))⟩)
      go_wp2
      go_end0
      rw [← HM.out]
      exact HFIN.out
end Go.Proofs.YtgghgcilpfdbjaaGreatDoor

namespace Go.Proofs.YtgghgcilpfdbjaaGreatDoor
open Go.RowKit Go.Lib

abbrev partsC : Array Value := #[.func (.func 113) #[] #[], .func (.func 114) #[] #[], .func (.func 115) #[] #[], .func (.func 116) #[] #[]]
set_option maxHeartbeats 1000000 in
theorem snapParts (w : World) : Calls Tryz.prog 79 #[] w fun e w' => ∃ b, e = .returned (.slice (some ⟨b, 0, none⟩) 4 4) ∧ w'.heap[b]? = some (.cells partsC 105 (0, 0)) ∧ w.heap.size ≤ b ∧ Below w.heap.size w w' := by
  go_enter Tryz.func79, Tryz.ntmps79
  go_wp2
  go_ret
  exact ⟨_, rfl, heap_alloc_new _ _, Nat.le_refl _, (Below.refl _ _).alloc (Nat.le_refl _) _⟩

/-- The picker's states and what the parts of a snapshot are, stage by stage. -/
def stB (v : JV) : Int × PS := pickNum v verN 1 1099511627776 (tyS v ⟨[], 0⟩)
def stC (v : JV) : ByteArray × PS := pickText v expN (stB v).2
def stR (v : JV) : Int × Int := readD (stC v).1.data.toList
def stM (v : JV) : JV × PS := pickObj v metN 256 ((stC v).2.fail (stR v).2)
def stL (v : JV) : List PinV × PS := metaOf (stM v).1.names (stM v).1.items (stM v).2 []
theorem snapOf_eq {v : JV} (hm : v.mayB = true) (hk : v.kind = 5) : snapOfJ v = if pickDone v (stL v).2 ≠ 0 then (snapZ, pickDone v (stL v).2) else (⟨(stB v).1, (stR v).1, (stL v).1⟩, 0) := by
  unfold snapOfJ
  rw [hm, if_neg (by simp), if_neg (by simp [hk])]
  rfl
theorem fail_len {st : PS} {e : Int} : (st.fail e).asked = st.asked := by unfold PS.fail; split <;> rfl
theorem text_len {v : JV} {y : ByteArray} {st : PS} : (pickText v y st).2.asked.length ≤ st.asked.length + 1 := by
  unfold pickText
  split
  · simp
  split
  · simp
  · split <;> simp
end Go.Proofs.YtgghgcilpfdbjaaGreatDoor

namespace Go.Proofs.YtgghgcilpfdbjaaGreatDoor
open Go.RowKit

theorem roleOf_short {f : ByteArray} (h : f.size < 6) : roleOf f = none := by
  unfold roleOf
  split
  · rename_i hc
    simp only [Bool.and_eq_true] at hc
    obtain ⟨hs, hr⟩ := hc
    exfalso
    unfold Lib.hasSuffix at hs
    obtain ⟨t, ht⟩ := List.isSuffixOf_iff_suffix.1 hs
    rw [← ht, (trim_app t).2] at hr
    have h2 := congrArg List.length ht
    have h3 : f.data.toList.length = f.size := toList_length f
    simp only [List.length_append, json, List.length_cons, List.length_nil] at h2
    unfold roleOk at hr
    simp only [Bool.and_eq_true, decide_eq_true_eq] at hr
    omega
  · rfl
theorem roleOf_long {f : ByteArray} (h : 6 ≤ f.size) : roleOf f = if (f.data.toList.drop (f.size - 5)) = json ∧ roleOk (f.data.toList.take (f.size - 5)) = true then some (f.data.toList.take (f.size - 5)) else none := by
  have hl : f.data.toList.length = f.size := toList_length f
  by_cases hs : f.data.toList.drop (f.size - 5) = json
  · have e : f.data.toList = f.data.toList.take (f.size - 5) ++ json := by rw [← hs, List.take_append_drop]
    unfold roleOf
    obtain ⟨t, ht⟩ : ∃ t, t = f.data.toList.take (f.size - 5) := ⟨_, rfl⟩
    rw [← ht] at e ⊢
    rw [e, (trim_app t).1, (trim_app t).2]
    have hs2 : (t ++ json).drop (f.size - 5) = json := by rw [← e]; exact hs
    cases roleOk t <;> simp [hs2]
  · rw [if_neg (fun h => hs h.1)]
    unfold roleOf
    rw [if_neg]
    intro hc
    simp only [Bool.and_eq_true] at hc
    unfold Lib.hasSuffix at hc
    obtain ⟨t, ht⟩ := List.isSuffixOf_iff_suffix.1 hc.1
    have h2 := congrArg List.length ht
    simp only [List.length_append, json, List.length_cons, List.length_nil] at h2
    apply hs
    rw [← ht, List.drop_append, List.drop_eq_nil_of_le (by omega)]
    rw [show f.size - 5 - t.length = 0 by omega]
    rfl
set_option maxHeartbeats 1000000 in
theorem ref13RoleOf (f : ByteArray) (w : World) (hf : f.size ≤ 9223372036854775807) :
    Calls Tryz.prog 109 #[.string f] w fun e w' => e = .returned (.tuple #[.string (roleStr f), .int .i64 (roleErr f)]) ∧ w' = w := by
  by_cases h1 : f.size < 6
  · have hd : decide ((f.size : Int) - 5 < 1) = true := by simp; omega
    have HX := Lib.hid (show roleStr f = { data := #[] } ∧ roleErr f = 3 by unfold roleStr roleErr; rw [roleOf_short h1]; exact ⟨rfl, rfl⟩)
    go_enter Tryz.func109, Tryz.ntmps109
    go_wp2
    go_ret2
    exact ⟨by rw [HX.out.1, HX.out.2]; rfl, rfl⟩
  have hd : decide ((f.size : Int) - 5 < 1) = false := by simp; omega
  have HX := Lib.hid (roleOf_long (f := f) (by omega))
  have HR := Lib.hid (ref13Role (f.extract 0 (f.size - 5)) w (by rw [ByteArray.size_extract]; omega))
  rw [ext_list f 0 (f.size - 5) (by omega)] at HR
  obtain ⟨hx1, hx2⟩ : (f.extract (f.size - 5) f.size).toList = f.data.toList.drop (f.size - 5) ∧ True := by
    refine ⟨?_, trivial⟩
    rw [ByteArray.toList_eq, ext_list f _ _ (Nat.le_refl _), List.take_of_length_le]
    rw [List.length_drop, toList_length f]; omega
  by_cases hs : f.data.toList.drop (f.size - 5) = [46, 106, 115, 111, 110]
  · cases hh : roleOk (f.data.toList.take (f.size - 5))
    · have hn : roleOf f = none := by rw [HX.out, if_neg]; intro h; rw [hh] at h; cases h.2
      have HS := Lib.hid (show roleStr f = { data := #[] } ∧ roleErr f = 3 by unfold roleStr roleErr; rw [hn]; exact ⟨rfl, rfl⟩)
      rw [show List.take (f.size - 5 - 0) (List.drop 0 f.data.toList) = f.data.toList.take (f.size - 5) from rfl, hh] at HR
      clear hh hn
      go_enter Tryz.func109, Tryz.ntmps109
      go_wp2_with fail
      refine HR.out.mono ?_
      rintro e w' ⟨rfl, rfl⟩
      go_wp2
      go_ret2
      exact ⟨by rw [HS.out.1, HS.out.2]; rfl, rfl⟩
    · have hn : roleOf f = some (f.data.toList.take (f.size - 5)) := by rw [HX.out, if_pos ⟨hs, hh⟩]
      have he : (f.extract 0 (f.size - 5)) = ⟨(f.data.toList.take (f.size - 5)).toArray⟩ := by
        apply ByteArray.ext
        apply Array.ext'
        rw [ext_list f 0 (f.size - 5) (by omega)]
        rfl
      have HS := Lib.hid (show roleStr f = f.extract 0 (f.size - 5) ∧ roleErr f = 0 by unfold roleStr roleErr; rw [hn, he]; exact ⟨rfl, rfl⟩)
      rw [show List.take (f.size - 5 - 0) (List.drop 0 f.data.toList) = f.data.toList.take (f.size - 5) from rfl, hh] at HR
      clear hh hn he
      go_enter Tryz.func109, Tryz.ntmps109
      go_wp2_with fail
      refine HR.out.mono ?_
      rintro e w' ⟨rfl, rfl⟩
      go_wp2
      go_ret2
      exact ⟨by rw [HS.out.1, HS.out.2]; rfl, rfl⟩
  · have hn : roleOf f = none := by rw [HX.out, if_neg]; intro h; exact hs h.1
    have HS := Lib.hid (show roleStr f = { data := #[] } ∧ roleErr f = 3 by unfold roleStr roleErr; rw [hn]; exact ⟨rfl, rfl⟩)
    clear hn
    go_enter Tryz.func109, Tryz.ntmps109
    go_wp2
    go_ret2
    exact ⟨by rw [HS.out.1, HS.out.2]; rfl, rfl⟩
set_option maxHeartbeats 1000000 in
theorem ref13File (r : ByteArray) (w : World) (hr : r.size ≤ 1000000) :
    Calls Tryz.prog 53 #[.string r] w fun e w' => e = .returned (.tuple #[.string (fileStr r), .int .i64 (fileErr r)]) ∧ w' = w := by
  have HN := Lib.hid (ref13Role r w (by omega))
  have HF := Lib.hid (And.intro (show fileStr r = if roleOk r.data.toList then r ++ { data := #[46, 106, 115, 111, 110] } else { data := #[] } from rfl) (show fileErr r = if roleOk r.data.toList then 0 else 3 from rfl))
  cases hh : roleOk r.data.toList
  · rw [hh] at HN HF
    clear hh
    go_enter Tryz.func53, Tryz.ntmps53
    go_wp2_with fail
    refine HN.out.mono ?_
    rintro e w' ⟨rfl, rfl⟩
    go_wp2
    go_ret2
    exact ⟨by rw [HF.out.1, HF.out.2]; rfl, rfl⟩
  · rw [hh] at HN HF
    clear hh
    go_enter Tryz.func53, Tryz.ntmps53
    go_wp2_with fail
    refine HN.out.mono ?_
    rintro e w' ⟨rfl, rfl⟩
    go_wp2
    go_ret2
    exact ⟨by rw [HF.out.1, HF.out.2]; rfl, rfl⟩
end Go.Proofs.YtgghgcilpfdbjaaGreatDoor

namespace Go.Proofs.YtgghgcilpfdbjaaGreatDoor
open Go.RowKit

set_option maxHeartbeats 400000 in
theorem ref21Digits (s : ByteArray) (w : World) (hs : s.size ≤ 9223372036854775807) : Calls Tryz.prog 112 #[.string s] w fun e w' => e = .returned (.bool (pubOk s.data.toList)) ∧ w = w' := by
  by_cases h2 : 2 ≤ s.size
  · have d2 : decide ((2 : Int) ≤ (s.size : Int)) = true := by simp; omega
    by_cases h3 : s.size ≤ 128
    · have d3 : decide ((s.size : Int) ≤ 128) = true := by simp; omega
      have hm : (s.size : Int).tmod 2 = ((s.size % 2 : Nat) : Int) := by rw [Int.tmod_eq_emod_of_nonneg (by omega)]; omega
      by_cases h4 : s.size % 2 = 0
      · have HP := Lib.hid (pub_hex (s := s) h2 h3 h4)
        rw [h4] at hm
        have hm : (s.size : Int).tmod 2 = 0 := hm
        clear h4
        go_enter Tryz.func112, Tryz.ntmps112
        go_wp2_with fail
        refine (ref01Is s _ hs).mono ?_
        rintro e w1 ⟨rfl, rfl⟩
        go_wp2
        go_ret
        exact ⟨ret_bool (by rw [HP.out]), rfl⟩
      · have HP := Lib.hid (pub_no (s := s) (by omega))
        have h5 : s.size % 2 = 1 := by omega
        rw [h5] at hm
        have hm : (s.size : Int).tmod 2 = 1 := hm
        clear h4 h5
        go_enter Tryz.func112, Tryz.ntmps112
        go_wp2
        go_ret
        exact ⟨ret_bool (by rw [HP.out]), rfl⟩
    · have d3 : decide ((s.size : Int) ≤ 128) = false := by simp; omega
      have HP := Lib.hid (pub_no (s := s) (by omega))
      go_enter Tryz.func112, Tryz.ntmps112
      go_wp2
      go_ret
      exact ⟨ret_bool (by rw [HP.out]), rfl⟩
  · have d2 : decide ((2 : Int) ≤ (s.size : Int)) = false := by simp; omega
    have HP := Lib.hid (pub_no (s := s) (by omega))
    go_enter Tryz.func112, Tryz.ntmps112
    go_wp2
    go_ret
    exact ⟨ret_bool (by rw [HP.out]), rfl⟩

theorem ref23File (f : ByteArray) (w : World) (hf : f.size ≤ 9223372036854775807) : Calls Tryz.prog 68 #[.string f] w fun e w' => e = .returned (.bool (roleOf f).isSome) ∧ w = w' := by
  have HR := Lib.hid (ref13RoleOf f w hf)
  have HE := Lib.hid (show ((roleErr f == 0) : Bool) = (roleOf f).isSome by unfold roleErr; cases (roleOf f).isSome <;> rfl)
  go_enter Tryz.func68, Tryz.ntmps68
  go_wp2_with fail
  refine HR.out.mono ?_
  rintro e w' ⟨rfl, rfl⟩
  go_wp2
  go_ret
  exact ⟨ret_bool HE.out, rfl⟩

set_option maxHeartbeats 4000000 in
set_option maxRecDepth 100000 in
theorem ref21SameHashesG (l m : List Key2) (a b : Option Addr) (c d : Nat) (w : World) (hA : KeysAt w 0 w.heap.size a l) (hB : KeysAt w 0 w.heap.size b m) (hl : l.length ≤ 9223372036854775807) (hm : m.length ≤ 9223372036854775807) :
    Calls Tryz.prog 54 #[.slice a l.length c, .slice b m.length d] w (TellsEq l m w) := by
  by_cases hn : l.length = m.length
  case neg =>
    have t1 : ((l.length : Int) != (m.length : Int)) = true := by rw [bne_iff_ne]; omega
    have t2 : (l.length != m.length) = true := by rw [bne_iff_ne]; omega
    go_enter Tryz.func54, Tryz.ntmps54
    go_wp2
    go_ret
    exact ⟨false, rfl, by simp; intro h; exact hn (by rw [h]), Below.refl _ _⟩
  have t1 : ((l.length : Int) != (m.length : Int)) = false := by rw [hn]; simp
  have t2 : (l.length != m.length) = false := by rw [hn]; simp
  have HA := Lib.hid hA
  have HBb := Lib.hid hB
  have HN := Lib.hid hn
  clear hA hB hn
  go_enter Tryz.func54, Tryz.ntmps54
  go_wp2
  go_loopw [5] (fun i wr => ∃ k : Nat, k ≤ l.length ∧ i = .int .i64 k ∧ l.take k = m.take k ∧ Below w.heap.size w wr) (fun i _ => l.length - (intOf i).toNat)
  case atStart => exact ⟨0, by omega, rfl, by simp, Below.refl _ _⟩
  case round =>
    obtain ⟨k, hk, rfl, hsf, hb⟩ := hrel
    have HSF := Lib.hid hsf
    have HB := Lib.hid hb
    clear hsf
    by_cases hlt : k < l.length
    · have hlm : k < m.length := by have := HN.out; omega
      obtain ⟨b1, o1, ha1, _, _, e0, e1⟩ := (HA.out.below hb (Nat.le_refl _) (Nat.le_refl _) hb.size).at k hlt
      obtain ⟨b2, o2, ha2, _, _, y0, y1⟩ := (HBb.out.below hb (Nat.le_refl _) (Nat.le_refl _) hb.size).at k hlm
      subst ha1 ha2
      have HTK := Lib.hid (show l[k] = m[k] → l.take (k + 1) = m.take (k + 1) from fun h => by rw [List.take_succ_eq_append_getElem hlt, List.take_succ_eq_append_getElem hlm, HSF.out, h])
      have HNO := Lib.hid (show l[k] ≠ m[k] → l ≠ m from fun h e => h (by subst e; rfl))
      obtain ⟨p, hp⟩ : ∃ p, p = l[k] := ⟨_, rfl⟩
      obtain ⟨q, hq⟩ : ∃ q, q = m[k] := ⟨_, rfl⟩
      rw [← hp] at e0 e1
      rw [← hq] at y0 y1
      rw [← hp, ← hq] at HTK HNO
      clear hp hq hb
      obtain ⟨s0, s1⟩ := p
      obtain ⟨u0, u1⟩ := q
      dsimp only at e0 e1 y0 y1
      by_cases h0 : s0 = u0
      · have r0 : (s0.toList == u0.toList) = true := by rw [h0]; simp
        have HS0 := Lib.hid h0
        clear h0
        by_cases h1 : s1 = u1
        · have r1 : (s1.toList == u1.toList) = true := by rw [h1]; simp
          have HS1 := Lib.hid h1
          clear h1
          go_wp2_with fail
          go_quiet (fail)
          go_wp2
          go_roundw
          case rel => exact ⟨k + 1, by omega, by go_num, HTK.out (by rw [HS0.out, HS1.out]), Below.drewN HB.out _⟩
          case measure => simp [intOf]; omega
        · have r1 : (s1.toList == u1.toList) = false := beq_eq_false_iff_ne.2 (fun e => h1 (ba_ext2 e))
          have HS1 := Lib.hid h1
          clear h1
          go_wp2_with fail
          go_quiet (fail)
          go_wp2
          go_ret
          exact ⟨false, rfl, by simp; exact HNO.out (fun e => HS1.out (by injection e)), Below.drewN HB.out _⟩
      · have r0 : (s0.toList == u0.toList) = false := beq_eq_false_iff_ne.2 (fun e => h0 (ba_ext2 e))
        have HS0 := Lib.hid h0
        clear h0
        go_wp2_with fail
        go_quiet (fail)
        go_wp2
        go_ret
        exact ⟨false, rfl, by simp; exact HNO.out (fun e => HS0.out (by injection e)), Below.drewN HB.out _⟩
    · obtain rfl : k = l.length := by omega
      clear hb
      go_wp2
      go_ret
      exact ⟨true, rfl, by simp; have := HSF.out; rwa [List.take_length, HN.out, List.take_length] at this, HB.out⟩
end Go.Proofs.YtgghgcilpfdbjaaGreatDoor

namespace Go.Proofs.YtgghgcilpfdbjaaGreatDoor
open Go.RowKit

set_option maxHeartbeats 4000000 in
set_option maxRecDepth 100000 in
theorem ref23SamePinG (nm : ByteArray) (vr ln : Int) (hs : List Key2) (nm2 : ByteArray) (vr2 ln2 : Int) (hs2 : List Key2) (a b : Option Addr) (c d : Nat) (w : World) (hA : KeysAt w 0 w.heap.size a hs) (hB : KeysAt w 0 w.heap.size b hs2) (hl : hs.length ≤ 9223372036854775807) (hm : hs2.length ≤ 9223372036854775807) :
    Calls Tryz.prog 20 #[.agg #[.string nm, .int .i64 vr, .int .i64 ln, .slice a hs.length c], .agg #[.string nm2, .int .i64 vr2, .int .i64 ln2, .slice b hs2.length d]] w (TellsEq (PinV.mk nm vr ln hs) ⟨nm2, vr2, ln2, hs2⟩ w) := by
  obtain ⟨W2, hW2⟩ : ∃ W2, W2 = (w.alloc (.cells #[.string nm, .int .i64 vr, .int .i64 ln, .slice a hs.length c] 36)).alloc (.cells #[.string nm2, .int .i64 vr2, .int .i64 ln2, .slice b hs2.length d] 36) := ⟨_, rfl⟩
  have hb2 : Below w.heap.size w W2 := by rw [hW2]; exact ((Below.refl _ _).alloc (Nat.le_refl _) _).alloc (by simp) _
  have hx : W2.heap[w.heap.size]? = some (.cells #[.string nm, .int .i64 vr, .int .i64 ln, .slice a hs.length c] 36 (0, 0)) := by rw [hW2, Below.heap_alloc _ _ _ (by simp)]; exact heap_alloc_new w _
  have hy : W2.heap[w.heap.size + 1]? = some (.cells #[.string nm2, .int .i64 vr2, .int .i64 ln2, .slice b hs2.length d] 36 (0, 0)) := by
    have := heap_alloc_new (w.alloc (.cells #[.string nm, .int .i64 vr, .int .i64 ln, .slice a hs.length c] 36)) (.cells #[.string nm2, .int .i64 vr2, .int .i64 ln2, .slice b hs2.length d] 36)
    rw [show (w.alloc (.cells #[.string nm, .int .i64 vr, .int .i64 ln, .slice a hs.length c] 36)).heap.size = w.heap.size + 1 by simp, ← hW2] at this
    exact this
  have v0 : W2.cell? ⟨w.heap.size, 0, none⟩ = some (.string nm) := box_cell hx rfl
  have v1 : W2.cell? ⟨w.heap.size, 1, none⟩ = some (.int .i64 vr) := box_cell hx rfl
  have v2 : W2.cell? ⟨w.heap.size, 2, none⟩ = some (.int .i64 ln) := box_cell hx rfl
  have v3 : W2.cell? ⟨w.heap.size, 3, none⟩ = some (.slice a hs.length c) := box_cell hx rfl
  have u0 : W2.cell? ⟨w.heap.size + 1, 0, none⟩ = some (.string nm2) := box_cell hy rfl
  have u1 : W2.cell? ⟨w.heap.size + 1, 1, none⟩ = some (.int .i64 vr2) := box_cell hy rfl
  have u2 : W2.cell? ⟨w.heap.size + 1, 2, none⟩ = some (.int .i64 ln2) := box_cell hy rfl
  have u3 : W2.cell? ⟨w.heap.size + 1, 3, none⟩ = some (.slice b hs2.length d) := box_cell hy rfl
  have HS := Lib.hid (ref21SameHashesG hs hs2 a b c d W2 (hA.below hb2 (Nat.le_refl _) (Nat.le_refl _) hb2.size) (hB.below hb2 (Nat.le_refl _) (Nat.le_refl _) hb2.size) hl hm)
  have HB := Lib.hid hb2
  have HW := Lib.hid hW2
  clear hb2 hW2 hx hy hA hB
  by_cases h0 : nm = nm2
  case neg =>
    have r0 : (nm.toList == nm2.toList) = false := beq_eq_false_iff_ne.2 (fun e => h0 (ba_ext2 e))
    have HNE := Lib.hid h0
    clear h0
    go_enter Tryz.func20, Tryz.ntmps20
    go_upto_region 1 with fail
    rw [← HW.out]
    go_wp2
    go_ret
    exact ⟨false, rfl, by simp; intro e; exact absurd e HNE.out, HB.out⟩
  have r0 : (nm.toList == nm2.toList) = true := by rw [h0]; simp
  have HE0 := Lib.hid h0
  clear h0
  by_cases h1 : vr = vr2
  case neg =>
    have r1 : (vr == vr2) = false := by simpa using h1
    have HNE := Lib.hid h1
    clear h1
    go_enter Tryz.func20, Tryz.ntmps20
    go_upto_region 1 with fail
    rw [← HW.out]
    go_wp2
    go_ret
    exact ⟨false, rfl, by simp; intros; first | (exact absurd ‹_› HNE.out) | (exact HNE.out ‹_›), HB.out⟩
  have r1 : (vr == vr2) = true := by simpa using h1
  have HE1 := Lib.hid h1
  clear h1
  by_cases h2 : ln = ln2
  case neg =>
    have r2 : (ln == ln2) = false := by simpa using h2
    have HNE := Lib.hid h2
    clear h2
    go_enter Tryz.func20, Tryz.ntmps20
    go_upto_region 1 with fail
    rw [← HW.out]
    go_wp2
    go_ret
    exact ⟨false, rfl, by simp; intros; first | (exact absurd ‹_› HNE.out) | (exact HNE.out ‹_›), HB.out⟩
  have r2 : (ln == ln2) = true := by simpa using h2
  have HE2 := Lib.hid h2
  clear h2
  go_enter Tryz.func20, Tryz.ntmps20
  go_upto_region 1 with fail
  rw [← HW.out]
  go_wp2_with fail
  refine HS.out.mono ?_
  rintro e w3 ⟨bb, rfl, hiff, hb3⟩
  have HB3 := Lib.hid (HB.out.trans (hb3.mono HB.out.size))
  clear hb3
  cases bb with
  | true =>
    have HIF := Lib.hid (hiff.1 rfl)
    clear hiff
    go_wp2
    go_ret
    exact ⟨true, rfl, ⟨fun _ => by rw [HE0.out, HE1.out, HE2.out, HIF.out], fun _ => rfl⟩, HB3.out⟩
  | false =>
    have HIF := Lib.hid (show hs ≠ hs2 from fun h => Bool.noConfusion (hiff.2 h))
    clear hiff
    go_wp2
    go_ret
    exact ⟨false, rfl, ⟨fun h => Bool.noConfusion h, fun e => by injection e with _ _ _ e4; exact absurd e4 HIF.out⟩, HB3.out⟩


set_option maxHeartbeats 4000000 in
set_option maxRecDepth 100000 in
theorem ref23SameG (v e : Int) (l : List PinV) (vv e2 : Int) (m : List PinV) (a b : Option Addr) (c d : Nat) (w : World) (hA : PinsAt w 0 w.heap.size a l) (hB : PinsAt w 0 w.heap.size b m) (hfl : ∀ p ∈ l, PinFits p) (hfm : ∀ p ∈ m, PinFits p) (hl : l.length ≤ 9223372036854775807) (hm : m.length ≤ 9223372036854775807) :
    Calls Tryz.prog 24 #[.agg #[.int .i64 v, .int .i64 e, .slice a l.length c], .agg #[.int .i64 vv, .int .i64 e2, .slice b m.length d]] w (TellsEq (SnapV.mk v e l) ⟨vv, e2, m⟩ w) := by
  obtain ⟨W2, hW2⟩ : ∃ W2, W2 = (w.alloc (.cells #[.int .i64 v, .int .i64 e, .slice a l.length c] 24)).alloc (.cells #[.int .i64 vv, .int .i64 e2, .slice b m.length d] 24) := ⟨_, rfl⟩
  have hb2 : Below w.heap.size w W2 := by rw [hW2]; exact ((Below.refl _ _).alloc (Nat.le_refl _) _).alloc (by simp) _
  have hx : W2.heap[w.heap.size]? = some (.cells #[.int .i64 v, .int .i64 e, .slice a l.length c] 24 (0, 0)) := by rw [hW2, Below.heap_alloc _ _ _ (by simp)]; exact heap_alloc_new w _
  have hy : W2.heap[w.heap.size + 1]? = some (.cells #[.int .i64 vv, .int .i64 e2, .slice b m.length d] 24 (0, 0)) := by
    have := heap_alloc_new (w.alloc (.cells #[.int .i64 v, .int .i64 e, .slice a l.length c] 24)) (.cells #[.int .i64 vv, .int .i64 e2, .slice b m.length d] 24)
    rw [show (w.alloc (.cells #[.int .i64 v, .int .i64 e, .slice a l.length c] 24)).heap.size = w.heap.size + 1 by simp, ← hW2] at this
    exact this
  have HC := Lib.hid (show ∀ w' : World, Below W2.heap.size W2 w' → w'.cell? ⟨w.heap.size, 0, none⟩ = some (.int .i64 v) ∧ w'.cell? ⟨w.heap.size, 1, none⟩ = some (.int .i64 e) ∧ w'.cell? ⟨w.heap.size, 2, none⟩ = some (.slice a l.length c) ∧ w'.cell? ⟨w.heap.size + 1, 0, none⟩ = some (.int .i64 vv) ∧ w'.cell? ⟨w.heap.size + 1, 1, none⟩ = some (.int .i64 e2) ∧ w'.cell? ⟨w.heap.size + 1, 2, none⟩ = some (.slice b m.length d) from fun w' h => by
    have x := (h.block _ (heap_lt hx)).trans hx
    have y := (h.block _ (heap_lt hy)).trans hy
    exact ⟨box_cell x rfl, box_cell x rfl, box_cell x rfl, box_cell y rfl, box_cell y rfl, box_cell y rfl⟩)
  have HA := Lib.hid (hA.below hb2 (Nat.le_refl _) (Nat.le_refl _) hb2.size)
  have HBb := Lib.hid (hB.below hb2 (Nat.le_refl _) (Nat.le_refl _) hb2.size)
  have HFL := Lib.hid hfl
  have HFM := Lib.hid hfm
  have HB2 := Lib.hid hb2
  have HW := Lib.hid hW2
  clear hA hB hfl hfm hb2 hx hy hW2
  obtain ⟨q0, q1, q2, q3, q4, q5⟩ := HC.out W2 (Below.refl _ _)
  by_cases h0 : v = vv
  case neg =>
    have r1 : (v != vv) = true := by simpa using h0
    have HNE := Lib.hid h0
    clear h0
    go_enter Tryz.func24, Tryz.ntmps24
    go_upto_region 1 with fail
    rw [← HW.out]
    go_wp2
    go_ret
    exact ⟨false, rfl, ⟨fun h => Bool.noConfusion h, fun e => by injection e with e1 _ _; exact absurd e1 HNE.out⟩, HB2.out⟩
  have r1 : (v != vv) = false := by simpa using h0
  have HE0 := Lib.hid h0
  clear h0
  by_cases h1 : e = e2
  case neg =>
    have r2 : (e != e2) = true := by simpa using h1
    have HNE := Lib.hid h1
    clear h1
    go_enter Tryz.func24, Tryz.ntmps24
    go_upto_region 1 with fail
    rw [← HW.out]
    go_wp2
    go_ret
    exact ⟨false, rfl, ⟨fun h => Bool.noConfusion h, fun e => by injection e with _ e1 _; exact absurd e1 HNE.out⟩, HB2.out⟩
  have r2 : (e != e2) = false := by simpa using h1
  have HE1 := Lib.hid h1
  clear h1
  by_cases hn : l.length = m.length
  case neg =>
    have t1 : ((l.length : Int) != (m.length : Int)) = true := by rw [bne_iff_ne]; omega
    have t2 : (l.length != m.length) = true := by rw [bne_iff_ne]; omega
    have HNE := Lib.hid hn
    clear hn
    go_enter Tryz.func24, Tryz.ntmps24
    go_upto_region 1 with fail
    rw [← HW.out]
    go_wp2
    go_ret
    exact ⟨false, rfl, ⟨fun h => Bool.noConfusion h, fun e => by injection e with _ _ e1; exact absurd (congrArg List.length e1) HNE.out⟩, HB2.out⟩
  have t1 : ((l.length : Int) != (m.length : Int)) = false := by rw [hn]; simp
  have t2 : (l.length != m.length) = false := by rw [hn]; simp
  have HN := Lib.hid hn
  clear hn
  go_enter Tryz.func24, Tryz.ntmps24
  go_upto_region 1 with fail
  rw [← HW.out]
  go_wp2
  clear q0 q1 q2 q3 q4 q5
  go_loopw [5] (fun i wr => ∃ k : Nat, k ≤ l.length ∧ i = .int .i64 k ∧ l.take k = m.take k ∧ Below W2.heap.size W2 wr) (fun i _ => l.length - (intOf i).toNat)
  case atStart => exact ⟨0, by omega, rfl, by simp, Below.refl _ _⟩
  case round =>
    obtain ⟨k, hk, rfl, hsf, hb⟩ := hrel
    have HSF := Lib.hid hsf
    have HB := Lib.hid hb
    clear hsf
    obtain ⟨q0, q1, q2, q3, q4, q5⟩ := HC.out wr HB.out
    by_cases hlt : k < l.length
    · have hlm : k < m.length := by have := HN.out; omega
      obtain ⟨b1, o1, ha1, _, hbl1, e0, e1, e2', hh, hc, e3, _, hk1⟩ := (HA.out.below hb (Nat.le_refl _) (Nat.le_refl _) hb.size).at k hlt
      obtain ⟨b2, o2, ha2, _, hbl2, y0, y1, y2, gh, gc, y3, _, hk2⟩ := (HBb.out.below hb (Nat.le_refl _) (Nat.le_refl _) hb.size).at k hlm
      subst ha1 ha2
      have HTK := Lib.hid (show l[k] = m[k] → l.take (k + 1) = m.take (k + 1) from fun h => by rw [List.take_succ_eq_append_getElem hlt, List.take_succ_eq_append_getElem hlm, HSF.out, h])
      have HNO := Lib.hid (show l[k] ≠ m[k] → l ≠ m from fun h e => h (by subst e; rfl))
      have HF1 := Lib.hid (HFL.out l[k] (List.getElem_mem hlt))
      have HF2 := Lib.hid (HFM.out m[k] (List.getElem_mem hlm))
      obtain ⟨p, hp⟩ : ∃ p, p = l[k] := ⟨_, rfl⟩
      obtain ⟨q, hq⟩ : ∃ q, q = m[k] := ⟨_, rfl⟩
      rw [← hp] at e0 e1 e2' e3 hk1 HF1
      rw [← hq] at y0 y1 y2 y3 hk2 HF2
      rw [← hp, ← hq] at HTK HNO
      clear hp hq
      obtain ⟨nm, vr, ln, hs⟩ := p
      obtain ⟨nm2, vr2, ln2, hs2⟩ := q
      dsimp only at e0 e1 e2' e3 hk1 y0 y1 y2 y3 hk2
      have HSP := Lib.hid (show ∀ w' : World, Below wr.heap.size wr w' → Calls Tryz.prog 20 #[.agg #[.string nm, .int .i64 vr, .int .i64 ln, .slice hh hs.length hc], .agg #[.string nm2, .int .i64 vr2, .int .i64 ln2, .slice gh hs2.length gc]] w' (TellsEq (PinV.mk nm vr ln hs) ⟨nm2, vr2, ln2, hs2⟩ w') from fun w' h => ref23SamePinG nm vr ln hs nm2 vr2 ln2 hs2 hh gh hc gc w' (hk1.below h (Nat.le_refl _) (Nat.le_refl _) h.size) (hk2.below h (Nat.le_refl _) (Nat.le_refl _) h.size) HF1.out.2.2.2.1 HF2.out.2.2.2.1)
      clear hb hbl1 hbl2 hk1 hk2
      go_upto_region 6 with fail
      go_still_tail 10, (by kernel_rfl)
      have HSD := Lib.hid (HSP.out wr.drew ((Below.refl _ _).drew))
      clear HSP
      go_wp2_with fail
      refine HSD.out.mono ?_
      clear HSD
      rintro r w5 ⟨bb, rfl, hiff, hb5⟩
      have HB5 := Lib.hid (HB.out.trans ((show Below wr.heap.size wr w5 from (Below.refl _ _).drew.trans hb5).mono HB.out.size))
      clear hb5 e0 e1 e2' e3 y0 y1 y2 y3 q0 q1 q2 q3 q4 q5
      cases bb with
      | true =>
        have HIF := Lib.hid (HTK.out (hiff.1 rfl))
        clear hiff
        go_wp2
        go_roundw
        case rel => exact ⟨k + 1, by omega, by go_num, HIF.out, HB5.out⟩
        case measure => simp [intOf]; omega
      | false =>
        have HIF := Lib.hid (HNO.out (fun h => Bool.noConfusion (hiff.2 h)))
        clear hiff
        go_wp2
        go_ret
        exact ⟨false, rfl, ⟨fun h => Bool.noConfusion h, fun e => by injection e with _ _ e4; exact absurd e4 HIF.out⟩, HB2.out.trans (HB5.out.mono HB2.out.size)⟩
    · obtain rfl : k = l.length := by omega
      clear hb
      go_wp2
      go_ret
      exact ⟨true, rfl, ⟨fun _ => by have := HSF.out; rw [List.take_length, HN.out, List.take_length] at this; rw [HE0.out, HE1.out, this], fun _ => rfl⟩, HB2.out.trans (HB.out.mono HB2.out.size)⟩
end Go.Proofs.YtgghgcilpfdbjaaGreatDoor

namespace Go.Proofs.YtgghgcilpfdbjaaGreatDoor
open Go.RowKit

structure PinsOwn (B : Nat) (w : World) (vs : Value) (qs : List PinC) : Prop where
  own : w.ownsRow B 36 4 vs qs.length (qs.flatMap encQ)
  cap : ∀ q ∈ qs, q.1.hs.length ≤ q.2.2
  keys : ∀ q ∈ qs, ∃ lo hi, B ≤ lo ∧ hi ≤ w.heap.size ∧ (∀ b, vs.ownBlock = some b → ¬ (lo ≤ b ∧ b < hi)) ∧ KeysW w lo hi q.2.1 q.1.hs
theorem PinsOwn.nil (B : Nat) (w : World) : PinsOwn B w (.slice none 0 0) [] := ⟨World.ownsRow_nil _ _ _ _, by simp, by simp⟩
theorem PinsOwn.touch {S : Nat → Prop} {B : Nat} {w w' : World} {vs : Value} {qs : List PinC} (h : PinsOwn B w vs qs) (hT : Touch S w w') (hS : ∀ k, B ≤ k → ¬ S k) : PinsOwn B w' vs qs :=
  ⟨owns_touch h.own hT hS, h.cap, fun q hq => by
    obtain ⟨lo, hi, h1, h2, h3, hk⟩ := h.keys q hq
    exact ⟨lo, hi, h1, Nat.le_trans h2 hT.size, h3, hk.carry (Nat.le_refl _) (Nat.le_refl _) (fun b b1 b2 => hT.block b (by omega) (hS b (by omega)))⟩⟩
theorem PinsOwn.below {B : Nat} {w w' : World} {vs : Value} {qs : List PinC} (h : PinsOwn B w vs qs) (hb : Below w.heap.size w w') : PinsOwn B w' vs qs :=
  h.touch (Touch.of_below (S := fun _ => False) hb (Nat.le_refl _)) (fun _ _ h => h)
theorem PinsOwn.mono {B B' : Nat} {w : World} {vs : Value} {qs : List PinC} (h : PinsOwn B w vs qs) (hB : B' ≤ B) : PinsOwn B' w vs qs :=
  ⟨owns_mono h.own hB, h.cap, fun q hq => by
    obtain ⟨lo, hi, h1, h2⟩ := h.keys q hq
    exact ⟨lo, hi, Nat.le_trans hB h1, h2⟩⟩
theorem PinsOwn.snoc {B : Nat} {w w' : World} {v v' : Value} {qs : List PinC} (h : PinsOwn B w v qs) (q : PinC) (lo hi : Nat) (h1 : B ≤ lo) (h2 : hi ≤ w.heap.size) (h3 : ∀ b, v.ownBlock = some b → ¬ (lo ≤ b ∧ b < hi)) (hc : q.1.hs.length ≤ q.2.2) (hk : KeysW w lo hi q.2.1 q.1.hs)
    (hg : w.grownBy w' v.ownBlock) (hown : w'.ownsRow B 36 4 v' (qs.length + 1) (qs.flatMap encQ ++ encQ q)) (hat : v'.ownBlock = v.ownBlock ∨ ∃ g, v'.ownBlock = some g ∧ w.heap.size ≤ g) : PinsOwn B w' v' (qs ++ [q]) := by
  have hx : ∀ {lo hi : Nat}, hi ≤ w.heap.size → (∀ b, v.ownBlock = some b → ¬ (lo ≤ b ∧ b < hi)) → ∀ b, v'.ownBlock = some b → ¬ (lo ≤ b ∧ b < hi) := fun hz hn b hb => by
    rcases hat with e | ⟨g, e, hge⟩
    · exact hn b (by rw [← e]; exact hb)
    · rw [e] at hb; simp at hb; omega
  have hcar : ∀ {lo hi : Nat} {a : Option Addr} {l : List Key2}, hi ≤ w.heap.size → (∀ b, v.ownBlock = some b → ¬ (lo ≤ b ∧ b < hi)) → KeysW w lo hi a l → KeysW w' lo hi a l := fun hz hn hr =>
    hr.carry (Nat.le_refl _) (Nat.le_refl _) (fun b hb1 hb2 => hg.block b (by omega) (fun e => hn b e.symm ⟨hb1, hb2⟩))
  refine ⟨?_, fun p hp => ?_, fun p hp => ?_⟩
  · rw [List.length_append, List.flatMap_append]; simpa using hown
  · rcases List.mem_append.1 hp with hp | hp
    · exact h.cap p hp
    · obtain rfl : p = q := by simpa using hp
      exact hc
  · rcases List.mem_append.1 hp with hp | hp
    · obtain ⟨lo', hi', k1, k2, k3, hk'⟩ := h.keys p hp
      exact ⟨lo', hi', k1, Nat.le_trans k2 hg.size, hx k2 k3, hcar k2 k3 hk'⟩
    · obtain rfl : p = q := by simpa using hp
      exact ⟨lo, hi, h1, Nat.le_trans h2 hg.size, hx h2 h3, hcar h2 h3 hk⟩
/-- As pins lie. -/
theorem PinsOwn.pins {B : Nat} {w : World} {a : Option Addr} {n c : Nat} {qs : List PinC} (h : PinsOwn B w (.slice a n c) qs) : n = qs.length ∧ PinsAt w B w.heap.size a (qs.map (·.1)) := by
  have ho := h.own
  rcases h.own.2 with ⟨hv, h0⟩ | ⟨g, cap, cur, hv, hg, hh, hc, hm, hs, ht⟩
  · simp only [Value.slice.injEq] at hv
    exact ⟨by omega, .inl (by rw [List.eq_nil_of_length_eq_zero h0]; rfl)⟩
  · simp only [Value.slice.injEq] at hv
    obtain ⟨rfl, rfl, rfl⟩ := hv
    refine ⟨rfl, .inr ⟨g, 0, rfl, hg, heap_lt hh, fun i hi2 => ?_⟩⟩
    have hi3 : i < qs.length := by simpa using hi2
    have cell : ∀ q (hq : q < 4), w.cell? ⟨g, 0 + i * 4 + q, none⟩ = some ((encQ qs[i])[q]'(by rw [encQ_len]; exact hq)) := fun q hq => by
      have e : (⟨g, 0, none⟩ : Addr).add (i * 4 + q) = ⟨g, i * 4 + q, none⟩ := by unfold Addr.add; split <;> simp_all
      have := ho.cells (g := g) rfl _ _ (flatQ_get qs i q hi3 hq)
      rw [e] at this
      rw [show 0 + i * 4 + q = i * 4 + q by omega]; exact this
    obtain ⟨lo, hi, k1, k2, _, hk⟩ := h.keys qs[i] (List.getElem_mem hi3)
    rw [List.getElem_map]
    exact ⟨cell 0 (by decide), cell 1 (by decide), cell 2 (by decide), qs[i].2.1, qs[i].2.2, cell 3 (by decide), h.cap _ (List.getElem_mem hi3), (hk.carry k1 k2 (fun _ _ _ => rfl)).1⟩
end Go.Proofs.YtgghgcilpfdbjaaGreatDoor
