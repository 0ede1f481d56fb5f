/- The contract of snap.parseMeta, of pins with hashes too. Printed by genmetag.py. The contract of snap.Of, of any object that may be, hashes and all, whatever copy pick.Of makes. Printed by gensnapofg.py. Plain: the objects of hashes, pins and snapshots that may be are values that may be, and they are read back. No program in sight. Plain: a snapshot's object may be, and is read back. No program in sight. The contracts of slices.Clone of hashes and of snap.Pin, whose hashes may be written over. Printed by genpinw.py. A snapshot's object in memory: its cells; pins in a row of the call's own, some of them written over. What is written over, and what stays: cells that live, headers that stay, blocks that nobody touches. No program in sight. -/
import Derived.Test.YtgghgcilpfdbjaaGreatDoorSl20
import Derived.Test.YtgghgcilpfdbjaaGreatDoorSp01
import Derived.Test.YtgghgcilpfdbjaaGreatDoorSl21
import Derived.Test.YtgghgcilpfdbjaaGreatDoorSp00
import Derived.Test.YtgghgcilpfdbjaaGreatDoorSl09
import Derived.Test.YtgghgcilpfdbjaaGreatDoorSl10
import Derived.Test.YtgghgcilpfdbjaaGreatDoorSl24

namespace Go.Proofs.YtgghgcilpfdbjaaGreatDoor
open Go.RowKit Go.Lib

/-- The pins of the object meta, as far as they go. -/
def metaG : List ByteArray → List JV → PS → List PinV → List PinV × PS
  | f :: fs, x :: xs, st, acc => if (pinOfA f x).2 ≠ 0 then (acc, st.fail (pinOfA f x).2) else metaG fs xs st (acc ++ [(pinOfA f x).1])
  | _, _, st, acc => (acc, st)
theorem metaG_bad {ns : List ByteArray} {xs : List JV} {st : PS} {ps : List PinV} (k : Nat) (h1 : k < ns.length) (h2 : k < xs.length) (h : (pinOfA ns[k] xs[k]).2 ≠ 0) : metaG (ns.drop k) (xs.drop k) st ps = (ps, st.fail (pinOfA ns[k] xs[k]).2) := by
  rw [List.drop_eq_getElem_cons h1, List.drop_eq_getElem_cons h2, metaG, if_pos h]
theorem metaG_ok {ns : List ByteArray} {xs : List JV} {st : PS} {ps : List PinV} (k : Nat) (h1 : k < ns.length) (h2 : k < xs.length) (h : (pinOfA ns[k] xs[k]).2 = 0) : metaG (ns.drop k) (xs.drop k) st ps = metaG (ns.drop (k + 1)) (xs.drop (k + 1)) st (ps ++ [(pinOfA ns[k] xs[k]).1]) := by
  rw [List.drop_eq_getElem_cons h1, List.drop_eq_getElem_cons h2, metaG, if_neg (by simp [h])]
theorem metaG_end {ns : List ByteArray} {xs : List JV} {st : PS} {ps : List PinV} (k : Nat) (h1 : ns.length ≤ k) : metaG (ns.drop k) (xs.drop k) st ps = (ps, st) := by
  rw [List.drop_eq_nil_of_le h1]; rfl
def MetaGPost (o m lo hi p : Nat) (v : JV) (an ai : Option Addr) (cn ci : Nat) (ps : List PinV) (st : PS) (x0 x1 : Value) (w : World) (r : Ending) (w' : World) : Prop :=
  ∃ vs qs, r = .returned (.tuple #[]) ∧ PickAt o m lo hi v an ai cn ci st w' ∧ w'.rowIs p 24 3 (pick3 x0 x1 vs) ∧ PinsOwn w.heap.size w' vs qs ∧ qs.map (·.1) = ps ∧ Touch (fun b => b = o ∨ b = m ∨ b = p) w w'

set_option maxHeartbeats 4000000 in
set_option maxRecDepth 100000 in
theorem snapParseMetaG (o m lo hi p : Nat) (v : JV) (an ai : Option Addr) (cn ci : Nat) (st : PS) (x0 x1 : Value) (w : World) (hP : PickAt o m lo hi v an ai cn ci st w) (ha : st.asked.length ≤ 4294967296) (hr : w.rowIs p 24 3 (pick3 x0 x1 (.slice none 0 0))) (hpo : p ≠ o) (hpm : p ≠ m) (hph : hi ≤ p) (hlo : 0 < w.heap.size)
    (hnn : (pickObj v metN 256 st).1.names.length = (pickObj v metN 256 st).1.items.length) (hwt : (pickObj v metN 256 st).1.wt ≤ 4294967296) (hsz : (pickObj v metN 256 st).1.items.length ≤ 256) (hns : ∀ k (h : k < (pickObj v metN 256 st).1.names.length), (pickObj v metN 256 st).1.names[k].size ≤ 4294967296) :
    Calls Tryz.prog 116 #[.pointer (some ⟨o, 0, none⟩), .pointer (some ⟨p, 0, none⟩)] w (MetaGPost o m lo hi p v an ai cn ci (metaG (pickObj v metN 256 st).1.names (pickObj v metN 256 st).1.items (pickObj v metN 256 st).2 []).1 (metaG (pickObj v metN 256 st).1.names (pickObj v metN 256 st).1.items (pickObj v metN 256 st).2 []).2 x0 x1 w) := by
  have ho : o < w.heap.size := heap_lt hP.obj
  have hm : m < w.heap.size := by obtain ⟨D, n, h, _⟩ := hP.map; exact h.lt
  have hpl : p < w.heap.size := hr.lt
  have HOB := Lib.hid (pickObjF o m lo hi v an ai cn ci metN 256 st w hP (by decide) ha)
  have HR := Lib.hid hr
  have HNE := Lib.hid (And.intro (show p ≠ o ∧ p ≠ m ∧ hi ≤ p from ⟨hpo, hpm, hph⟩) (show o < w.heap.size ∧ m < w.heap.size ∧ p < w.heap.size from ⟨ho, hm, hpl⟩))
  have HLO := Lib.hid hlo
  clear hP hr ho hm hpl hpo hpm hph hlo
  go_enter Tryz.func116, Tryz.ntmps116
  go_wp2_with fail
  refine HOB.out.mono ?_
  clear HOB
  rintro r w1 ⟨⟨an2, cn2, ai2, ci2, rfl, hrep⟩, hp1, ht1⟩
  obtain ⟨M, hM⟩ : ∃ M, M = pickObj v metN 256 st := ⟨_, rfl⟩
  have HM := Lib.hid hM
  rw [← hM] at hnn hwt hsz hns hp1 hrep ⊢
  clear hM
  obtain ⟨J, sm⟩ := M
  dsimp only at hnn hwt hsz hns hp1 hrep ⊢
  have HNS := Lib.hid hns
  have HNN := Lib.hid hnn
  have HWT := Lib.hid hwt
  have HSZ := Lib.hid hsz
  have HREP := Lib.hid hrep
  have HP1 := Lib.hid hp1
  have HT1 := Lib.hid ht1
  have HR1 := Lib.hid (ht1.row HR.out (by have := HNE.out; omega))
  have HZ1 := Lib.hid ht1.size
  clear hnn hwt hsz hns hrep hp1 ht1
  obtain ⟨WM, hWM⟩ : ∃ WM, WM = w1.alloc (.cells #[.int .u8 J.kind, .int .i64 J.n, .string J.t, .slice an2 J.names.length cn2, .slice ai2 J.items.length ci2] 30) := ⟨_, rfl⟩
  have hbM : Below w1.heap.size w1 WM := by rw [hWM]; exact (Below.refl _ _).alloc (Nat.le_refl _) _
  have hxM : WM.heap[w1.heap.size]? = some (.cells #[.int .u8 J.kind, .int .i64 J.n, .string J.t, .slice an2 J.names.length cn2, .slice ai2 J.items.length ci2] 30 (0, 0)) := by rw [hWM]; exact heap_alloc_new w1 _
  have HXM := Lib.hid hxM
  have HBM := Lib.hid hbM
  have HPM := Lib.hid (HP1.out.below hbM)
  have HRM := Lib.hid (below_row hbM HR1.out HR1.out.lt)
  have HTM := Lib.hid (show Touch (fun b => b = o ∨ b = m ∨ b = p) w WM from (HT1.out.mono (fun k _ h => h.elim .inl (fun h => .inr (.inl h)))).trans (Touch.of_below hbM (Nat.le_refl _)))
  have HWM := Lib.hid hWM
  clear hbM hxM hWM
  go_upto_region 1 with fail
  rw [← HWM.out]
  have c3 : WM.cell? ⟨w1.heap.size, 3, none⟩ = some (.slice an2 J.names.length cn2) := box_cell HXM.out rfl
  go_wp2
  clear c3
  go_loopw [5, 6, 7, 8, 14] (fun _ _ _ _ i wr => ∃ (k : Nat) (qs : List PinC) (vs : Value), k ≤ J.names.length ∧ i = .int .i64 k ∧ qs.length ≤ k ∧ metaG J.names J.items sm [] = metaG (J.names.drop k) (J.items.drop k) sm (qs.map (·.1)) ∧ wr.rowIs p 24 3 (pick3 x0 x1 vs) ∧ PinsOwn WM.heap.size wr vs qs ∧ Touch (fun b => b = p) WM wr) (fun _ _ _ _ i _ => J.names.length - (intOf i).toNat)
  case atStart => exact ⟨0, [], .slice none 0 0, by omega, rfl, by simp, rfl, HRM.out, PinsOwn.nil _ _, Touch.refl _ _⟩
  case round =>
    obtain ⟨k, qs, vs, hk, rfl, hpk, hmo, hrow, hown, ht⟩ := hrel
    have htz := ht.size
    have hzM : w1.heap.size < WM.heap.size := heap_lt HXM.out
    have HREPr := Rep.carry (lo' := w.heap.size) (hi' := w1.heap.size) (Nat.le_refl _) (Nat.le_refl _) (fun b h1 h2 => (ht.block b (by omega) (by have := HNE.out; omega)).trans (HBM.out.block b h2)) _ _ HREP.out
    have c4 : wr.cell? ⟨w1.heap.size, 4, none⟩ = some (.slice ai2 J.items.length ci2) := box_cell ((ht.block _ hzM (by have := HNE.out; have := HZ1.out; omega)).trans HXM.out) rfl
    obtain ⟨an0, cn0, ai0, ci0, hx, -, -, h3, h4⟩ := HREPr.parts
    simp only [Value.agg.injEq, Array.mk.injEq, List.cons.injEq, Value.slice.injEq, true_and, and_true] at hx
    obtain ⟨⟨rfl, rfl⟩, rfl, rfl⟩ := hx
    have HROW := Lib.hid hrow
    have HOWN := Lib.hid hown
    have HMO := Lib.hid hmo
    have HT := Lib.hid ht
    have HZ := Lib.hid (show w1.heap.size < wr.heap.size by omega)
    have HPR := Lib.hid (HPM.out.touch ht HNE.out.1.1 HNE.out.1.2.1 HNE.out.1.2.2)
    have HZM := Lib.hid hzM
    clear hrow hown hmo ht htz hzM HREPr
    by_cases hlt : k < J.names.length
    · have hlt2 : k < J.items.length := by have := HNN.out; omega
      obtain ⟨bn, on, ha, _, _, n0⟩ := h3.at k hlt
      obtain ⟨bi, oi, an3, cn3, ai3, ci3, hai, _, _, y0, y1, y2, y3, y4, hry⟩ := h4.get k hlt2
      subst ha hai
      have hwk := JV.wts_get J.items k hlt2
      have hbd := J.wt_bd
      have HPO := Lib.hid (snapPinOfA J.names[k] J.items[k] _ wr w.heap.size w1.heap.size (by have := HWT.out; omega) HLO.out (Nat.le_of_lt HZ.out) hry (by have := HNS.out k hlt; omega))
      have HMB := Lib.hid (metaG_bad (st := sm) (ps := qs.map (·.1)) k hlt hlt2)
      have HMK := Lib.hid (metaG_ok (st := sm) (ps := qs.map (·.1)) k hlt hlt2)
      obtain ⟨PO, hPO⟩ : ∃ PO, PO = pinOfA J.names[k] J.items[k] := ⟨_, rfl⟩
      rw [← hPO] at HPO HMB HMK
      generalize J.names[k] = fk at *
      generalize J.items[k] = xk at *
      clear h3 h4 hry hwk hbd hPO
      obtain ⟨⟨pn, pv, pl, phs⟩, er⟩ := PO
      dsimp only at HPO HMB HMK
      go_wp2_with fail
      refine HPO.out.mono ?_
      clear HPO y0 y1 y2 y3 y4 n0 c4
      rintro r w2 ⟨ah, ch, rfl, hkh, hcp, hb2⟩
      have HKH := Lib.hid hkh
      have HCP := Lib.hid hcp
      clear hkh hcp
      obtain ⟨WX, hWX⟩ : ∃ WX, WX = w2.alloc (.cells #[.string pn, .int .i64 pv, .int .i64 pl, .slice ah phs.length ch] 36) := ⟨_, rfl⟩
      have hbX : Below wr.heap.size wr WX := by rw [hWX]; exact hb2.alloc hb2.size _
      have hxX : WX.heap[w2.heap.size]? = some (.cells #[.string pn, .int .i64 pv, .int .i64 pl, .slice ah phs.length ch] 36 (0, 0)) := by rw [hWX]; exact heap_alloc_new w2 _
      have HBX := Lib.hid hbX
      have HXX := Lib.hid hxX
      have HWX := Lib.hid hWX
      have HZX := Lib.hid (show wr.heap.size ≤ w2.heap.size from hb2.size)
      clear hb2 hbX hxX hWX
      go_upto_region 5 with fail
      rw [← HWX.out]
      by_cases he : er = 0
      · subst he
        have HMK2 := Lib.hid (HMK.out rfl)
        clear HMB HMK
        obtain ⟨i1, hi1, hy0, hy1, hy2⟩ := info_parts infoPin
        obtain ⟨sv, cv, rfl⟩ := owns_slice HOWN.out.own
        have hrowX := below_row HBX.out HROW.out HROW.out.lt
        have hownX := HOWN.out.below HBX.out
        have HRX := Lib.hid hrowX
        have HOX := Lib.hid hownX
        have HCL := Lib.hid (show ∀ w' : World, Below WX.heap.size WX w' → w'.cell? ⟨p, 2, none⟩ = some (.slice sv qs.length cv) ∧ w'.cell? ⟨w2.heap.size, 0, none⟩ = some (.string pn) ∧ w'.cell? ⟨w2.heap.size, 1, none⟩ = some (.int .i64 pv) ∧ w'.cell? ⟨w2.heap.size, 2, none⟩ = some (.int .i64 pl) ∧ w'.cell? ⟨w2.heap.size, 3, none⟩ = some (.slice ah phs.length ch) from fun w' h => by
          have x := (h.block _ (heap_lt HXX.out)).trans HXX.out
          exact ⟨by have := (below_row h HRX.out HRX.out.lt).cell (i := 2) (by decide); simpa [pick3] using this, box_cell x rfl, box_cell x rfl, box_cell x rfl, box_cell x rfl⟩)
        have hpsl : qs.length ≤ 256 := by have := HSZ.out; have := HNN.out; omega
        have HPSL := Lib.hid hpsl
        clear hrowX hownX hpsl
        have HOD := Lib.hid (show WX.drew.ownsRow WM.heap.size 36 4 (.slice sv qs.length cv) qs.length (qs.flatMap encQ) from owns_below HOX.out.own ((Below.refl _ _).drew))
        have hwm : WM.heap.size ≤ WX.heap.size := by have h2 := HBX.out.size; have h3 := HT.out.size; omega
        have hpsl := HPSL.out
        have hkb : k < 256 := by have := HSZ.out; omega
        have hpn : some p ≠ (Value.slice sv qs.length cv).ownBlock := fun e => by have := (HOX.out.own.lt _ e.symm).1; have := HNE.out; have := HZ1.out; have := HZM.out; omega
        have hpl : p < WX.heap.size := HRX.out.lt
        have hflen := flatQ_len qs
        obtain ⟨e2, y0, y1, y2, y3⟩ := HCL.out WX (Below.refl _ _)
        have fp2 := HRX.out.frozen 2
        go_upto_region 7 with fail
        go_region_law (refine step_append_lies _ (by rfl) (.tmp 38) (.tmp 40) 22 (by rfl) WM.heap.size 36 i1 _ 4 56 Tryz.underlying22 hi1 hy0 hy1 hy2 rfl (by omega) (.slice sv qs.length cv) qs.length (qs.flatMap encQ) (by rfl) (HOD.out.alloc _) ⟨WX.heap.size, 0, none⟩ 1 1 (Array.toList #[.string pn, .int .i64 pv, .int .i64 pl, .slice ah phs.length ch]) (by rfl) (by rfl) (World.news_of_block (cs := #[.string pn, .int .i64 pv, .int .i64 pl, .slice ah phs.length ch]) (t := 36) (fr := (0, 0)) (heap_alloc_new WX.drew _)) (by simp [Value.oneCell']) (by omega) (by unfold maxLen; omega) (by omega) (by simp; omega) (WX.heap.size + 1) (by simp) ?_; intro g2 cap3 w4 hown4 hgrow4 hat4 hlt4; have c44 : w4.cell? ⟨p, 2, none⟩ = some (.slice sv qs.length cv) := (World.cell?_of_block (hgrow4.block p (by simp; omega) hpn)).trans ((cell_alloc_lt _ (show p < WX.drew.heap.size from hpl)).trans e2); have f44 : w4.frozen? ⟨p, 2, none⟩ = false := (World.frozen?_of_block (hgrow4.block p (by simp; omega) hpn)).trans ((((Below.refl WX.drew.heap.size WX.drew).alloc (Nat.le_refl _) _).frozen (show p < WX.drew.heap.size from hpl)).trans fp2); have HO4 := Lib.hid hown4; have HG4 := Lib.hid hgrow4; have HA4 := Lib.hid hat4; clear hown4 hgrow4 hat4)
        all_goals
          have tt := fun (ob : Obj) => HT.out.trans (Touch.of_below (S := fun b => b = p) (HBX.out.trans (((Below.refl WX.heap.size WX).drew.alloc (Nat.le_refl _) ob).mono HBX.out.size)) (Nat.le_refl _))
          have hr4 : w4.rowIs p 24 3 (pick3 x0 x1 (.slice sv qs.length cv)) := HRX.out.of_block ((HG4.out.block p (by simp; omega) hpn).trans (Below.heap_alloc _ _ _ (show p < WX.drew.heap.size from hpl)))
          have tt := tt (.cells #[.string pn, .int .i64 pv, .int .i64 pl, .slice ah phs.length ch] 36)
          have ht4 : Touch (fun b => b = p) WM w4 := ⟨HG4.out.os.trans tt.os, HG4.out.tape.trans tt.tape, HG4.out.output.trans tt.output, Nat.le_trans tt.size HG4.out.size, fun q hq hn => (HG4.out.block q (Nat.lt_of_lt_of_le hq tt.size) (fun e => by have := (HOX.out.own.lt _ e.symm).1; omega)).trans (tt.block q hq hn)⟩
          have HFR := Lib.hid (show (w4.setCell ⟨p, 2, none⟩ (.slice (some ⟨g2, 0, none⟩) (qs.length + 1) cap3)).rowIs p 24 3 (pick3 x0 x1 (.slice (some ⟨g2, 0, none⟩) (qs.length + 1) cap3)) from by
            refine (hr4.set 2 _).congr fun j hj => ?_
            rcases j with _ | _ | _ | j <;> first | rfl | omega)
          have HFO := Lib.hid (show PinsOwn WM.heap.size (w4.setCell ⟨p, 2, none⟩ (.slice (some ⟨g2, 0, none⟩) (qs.length + 1) cap3)) (.slice (some ⟨g2, 0, none⟩) (qs.length + 1) cap3) (qs ++ [((⟨pn, pv, pl, phs⟩, ah, ch) : PinC)]) from by
            have hbd : Below WX.heap.size WX (WX.drew.alloc (.cells #[.string pn, .int .i64 pv, .int .i64 pl, .slice ah phs.length ch] 36)) := (Below.refl WX.heap.size WX).drew.alloc (Nat.le_refl _) _
            have hz := HBX.out.size
            have hzx := HZX.out
            have hxx := heap_lt HXX.out
            have hwx : w2.heap.size ≤ WX.heap.size := by omega
            have hb2x : Below w2.heap.size w2 WX := by rw [HWX.out]; exact (Below.refl _ _).alloc (Nat.le_refl _) _
            have hsn := (HOX.out.below hbd).snoc (v' := .slice (some ⟨g2, 0, none⟩) (qs.length + 1) cap3) (⟨pn, pv, pl, phs⟩, ah, ch) wr.heap.size w2.heap.size (by have := HT.out.size; omega) (by simp; omega) (fun b hb => by have := (HOWN.out.own.lt _ hb).2; omega) HCP.out (HKH.out.below (hb2x.trans (hbd.mono hwx)) (Nat.le_refl _) (Nat.le_refl _) (Nat.le_refl _)) HG4.out HO4.out (by
              rcases HA4.out with h | h
              · exact .inl h.symm
              · exact .inr ⟨g2, rfl, by simp; omega⟩)
            exact hsn.touch (touch_put (g := p) (j := 2) (.slice (some ⟨g2, 0, none⟩) (qs.length + 1) cap3)) (fun k hk e => by have := HNE.out; have := HZ1.out; have := HZM.out; omega))
          have HFT := Lib.hid (ht4.trans (touch_put (g := p) (j := 2) (.slice (some ⟨g2, 0, none⟩) (qs.length + 1) cap3)))
          clear tt hr4 ht4 HO4 HG4 HA4 c44 f44 e2 y0 y1 y2 y3 fp2
          go_wp2
          go_roundw
          case rel => exact ⟨k + 1, _, _, by omega, by go_num, by simp; omega, by rw [HMO.out, HMK2.out, List.map_append]; rfl, HFR.out, HFO.out, HFT.out⟩
          case measure => simp [intOf]; omega
      · have HMB := Lib.hid (HMB.out he)
        have hd2 : (er != 0) = true := by simpa using he
        have HF := Lib.hid (pickFailG o m lo hi v an ai cn ci er sm WX (HPR.out.below HBX.out))
        clear he HMK
        go_wp2_with fail
        refine HF.out.mono ?_
        rintro r w3 ⟨rfl, h3, h4⟩
        have hrowX := below_row HBX.out HROW.out HROW.out.lt
        have hr3 := h4.row hrowX (by have := HNE.out; omega)
        have hown3 : PinsOwn w.heap.size w3 vs qs := ((HOWN.out.below HBX.out).touch h4 (fun k hk e => by have := HNE.out; have := HZ1.out; have := HZM.out; omega)).mono (by have := HZ1.out; have := HZM.out; omega)
        have HFIN := Lib.hid (show MetaGPost o m lo hi p v an ai cn ci (metaG J.names J.items sm []).1 (metaG J.names J.items sm []).2 x0 x1 w (.returned (.tuple #[])) w3 from by
          rw [HMO.out, HMB.out]
          exact ⟨vs, qs, rfl, h3, hr3, hown3, rfl, (HTM.out.trans ((HT.out.mono (fun k _ h => .inr (.inr h))).trans ((Touch.of_below HBX.out (Nat.le_refl _)).trans (h4.mono (fun k _ h => h.elim .inl (fun h => .inr (.inl h)))))))⟩)
        clear h3 h4 hrowX hr3 hown3
        go_wp2
        go_end0
        rw [← HM.out]
        exact HFIN.out
    · have HE := Lib.hid (metaG_end (xs := J.items) (st := sm) (ps := qs.map (·.1)) k (show J.names.length ≤ k by omega))
      clear h3 h4
      have HFIN := Lib.hid (show MetaGPost o m lo hi p v an ai cn ci (metaG J.names J.items sm []).1 (metaG J.names J.items sm []).2 x0 x1 w (.returned (.tuple #[])) wr from by
        rw [HMO.out, HE.out]
        exact ⟨vs, qs, rfl, HPR.out, HROW.out, HOWN.out.mono (by have := HZ1.out; have := HZM.out; omega), rfl, HTM.out.trans (HT.out.mono (fun k _ h => .inr (.inr h)))⟩)
      go_wp2
      go_end0
      rw [← HM.out]
      exact HFIN.out
end Go.Proofs.YtgghgcilpfdbjaaGreatDoor

namespace Go.Proofs.YtgghgcilpfdbjaaGreatDoor
open Go.RowKit Go.Lib

def stG (v : JV) : List PinV × PS := metaG (stM v).1.names (stM v).1.items (stM v).2 []
/-- The snapshot of a picker's value, and the error. -/
def snapOfK (v : JV) : SnapV × Int := if pickDone v (stG v).2 ≠ 0 then (snapZ, pickDone v (stG v).2) else (⟨(stB v).1, (stR v).1, (stG v).1⟩, 0)
def SnapOfGPost (C : JV → Prop) (w : World) (e : Ending) (w' : World) : Prop :=
  ∃ u qs a c, C u ∧ e = .returned (.tuple #[.agg #[.int .i64 (snapOfK u).1.ver, .int .i64 (snapOfK u).1.exp, .slice a (snapOfK u).1.pins.length c], .int .i64 (snapOfK u).2]) ∧ PinsOwn w.heap.size w' (.slice a (snapOfK u).1.pins.length c) qs ∧ qs.map (·.1) = (snapOfK u).1.pins ∧ Below w.heap.size w w'
theorem obj_few {v : JV} {y : ByteArray} {most : Nat} {st : PS} : (pickObj v y most st).1.items.length ≤ most := by
  unfold pickObj
  split
  · exact Nat.zero_le _
  · split
    · exact Nat.zero_le _
    · split
      · exact Nat.zero_le _
      · split
        · exact Nat.zero_le _
        · rename_i h; exact Nat.le_of_not_lt h
theorem stM_ok {u : JV} (h : u.wt ≤ 4294967296) (hn : (stM u).1.names.length = (stM u).1.items.length) : (stM u).1.names.length = (stM u).1.items.length ∧ (stM u).1.wt ≤ 4294967296 ∧ (stM u).1.items.length ≤ 256 ∧ ∀ k (h : k < (stM u).1.names.length), (stM u).1.names[k].size ≤ 4294967296 :=
  ⟨hn, pickObj_wt h, obj_few, names_wt (pickObj_wt h)⟩

set_option maxHeartbeats 4000000 in
set_option maxRecDepth 100000 in
theorem snapOfG (C : JV → Prop) (v : JV) (x : Value) (w : World) (hN : v.wt ≤ 4294967296) (hR : Rep w 0 w.heap.size v x) (hm : v.mayB = true) (hk : v.kind = 5) (hT : TabW w) (hM : ∀ u, C u → (stM u).1.names.length = (stM u).1.items.length) (hOf : ∀ w1, Below w.heap.size w w1 → Calls Tryz.prog 61 #[x] w1 (OfCPost C w1)) :
    Calls Tryz.prog 34 #[x] w (SnapOfGPost C w) := by
  obtain ⟨an, cn, ai, ci, hx, h1, h2, h3, h4⟩ := hR.parts
  clear h1 h2 h3 h4
  subst hx
  have HOF := Lib.hid hOf
  have HMM := Lib.hid hM
  obtain ⟨W2, hW2⟩ : ∃ W2, W2 = (w.alloc (.cells #[.int .u8 v.kind, .int .i64 v.n, .string v.t, .slice an v.names.length cn, .slice ai v.items.length ci] 30)).alloc (.cells #[.int .i64 0, .int .i64 0, .slice none 0 0] 24) := ⟨_, rfl⟩
  have hz1 : (w.alloc (.cells #[.int .u8 v.kind, .int .i64 v.n, .string v.t, .slice an v.names.length cn, .slice ai v.items.length ci] 30)).heap.size = w.heap.size + 1 := by simp
  have hz2 : W2.heap.size = w.heap.size + 2 := by rw [hW2]; simp
  have hb2 : Below w.heap.size w W2 := by rw [hW2]; exact ((Below.refl _ _).alloc (Nat.le_refl _) _).alloc (by simp) _
  have hx0 : W2.heap[w.heap.size]? = some (.cells #[.int .u8 v.kind, .int .i64 v.n, .string v.t, .slice an v.names.length cn, .slice ai v.items.length ci] 30 (0, 0)) := by rw [hW2, Below.heap_alloc _ _ _ (by simp)]; exact heap_alloc_new w _
  have hr0 : W2.rowIs (w.heap.size + 1) 24 3 (pick3 (.int .i64 0) (.int .i64 0) (.slice none 0 0)) := by
    have := rowIs_box3 (w.alloc (.cells #[.int .u8 v.kind, .int .i64 v.n, .string v.t, .slice an v.names.length cn, .slice ai v.items.length ci] 30)) (.int .i64 0) (.int .i64 0) (.slice none 0 0) 24
    rw [hz1, ← hW2] at this
    exact this
  have HMY := Lib.hid (valueMay v _ W2 hN (hR.below hb2 (Nat.le_refl _) (Nat.zero_le _) hb2.size))
  rw [hm] at HMY
  have HW := Lib.hid hW2
  have HB2 := Lib.hid hb2
  have HX0 := Lib.hid hx0
  have HR0 := Lib.hid hr0
  have HZ2 := Lib.hid hz2
  have HK := Lib.hid hk
  have HTW := Lib.hid hT
  clear hR hW2 hb2 hx0 hr0 hz1 hz2 hk hT hM hm hOf
  have c0 : W2.cell? ⟨w.heap.size, 0, none⟩ = some (.int .u8 v.kind) := box_cell HX0.out rfl
  have c1 : W2.cell? ⟨w.heap.size, 1, none⟩ = some (.int .i64 v.n) := box_cell HX0.out rfl
  have c2 : W2.cell? ⟨w.heap.size, 2, none⟩ = some (.string v.t) := box_cell HX0.out rfl
  have c3 : W2.cell? ⟨w.heap.size, 3, none⟩ = some (.slice an v.names.length cn) := box_cell HX0.out rfl
  have c4 : W2.cell? ⟨w.heap.size, 4, none⟩ = some (.slice ai v.items.length ci) := box_cell HX0.out rfl
  go_enter Tryz.func34, Tryz.ntmps34
  go_upto_region 1 with fail
  rw [← HW.out]
  go_wp2_with fail
  refine HMY.out.mono ?_
  clear HMY c0 c1 c2 c3 c4
  rintro e w1 ⟨rfl, hb1⟩
  have hx1 := (hb1.block _ (heap_lt HX0.out)).trans HX0.out
  have HB1 := Lib.hid (HB2.out.trans (hb1.mono HB2.out.size))
  have HR1 := Lib.hid (below_row hb1 HR0.out HR0.out.lt)
  have HZ1 := Lib.hid (show w.heap.size + 2 ≤ w1.heap.size from by have := hb1.size; have := HZ2.out; omega)
  have c0 : w1.cell? ⟨w.heap.size, 0, none⟩ = some (.int .u8 v.kind) := box_cell hx1 rfl
  have c1 : w1.cell? ⟨w.heap.size, 1, none⟩ = some (.int .i64 v.n) := box_cell hx1 rfl
  have c2 : w1.cell? ⟨w.heap.size, 2, none⟩ = some (.string v.t) := box_cell hx1 rfl
  have c3 : w1.cell? ⟨w.heap.size, 3, none⟩ = some (.slice an v.names.length cn) := box_cell hx1 rfl
  have c4 : w1.cell? ⟨w.heap.size, 4, none⟩ = some (.slice ai v.items.length ci) := box_cell hx1 rfl
  have HOF1 := Lib.hid (HOF.out w1 HB1.out)
  clear hb1 hx1
  go_wp2_with fail
  refine HOF1.out.mono ?_
  clear HOF HOF1 c0 c1 c2 c3 c4
  rintro e w2 ⟨u, hC, o, m, lo2, hi2, an2, ai2, cn2, ci2, rfl, hp2, ho2, hm2, hb2⟩
  have HCU := Lib.hid hC
  have HH := Lib.hid (stM_ok hp2.wt (HMM.out u hC))
  have HTS := Lib.hid (names_wt hp2.wt)
  have HEQ := Lib.hid (show ∀ r, snapOfK u = r → r = snapOfK u from fun _ h => h.symm)
  have HLN := Lib.hid (show (tyS u ⟨[], 0⟩).asked.length ≤ 1 ∧ (stB u).2.asked.length ≤ 2 ∧ (stC u).2.asked.length ≤ 3 from by
    have a1 : (tyS u ⟨[], 0⟩).asked.length ≤ 1 := by
      have := text_len (v := u) (y := typN) (st := ⟨[], 0⟩)
      simp only [List.length_nil] at this
      unfold tyS; split
      · rw [fail_len]; omega
      · omega
    have a2 := num_size (v := u) (y := verN) (l := 1) (h := 1099511627776) (st := tyS u ⟨[], 0⟩)
    have a3 := text_len (v := u) (y := expN) (st := (stB u).2)
    unfold stB at a3 ⊢
    unfold stC stB
    omega)
  clear hC
  obtain ⟨p, hp⟩ : ∃ p, p = w2.heap.size := ⟨_, rfl⟩
  obtain ⟨W3, hW3⟩ : ∃ W3, W3 = w2.alloc (.cells #[.int .i64 0, .int .i64 0, .slice none 0 0] 24) := ⟨_, rfl⟩
  have hb3 : Below w2.heap.size w2 W3 := by rw [hW3]; exact (Below.refl _ _).alloc (Nat.le_refl _) _
  have hq3 : W3.rowIs p 24 3 (pick3 (.int .i64 0) (.int .i64 0) (.slice none 0 0)) := by rw [hW3, hp]; exact rowIs_box3 _ _ _ _ _
  have hoz : o < w2.heap.size := heap_lt hp2.obj
  have hmz : m < w2.heap.size := by obtain ⟨D, n, h, _⟩ := hp2.map; exact h.lt
  have HNE := Lib.hid (show p ≠ o ∧ p ≠ m ∧ hi2 ≤ p ∧ p < W3.heap.size ∧ w1.heap.size ≤ o ∧ w1.heap.size ≤ m ∧ w1.heap.size ≤ p ∧ o < W3.heap.size ∧ m < W3.heap.size from ⟨by omega, by omega, by rw [hp]; exact hp2.le, hq3.lt, ho2, hm2, by have := hb2.size; omega, Nat.lt_of_lt_of_le hoz hb3.size, Nat.lt_of_lt_of_le hmz hb3.size⟩)
  have HP3 := Lib.hid (hp2.below hb3)
  have HR3 := Lib.hid (below_row (hb2.trans (hb3.mono hb2.size)) HR1.out HR1.out.lt)
  have HB3 := Lib.hid (HB1.out.trans ((hb2.trans (hb3.mono hb2.size)).mono (by have := HZ1.out; omega)))
  have HQ3 := Lib.hid hq3
  have HW3 := Lib.hid hW3
  have HPE := Lib.hid hp
  clear hp2 ho2 hm2 hb2 hW3 hb3 hq3 hoz hmz hp
  go_upto_region 5 with fail
  rw [← HW3.out, ← HPE.out]
  go_wp2_with fail
  refine (snapParts W3).mono ?_
  rintro e w4 ⟨bp, rfl, hbp, hbz, hb4⟩
  have HP4 := Lib.hid (HP3.out.below hb4)
  have HR4 := Lib.hid (below_row hb4 HR3.out HR3.out.lt)
  have HQ4 := Lib.hid (below_row hb4 HQ3.out HQ3.out.lt)
  have HBW4 := Lib.hid (HB3.out.trans (hb4.mono HB3.out.size))
  have HBP := Lib.hid hbp
  have HZ := Lib.hid (show w.heap.size + 2 ≤ o ∧ w.heap.size + 2 ≤ m ∧ w.heap.size + 2 ≤ p ∧ o < bp ∧ m < bp ∧ p < bp ∧ bp < w4.heap.size ∧ w.heap.size ≤ w4.heap.size from by have := HNE.out; have := HZ1.out; have := heap_lt hbp; omega)
  clear hbp hbz hb4 HP3 HR3 HQ3 HB3
  go_wp2
  go_loopw [7, 17] (fun _ i wr => Touch (fun b => b = o ∨ b = m ∨ b = p) w4 wr ∧ ((i = .int .i64 0 ∧ PickAt o m lo2 hi2 u an2 ai2 cn2 ci2 ⟨[], 0⟩ wr ∧ wr.rowIs p 24 3 (pick3 (.int .i64 0) (.int .i64 0) (.slice none 0 0))) ∨ (i = .int .i64 1 ∧ PickAt o m lo2 hi2 u an2 ai2 cn2 ci2 (tyS u ⟨[], 0⟩) wr ∧ wr.rowIs p 24 3 (pick3 (.int .i64 0) (.int .i64 0) (.slice none 0 0))) ∨ (i = .int .i64 2 ∧ PickAt o m lo2 hi2 u an2 ai2 cn2 ci2 (stB u).2 wr ∧ wr.rowIs p 24 3 (pick3 (.int .i64 (stB u).1) (.int .i64 0) (.slice none 0 0))) ∨ (i = .int .i64 3 ∧ PickAt o m lo2 hi2 u an2 ai2 cn2 ci2 ((stC u).2.fail (stR u).2) wr ∧ wr.rowIs p 24 3 (pick3 (.int .i64 (stB u).1) (.int .i64 (stR u).1) (.slice none 0 0))) ∨ (i = .int .i64 4 ∧ PickAt o m lo2 hi2 u an2 ai2 cn2 ci2 (stG u).2 wr ∧ ∃ vs, wr.rowIs p 24 3 (pick3 (.int .i64 (stB u).1) (.int .i64 (stR u).1) vs) ∧ ∃ qs, PinsOwn w4.heap.size wr vs qs ∧ qs.map (·.1) = (stG u).1))) (fun _ i _ => 4 - (intOf i).toNat)
  case atStart => exact ⟨Touch.refl _ _, .inl ⟨rfl, HP4.out, HQ4.out⟩⟩
  case round =>
    obtain ⟨ht, hcase⟩ := hrel
    have HTr := Lib.hid ht
    have HBr := Lib.hid ((ht.block bp (by have := HZ.out; omega) (fun h => by have := HZ.out; omega)).trans HBP.out)
    clear ht
    rcases hcase with ⟨rfl, hp, hrw⟩ | ⟨rfl, hp, hrw⟩ | ⟨rfl, hp, hrw⟩ | ⟨rfl, hp, hrw⟩ | ⟨rfl, hp, vs, hrw, qs, hown, hqs⟩
    · have HPr := Lib.hid hp
      have HRr := Lib.hid hrw
      obtain ⟨W7, hW7⟩ : ∃ W7, W7 = wr.alloc (.cells #[.func (.func 113) #[] #[]] 105) := ⟨_, rfl⟩
      have hb7 : Below wr.heap.size wr W7 := by rw [hW7]; exact (Below.refl _ _).alloc (Nat.le_refl _) _
      have hx7 : W7.heap[wr.heap.size]? = some (.cells #[.func (.func 113) #[] #[]] 105 (0, 0)) := by rw [hW7]; exact heap_alloc_new wr _
      have HP7 := Lib.hid (hp.below hb7)
      have HR7 := Lib.hid (below_row hb7 hrw hrw.lt)
      have HB7 := Lib.hid hb7
      have y0 : W7.cell? ⟨wr.heap.size, 0, none⟩ = some (.func (.func 113) #[] #[]) := box_cell hx7 rfl
      have HW7 := Lib.hid hW7
      have z0 : wr.cell? ⟨bp, 0, none⟩ = some (.func (.func 113) #[] #[]) := box_cell HBr.out rfl
      have HC := Lib.hid (snapParseType o m lo2 hi2 p u an2 ai2 cn2 ci2 ⟨[], 0⟩ W7 HP7.out (by simp))
      clear hb7 hx7 hW7 hp hrw
      go_upto_region 8 with fail
      rw [← HW7.out]
      clear z0
      go_wp2_with fail
      refine HC.out.mono ?_
      clear HC y0
      rintro r w8 ⟨rfl, h8, ht8⟩
      have HT8 := Lib.hid (show Touch (fun b => b = o ∨ b = m ∨ b = p) w4 w8 from HTr.out.trans ((Touch.of_below HB7.out (Nat.le_refl _)).trans (ht8.mono (fun k _ h => h.elim .inl (fun h => .inr (.inl h))))))
      have H8 := Lib.hid h8
      have HR8 := Lib.hid (ht8.row HR7.out (by have := HNE.out; omega))
      clear h8 ht8
      go_wp2
      go_roundw
      case rel => exact ⟨HT8.out, .inr (.inl ⟨rfl, H8.out, HR8.out⟩)⟩
      case measure => simp [intOf]
    · have HPr := Lib.hid hp
      have HRr := Lib.hid hrw
      obtain ⟨W7, hW7⟩ : ∃ W7, W7 = wr.alloc (.cells #[.func (.func 114) #[] #[]] 105) := ⟨_, rfl⟩
      have hb7 : Below wr.heap.size wr W7 := by rw [hW7]; exact (Below.refl _ _).alloc (Nat.le_refl _) _
      have hx7 : W7.heap[wr.heap.size]? = some (.cells #[.func (.func 114) #[] #[]] 105 (0, 0)) := by rw [hW7]; exact heap_alloc_new wr _
      have HP7 := Lib.hid (hp.below hb7)
      have HR7 := Lib.hid (below_row hb7 hrw hrw.lt)
      have HB7 := Lib.hid hb7
      have y0 : W7.cell? ⟨wr.heap.size, 0, none⟩ = some (.func (.func 114) #[] #[]) := box_cell hx7 rfl
      have HW7 := Lib.hid hW7
      have z0 : wr.cell? ⟨bp, 1, none⟩ = some (.func (.func 114) #[] #[]) := box_cell HBr.out rfl
      have HC := Lib.hid (snapParseVersion o m lo2 hi2 p u an2 ai2 cn2 ci2 (tyS u ⟨[], 0⟩) _ _ _ W7 HP7.out (by have := HLN.out.1; omega) HR7.out HNE.out.1 HNE.out.2.1 HNE.out.2.2.1)
      clear hb7 hx7 hW7 hp hrw
      go_upto_region 8 with fail
      rw [← HW7.out]
      clear z0
      go_wp2_with fail
      refine HC.out.mono ?_
      clear HC y0
      rintro r w8 ⟨rfl, h8, hr8, ht8⟩
      have HT8 := Lib.hid (show Touch (fun b => b = o ∨ b = m ∨ b = p) w4 w8 from HTr.out.trans ((Touch.of_below HB7.out (Nat.le_refl _)).trans (ht8)))
      have H8 := Lib.hid h8
      have HR8 := Lib.hid (hr8)
      clear h8 ht8 hr8
      go_wp2
      go_roundw
      case rel => exact ⟨HT8.out, .inr (.inr (.inl ⟨rfl, H8.out, HR8.out⟩))⟩
      case measure => simp [intOf]
    · have HPr := Lib.hid hp
      have HRr := Lib.hid hrw
      obtain ⟨W7, hW7⟩ : ∃ W7, W7 = wr.alloc (.cells #[.func (.func 115) #[] #[]] 105) := ⟨_, rfl⟩
      have hb7 : Below wr.heap.size wr W7 := by rw [hW7]; exact (Below.refl _ _).alloc (Nat.le_refl _) _
      have hx7 : W7.heap[wr.heap.size]? = some (.cells #[.func (.func 115) #[] #[]] 105 (0, 0)) := by rw [hW7]; exact heap_alloc_new wr _
      have HP7 := Lib.hid (hp.below hb7)
      have HR7 := Lib.hid (below_row hb7 hrw hrw.lt)
      have HB7 := Lib.hid hb7
      have y0 : W7.cell? ⟨wr.heap.size, 0, none⟩ = some (.func (.func 115) #[] #[]) := box_cell hx7 rfl
      have HW7 := Lib.hid hW7
      have z0 : wr.cell? ⟨bp, 2, none⟩ = some (.func (.func 115) #[] #[]) := box_cell HBr.out rfl
      have HC := Lib.hid (snapParseExpires o m lo2 hi2 p u an2 ai2 cn2 ci2 (stB u).2 _ _ _ W7 HP7.out (by have := HLN.out.2.1; omega) HR7.out HNE.out.1 HNE.out.2.1 HNE.out.2.2.1 (HTW.out.below (HBW4.out.trans (HTr.out.below (by have := HZ.out; omega) (fun k hk e => by have := HZ.out; omega) |>.trans (HB7.out.mono (by have := HZ.out; have := HTr.out.size; omega))))) (by have := HZ.out; have := HTW.out.lt; omega) (by have := HZ.out; have := HTW.out.lt; omega))
      clear hb7 hx7 hW7 hp hrw
      go_upto_region 8 with fail
      rw [← HW7.out]
      clear z0
      go_wp2_with fail
      refine HC.out.mono ?_
      clear HC y0
      rintro r w8 ⟨rfl, h8, hr8, ht8⟩
      have HT8 := Lib.hid (show Touch (fun b => b = o ∨ b = m ∨ b = p) w4 w8 from HTr.out.trans ((Touch.of_below HB7.out (Nat.le_refl _)).trans (ht8)))
      have H8 := Lib.hid h8
      have HR8 := Lib.hid (hr8)
      clear h8 ht8 hr8
      go_wp2
      go_roundw
      case rel => exact ⟨HT8.out, .inr (.inr (.inr (.inl ⟨rfl, H8.out, HR8.out⟩)))⟩
      case measure => simp [intOf]
    · have HPr := Lib.hid hp
      have HRr := Lib.hid hrw
      obtain ⟨W7, hW7⟩ : ∃ W7, W7 = wr.alloc (.cells #[.func (.func 116) #[] #[]] 105) := ⟨_, rfl⟩
      have hb7 : Below wr.heap.size wr W7 := by rw [hW7]; exact (Below.refl _ _).alloc (Nat.le_refl _) _
      have hx7 : W7.heap[wr.heap.size]? = some (.cells #[.func (.func 116) #[] #[]] 105 (0, 0)) := by rw [hW7]; exact heap_alloc_new wr _
      have HP7 := Lib.hid (hp.below hb7)
      have HR7 := Lib.hid (below_row hb7 hrw hrw.lt)
      have HB7 := Lib.hid hb7
      have y0 : W7.cell? ⟨wr.heap.size, 0, none⟩ = some (.func (.func 116) #[] #[]) := box_cell hx7 rfl
      have HW7 := Lib.hid hW7
      have z0 : wr.cell? ⟨bp, 3, none⟩ = some (.func (.func 116) #[] #[]) := box_cell HBr.out rfl
      have HC := Lib.hid (snapParseMetaG o m lo2 hi2 p u an2 ai2 cn2 ci2 ((stC u).2.fail (stR u).2) _ _ W7 HP7.out (by rw [fail_len]; have := HLN.out.2.2; omega) HR7.out HNE.out.1 HNE.out.2.1 HNE.out.2.2.1 (by have := HTr.out.size; have := HZ.out; have := HB7.out.size; omega) HH.out.1 HH.out.2.1 HH.out.2.2.1 HH.out.2.2.2)
      clear hb7 hx7 hW7 hp hrw
      go_upto_region 8 with fail
      rw [← HW7.out]
      clear z0
      go_wp2_with fail
      refine HC.out.mono ?_
      clear HC y0
      rintro r w8 ⟨vs, qs, rfl, h8, hr8, ho8, hqs, ht8⟩
      have HT8 := Lib.hid (show Touch (fun b => b = o ∨ b = m ∨ b = p) w4 w8 from HTr.out.trans ((Touch.of_below HB7.out (Nat.le_refl _)).trans (ht8)))
      have H8 := Lib.hid h8
      have HR8 := Lib.hid (hr8)
      have HO8 := Lib.hid (show PinsOwn w4.heap.size w8 vs qs from ho8.mono (by have := HTr.out.size; have := HB7.out.size; omega))
      have HQS := Lib.hid (show qs.map (·.1) = (stG u).1 from hqs)
      clear hqs
      clear h8 ht8 hr8 ho8
      go_wp2
      go_roundw
      case rel => exact ⟨HT8.out, .inr (.inr (.inr (.inr ⟨rfl, H8.out, vs, HR8.out, qs, HO8.out, HQS.out⟩)))⟩
      case measure => simp [intOf]
    · have HDO := Lib.hid (pickDoneF o m lo2 hi2 u an2 ai2 cn2 ci2 (stG u).2 wr hp HTS.out)
      have HRW := Lib.hid hrw
      have HOW := Lib.hid hown
      have HQ := Lib.hid hqs
      have HRR := Lib.hid (HTr.out.row HR4.out (by have := HZ.out; omega))
      have HBE := Lib.hid (HBW4.out.trans (HTr.out.below (by have := HZ.out; omega) (fun k hk e => by have := HZ.out; omega)))
      obtain ⟨dn, hdn⟩ : ∃ dn, dn = pickDone u (stG u).2 := ⟨_, rfl⟩
      rw [← hdn] at HDO
      have HDN := Lib.hid hdn
      clear hp hrw hown hdn hqs
      go_wp2_with fail
      refine HDO.out.mono ?_
      clear HDO
      rintro e w' ⟨rfl, h'⟩
      subst w'
      by_cases hd : dn = 0
      · have HX := Lib.hid (show snapOfK u = (⟨(stB u).1, (stR u).1, (stG u).1⟩, 0) by unfold snapOfK; rw [← HDN.out, hd]; rfl)
        obtain ⟨sv, cv, rfl⟩ := owns_slice HOW.out.own
        subst hd
        have hr := HRR.out; have hq := HRW.out
        have t0 := hr.cell (i := 0) (by decide); have t1 := hr.cell (i := 1) (by decide); have t2 := hr.cell (i := 2) (by decide)
        have s0 := hr.frozen 0; have s1 := hr.frozen 1; have s2 := hr.frozen 2
        have z0 := hq.cell (i := 0) (by decide); have z1 := hq.cell (i := 1) (by decide); have z2 := hq.cell (i := 2) (by decide)
        simp only [pick3] at t0 t1 t2 z0 z1 z2
        clear hr hq
        go_wp2
        refine bodyPost_ret (results_row_tmp Tryz.results34 _ _ (w.heap.size + 1) 24 _ (0, 0) _ rfl (row3_heap (set3 _ _ _ HRR.out)) Tryz.underlying24 rfl (by kernel_rfl) _ rfl) rfl ?_
        have hl : qs.length = (stG u).1.length := by rw [← HQ.out, List.length_map]
        have hown := PinsOwn.mono (B := w4.heap.size) (B' := w.heap.size) (HOW.out.touch ((((Touch.refl (fun b => b = w.heap.size + 1) wr).setCell (p := ⟨w.heap.size + 1, 0, none⟩) (.inl rfl) (.int .i64 (stB u).1)).setCell (p := ⟨w.heap.size + 1, 1, none⟩) (.inl rfl) (.int .i64 (stR u).1)).setCell (p := ⟨w.heap.size + 1, 2, none⟩) (.inl rfl) (.slice sv qs.length cv)) (fun k hk e => by have := HZ.out; omega)) (by have := HZ.out; omega)
        refine ⟨u, qs, sv, cv, HCU.out, ?_, ?_, ?_, below3 _ _ _ HBE.out (by omega)⟩
        · rw [HX.out, hl]; rfl
        · rw [HX.out]
          show PinsOwn _ _ (.slice sv (stG u).1.length cv) qs
          rw [← hl]
          exact hown
        · rw [HX.out]; exact HQ.out
      · have HX := Lib.hid (show snapOfK u = (snapZ, dn) by unfold snapOfK; rw [← HDN.out]; simp [hd])
        have hd1 : (dn == 0) = false := by simpa using hd
        have hd2 : (dn != 0) = true := by simpa using hd
        clear hd
        have hr := HRR.out
        have t0 := hr.cell (i := 0) (by decide); have t1 := hr.cell (i := 1) (by decide); have t2 := hr.cell (i := 2) (by decide)
        have s0 := hr.frozen 0; have s1 := hr.frozen 1; have s2 := hr.frozen 2
        simp only [pick3] at t0 t1 t2
        clear hr
        go_wp2
        refine bodyPost_ret (results_row_tmp Tryz.results34 _ _ (w.heap.size + 1) 24 _ (0, 0) _ rfl (row3_heap (set3 _ _ _ HRR.out)) Tryz.underlying24 rfl (by kernel_rfl) _ rfl) rfl ?_
        refine ⟨u, [], none, 0, HCU.out, ?_, ?_, ?_, below3 _ _ _ HBE.out (by omega)⟩
        · rw [HX.out]; rfl
        · rw [HX.out]; exact PinsOwn.nil _ _
        · rw [HX.out]; rfl
end Go.Proofs.YtgghgcilpfdbjaaGreatDoor

namespace Go.Proofs.YtgghgcilpfdbjaaGreatDoor
open Go.RowKit

/-- Names with their values that make an object. -/
def okN (N : List NJ) : Prop := rises (N.map (·.1)) = true ∧ ∀ p ∈ N, txtOk p.1 = true ∧ p.2.partB = true
def objJ (N : List NJ) : JV := .mk 5 0 { data := #[] } (N.map (·.1)) (N.map (·.2))
theorem parts_all : ∀ l : List JV, (∀ x ∈ l, x.partB = true) → JV.partsB l = true
  | [], _ => rfl
  | x :: r, h => by rw [JV.partsB, h x (List.mem_cons_self ..), parts_all r fun y hy => h y (List.mem_cons_of_mem _ hy)]; rfl
theorem objJ_part {N : List NJ} (h : okN N) : (objJ N).partB = true := by
  rw [JV.partB_eq]
  have h1 : properB 5 0 { data := #[] } (N.map (·.1)) (N.map (·.2)).length = true := by
    unfold properB
    rw [if_neg (by decide), if_neg (by decide), if_neg (by decide), if_neg (by decide), if_pos rfl, h.1]
    have h2 : ({ data := #[] } : ByteArray).toList = [] := by rw [ByteArray.toList_eq]
    have h3 : (N.map (·.1)).all txtOk = true := by
      rw [List.all_eq_true]
      intro x hx
      obtain ⟨p, hp, rfl⟩ := List.mem_map.1 hx
      exact (h.2 p hp).1
    rw [h3]
    simp [h2]
  show (properB 5 0 { data := #[] } (N.map (·.1)) (N.map (·.2)).length && JV.partsB (N.map (·.2))) = true
  rw [h1, parts_all _ fun x hx => by obtain ⟨p, hp, rfl⟩ := List.mem_map.1 hx; exact (h.2 p hp).2]
  rfl
theorem txtJ_part {t : ByteArray} (h : txtOk t = true) : (txtJ t).partB = true := by
  rw [JV.partB_eq]
  show (properB 3 0 t [] 0 && JV.partsB []) = true
  unfold properB
  rw [if_neg (by decide), if_neg (by decide), if_pos rfl, h]
  rfl
theorem numJ_part (n : Int) : (numJ n).partB = true := by
  rw [JV.partB_eq]
  show (properB 2 n { data := #[] } [] 0 && JV.partsB []) = true
  unfold properB
  rw [if_neg (by decide), if_pos rfl]
  have h2 : ({ data := #[] } : ByteArray).toList = [] := by rw [ByteArray.toList_eq]
  simp [h2, JV.partsB]
theorem counts_le (b : Nat) : ∀ l : List JV, (∀ x ∈ l, x.count ≤ b) → JV.counts l ≤ l.length * b
  | [], _ => by simp [JV.counts]
  | x :: r, h => by
    have h1 := h x (List.mem_cons_self ..)
    have h2 := counts_le b r fun y hy => h y (List.mem_cons_of_mem _ hy)
    rw [JV.counts, List.length_cons, Nat.succ_mul]; omega
theorem depths_le2 (b : Nat) : ∀ l : List JV, (∀ x ∈ l, x.depth ≤ b) → JV.depths l ≤ b
  | [], _ => by simp [JV.depths]
  | x :: r, h => by
    have h1 := h x (List.mem_cons_self ..)
    have h2 := depths_le2 b r fun y hy => h y (List.mem_cons_of_mem _ hy)
    rw [JV.depths]; omega
theorem objJ_count {N : List NJ} (b : Nat) (h : ∀ p ∈ N, p.2.count ≤ b) : (objJ N).count ≤ 1 + N.length * b := by
  rw [JV.count_eq]
  have := counts_le b (N.map (·.2)) fun x hx => by obtain ⟨p, hp, rfl⟩ := List.mem_map.1 hx; exact h p hp
  rw [List.length_map] at this
  show 1 + JV.counts (N.map (·.2)) ≤ _
  omega
theorem objJ_depth {N : List NJ} (b : Nat) (h : ∀ p ∈ N, p.2.depth ≤ b) : (objJ N).depth ≤ b + 1 := by
  rw [JV.depth_eq]
  have := depths_le2 b (N.map (·.2)) fun x hx => by obtain ⟨p, hp, rfl⟩ := List.mem_map.1 hx; exact h p hp
  rw [if_neg (by simp [objJ, JV.kind])]
  show JV.depths (N.map (·.2)) + 1 ≤ _
  omega
theorem txtJ_cd (t : ByteArray) : (txtJ t).count = 1 ∧ (txtJ t).depth = 0 := by
  rw [JV.count_eq, JV.depth_eq]; exact ⟨rfl, rfl⟩
theorem numJ_cd (n : Int) : (numJ n).count = 1 ∧ (numJ n).depth = 0 := by
  rw [JV.count_eq, JV.depth_eq]; exact ⟨rfl, rfl⟩
theorem hashJ_obj (l : List Key2) : hashJ l = objJ (hashN l) := by simp [hashJ, objJ, hashN]
theorem hashJ_ok {l : List Key2} (h : mayHashes l = true) : (hashJ l).partB = true ∧ (hashJ l).count ≤ 5 ∧ (hashJ l).depth ≤ 1 := by
  obtain ⟨hl, hok, hr⟩ := mayHashes_parts h
  have hp : ∀ p ∈ hashN l, txtOk p.1 = true ∧ p.2.partB = true ∧ p.2.count ≤ 1 ∧ p.2.depth ≤ 0 := fun p hp => by
    obtain ⟨k, hk, rfl⟩ := List.mem_map.1 hp
    obtain ⟨h1, h2⟩ := hok k hk
    have := txtJ_cd k.2
    exact ⟨role_txt h1, txtJ_part (pub_txt h2), Nat.le_of_eq this.1, Nat.le_of_eq this.2⟩
  rw [hashJ_obj]
  refine ⟨objJ_part ⟨by rw [hashN_1]; exact hr, fun p h => ⟨(hp p h).1, (hp p h).2.1⟩⟩, ?_, objJ_depth 0 fun p h => (hp p h).2.2.2⟩
  have := objJ_count 1 fun p h => (hp p h).2.2.1
  rw [hashN_len] at this
  omega
theorem hashes_back {l : List Key2} (h : mayHashes l = true) : hashesOfJ (hashJ l) = (l, 0) := by
  obtain ⟨hl, hok, hr⟩ := mayHashes_parts h
  obtain ⟨h1, h2, h3⟩ := hashJ_ok h
  have hm : (hashJ l).mayB = true := by rw [JV.mayB_iff, h1, decide_eq_true (by omega), decide_eq_true (by omega)]; rfl
  have hn : (hashJ l).names.length = l.length := List.length_map ..
  unfold hashesOfJ
  rw [if_neg (by rw [hm]; decide), if_neg (by simp [hashJ, JV.kind]), if_neg (by omega), if_neg (by omega)]
  exact hashLoop_back l [] hok
theorem names_txt : txtOk hasN = true ∧ txtOk lenN = true ∧ txtOk verN = true ∧ txtOk typN = true ∧ txtOk expN = true ∧ txtOk metN = true ∧ txtOk snpN = true := by
  refine ⟨?_, ?_, ?_, ?_, ?_, ?_, ?_⟩
  all_goals
    refine txtOk_plain ?_ (by decide)
    intro c hc
    unfold plainC
    revert c
    decide
theorem names_ne : (hasN ≠ lenN ∧ hasN ≠ verN ∧ lenN ≠ verN) ∧ (lenN ≠ hasN ∧ verN ≠ hasN ∧ verN ≠ lenN) ∧ (typN ≠ expN ∧ typN ≠ metN ∧ typN ≠ verN ∧ expN ≠ metN ∧ expN ≠ verN ∧ metN ≠ verN) := by decide
theorem pinJ_obj (p : PinV) : pinJ p = objJ (pinM p) := rfl
theorem pinM_mem {p : PinV} {q : NJ} (h : q ∈ pinM p) : (q = (hasN, hashJ p.hs) ∧ p.hs ≠ []) ∨ (q = (lenN, numJ p.len) ∧ p.len ≠ -1) ∨ q = (verN, numJ p.ver) := by
  unfold pinM at h
  simp only [List.mem_append, List.mem_singleton] at h
  rcases h with (h | h) | h
  · cases hp : p.hs with
    | nil => rw [hp] at h; simp at h
    | cons a r => rw [hp] at h; exact .inl ⟨by simpa using h, by simp⟩
  · by_cases hl : p.len = -1
    · rw [if_pos hl] at h; simp at h
    · rw [if_neg hl] at h; exact .inr (.inl ⟨by simpa using h, hl⟩)
  · exact .inr (.inr h)
theorem pinM_rises (p : PinV) : rises ((pinM p).map (·.1)) = true ∧ (pinM p).length ≤ 3 := by
  unfold pinM
  have r1 : rises [hasN, lenN, verN] = true := names_3
  have r2 : rises [hasN, verN] = true := names_2
  have r3 : rises [lenN, verN] = true := by kernel_rfl
  have r4 : rises [verN] = true := rfl
  cases hp : p.hs with
  | nil =>
    by_cases hl : p.len = -1
    · simp [hl, r4]
    · simp [hl, r3]
  | cons a r =>
    by_cases hl : p.len = -1
    · simp [hl, r2]
    · simp [hl, r1]
theorem pinJ_ok {p : PinV} (h : mayPin p = true) : (pinJ p).partB = true ∧ (pinJ p).count ≤ 16 ∧ (pinJ p).depth ≤ 2 := by
  obtain ⟨_, _, _, hh⟩ := mayPin_parts h
  obtain ⟨n1, n2, n3, _⟩ := names_txt
  have hp : ∀ q ∈ pinM p, txtOk q.1 = true ∧ q.2.partB = true ∧ q.2.count ≤ 5 ∧ q.2.depth ≤ 1 := fun q hq => by
    rcases pinM_mem hq with ⟨rfl, h0⟩ | ⟨rfl, _⟩ | rfl
    · obtain ⟨a, b, c⟩ := hashJ_ok (hh.resolve_left h0)
      exact ⟨n1, a, b, c⟩
    · have := numJ_cd p.len
      exact ⟨n2, numJ_part _, Nat.le_trans (Nat.le_of_eq this.1) (by decide), Nat.le_trans (Nat.le_of_eq this.2) (by decide)⟩
    · have := numJ_cd p.ver
      exact ⟨n3, numJ_part _, Nat.le_trans (Nat.le_of_eq this.1) (by decide), Nat.le_trans (Nat.le_of_eq this.2) (by decide)⟩
  obtain ⟨hr, hl⟩ := pinM_rises p
  rw [pinJ_obj]
  refine ⟨objJ_part ⟨hr, fun q hq => ⟨(hp q hq).1, (hp q hq).2.1⟩⟩, ?_, objJ_depth 1 fun q hq => (hp q hq).2.2.2⟩
  have := objJ_count 5 fun q hq => (hp q hq).2.2.1
  omega
theorem pinJ_may {p : PinV} (h : mayPin p = true) : (pinJ p).mayB = true := by
  obtain ⟨h1, h2, h3⟩ := pinJ_ok h
  rw [JV.mayB_iff, h1, decide_eq_true (by omega), decide_eq_true (by omega)]; rfl
theorem pinJ_look (p : PinV) : (pinJ p).look verN = some (numJ p.ver) ∧ (pinJ p).look lenN = (if p.len = -1 then none else some (numJ p.len)) ∧ (pinJ p).look hasN = (if p.hs = [] then none else some (hashJ p.hs)) := by
  obtain ⟨⟨a1, a2, a3⟩, ⟨b1, b2, b3⟩, _⟩ := names_ne
  cases hp : p.hs with
  | nil =>
    by_cases hl : p.len = -1 <;> simp [JV.look, pinJ, pinM, hp, hl, lookL, JV.names, JV.items, a3, b1, b2, b3]
  | cons a r =>
    by_cases hl : p.len = -1 <;> simp [JV.look, pinJ, pinM, hp, hl, lookL, JV.names, JV.items, a1, a2, a3, b3]
theorem pinJ_names (p : PinV) : (pinJ p).names = (if p.hs = [] then [] else [hasN]) ++ (if p.len = -1 then [] else [lenN]) ++ [verN] := by
  cases hp : p.hs with
  | nil => by_cases hl : p.len = -1 <;> simp [pinJ, pinM, hp, hl, JV.names]
  | cons a r => by_cases hl : p.len = -1 <;> simp [pinJ, pinM, hp, hl, JV.names]
theorem pickNum_ok {v : JV} {y : ByteArray} {n lo hi : Int} {a : List ByteArray} (h : v.look y = some (numJ n)) (h1 : lo ≤ n) (h2 : n ≤ hi) : pickNum v y lo hi ⟨a, 0⟩ = (n, ⟨y :: a, 0⟩) := by
  unfold pickNum
  rw [if_neg (by simp), h]
  show (if (2 : Int) ≠ 2 then _ else if n < lo ∨ hi < n then _ else _) = _
  rw [if_neg (by decide), if_neg (by omega)]
  rfl
/-- The pin of a pin's object is the pin. -/
theorem pin_back {p : PinV} (h : mayPin p = true) : pinOfA p.name (pinJ p) = (p, 0) := by
  obtain ⟨hf, hv, hl, hh⟩ := mayPin_parts h
  obtain ⟨l1, l2, l3⟩ := pinJ_look p
  have hr : (roleOf p.name).isNone = false := by cases hq : roleOf p.name with | none => rw [hq] at hf; cases hf | some _ => rfl
  unfold pinOfA
  rw [hr, pinJ_may h, if_neg (by decide), if_neg (by simp [pinJ, JV.kind]), pinOfK_eq, pickNum_ok l1 hv.1 hv.2]
  dsimp only
  have e2 : lenSt (pinJ p) ⟨[verN], 0⟩ = (p.len, ⟨(if p.len = -1 then [verN] else [lenN, verN]), 0⟩) := by
    unfold lenSt pickHas
    by_cases hn : p.len = -1
    · rw [l2, if_pos hn]; simp [hn]
    · rw [l2, if_neg hn, if_pos (by simp), if_neg hn]
      exact pickNum_ok (by rw [l2, if_neg hn]) (by omega) hl.2
  rw [e2]
  dsimp only
  generalize hA : (if p.len = -1 then [verN] else [lenN, verN]) = A
  have e3 : hasSt (pinJ p) ⟨A, 0⟩ = (p.hs, ⟨(if p.hs = [] then A else hasN :: A), 0⟩) := by
    unfold hasSt pickHas
    by_cases hn : p.hs = []
    · rw [l3, if_pos hn]; simp [hn]
    · have hm := hh.resolve_left hn
      have e4 : pickObj (pinJ p) hasN 4 ⟨A, 0⟩ = (hashJ p.hs, ⟨hasN :: A, 0⟩) := by
        unfold pickObj
        rw [if_neg (by simp), l3, if_neg hn]
        have h4 := (mayHashes_parts hm).1.2
        have h5 : (hashJ p.hs).items.length = p.hs.length := List.length_map ..
        show (if (hashJ p.hs).kind ≠ 5 then _ else if 4 < (hashJ p.hs).items.length then _ else _) = _
        rw [if_neg (by simp [hashJ, JV.kind]), if_neg (by omega)]
      rw [l3, if_neg hn, if_pos (by simp), e4, hashes_back hm, if_neg hn]
      rfl
  rw [e3]
  dsimp only
  have e5 : pickDone (pinJ p) ⟨(if p.hs = [] then A else hasN :: A), 0⟩ = 0 := by
    unfold pickDone
    rw [if_neg (by simp), if_pos]
    rw [pinJ_names, ← hA]
    by_cases hn : p.hs = [] <;> by_cases hn2 : p.len = -1 <;> simp [hn, hn2]
  rw [e5, if_neg (by decide)]
end Go.Proofs.YtgghgcilpfdbjaaGreatDoor

namespace Go.Proofs.YtgghgcilpfdbjaaGreatDoor
open Go.RowKit

def dateB (n : Int) : ByteArray := ⟨(dateL n.toNat).toArray⟩
theorem date_txt {n : Int} (h : 0 ≤ n ∧ n ≤ 253402300799) : txtOk (dateB n) = true ∧ readD (dateB n).data.toList = (n, 0) := by
  obtain ⟨h1, h2⟩ := date_bytes n.toNat (by omega)
  have h3 := read_date n.toNat (by omega)
  have e : (dateB n).data.toList = dateL n.toNat := rfl
  refine ⟨txtOk_plain (fun c hc => ?_) ?_, ?_⟩
  · rw [e] at hc
    unfold plainC
    rcases h2 c hc with h | rfl | rfl | rfl
    · omega
    · decide
    · decide
    · decide
  · have : (dateB n).size = (dateL n.toNat).length := by simp [dateB, ByteArray.size]
    omega
  · rw [e, h3, Int.toNat_of_nonneg h.1]
theorem meta_back : ∀ (l acc : List PinV) (st : PS), l.all mayPin = true → metaG (l.map (·.name)) (l.map pinJ) st acc = (acc ++ l, st)
  | [], acc, st, _ => by simp [metaG]
  | p :: r, acc, st, h => by
    simp only [List.all_cons, Bool.and_eq_true] at h
    simp only [List.map_cons, metaG]
    rw [pin_back h.1, if_neg (by simp), meta_back r _ st h.2]
    simp
def metN_ (l : List PinV) : List NJ := l.map fun p => (p.name, pinJ p)
theorem metaJ_obj (l : List PinV) : metaJ l = objJ (metN_ l) := by simp [metaJ, objJ, metN_]
theorem json_plain : ∀ c ∈ json, plainC c := by unfold plainC json; decide
theorem file_txt {f : ByteArray} (h : (roleOf f).isSome = true) : txtOk f = true := by
  obtain ⟨r, hr⟩ := Option.isSome_iff_exists.1 h
  obtain ⟨h1, h2⟩ := role_name hr
  have hs := file_size h
  refine txtOk_plain (fun c hc => ?_) (by omega)
  rw [h2] at hc
  rcases List.mem_append.1 hc with hc | hc
  · exact (role_plain h1).1 c hc
  · exact json_plain c hc
theorem metaJ_ok {l : List PinV} (h : l.all mayPin = true) (hl : l.length ≤ 256) (hr : rises (l.map (·.name)) = true) : (metaJ l).partB = true ∧ (metaJ l).count ≤ 4097 ∧ (metaJ l).depth ≤ 3 := by
  have hp : ∀ q ∈ metN_ l, txtOk q.1 = true ∧ q.2.partB = true ∧ q.2.count ≤ 16 ∧ q.2.depth ≤ 2 := fun q hq => by
    obtain ⟨p, hpl, rfl⟩ := List.mem_map.1 hq
    have hm := List.all_eq_true.1 h p hpl
    obtain ⟨a, b, c⟩ := pinJ_ok hm
    exact ⟨file_txt (mayPin_parts hm).1, a, b, c⟩
  have e1 : (metN_ l).map (·.1) = l.map (·.name) := by simp [metN_]
  have e2 : (metN_ l).length = l.length := by simp [metN_]
  rw [metaJ_obj]
  refine ⟨objJ_part ⟨by rw [e1]; exact hr, fun q hq => ⟨(hp q hq).1, (hp q hq).2.1⟩⟩, ?_, objJ_depth 2 fun q hq => (hp q hq).2.2.2⟩
  have := objJ_count 16 fun q hq => (hp q hq).2.2.1
  omega
def snapM (s : SnapV) : List NJ := [(typN, txtJ snpN), (expN, txtJ (dateB s.exp)), (metN, metaJ s.pins), (verN, numJ s.ver)]
theorem snapJ_obj (s : SnapV) : snapJ s = objJ (snapM s) := rfl
theorem names_4 : rises [typN, expN, metN, verN] = true := by kernel_rfl
theorem snapJ_may {s : SnapV} (h : maySnap s = true) : (snapJ s).mayB = true := by
  obtain ⟨hv, he, hl, ha, hr⟩ := maySnap_parts.1 h
  obtain ⟨a, b, c⟩ := metaJ_ok ha hl hr
  obtain ⟨n1, n2, n3, n4, n5, n6, n7⟩ := names_txt
  have d1 := txtJ_cd snpN
  have d2 := txtJ_cd (dateB s.exp)
  have d3 := numJ_cd s.ver
  have hp : ∀ q ∈ snapM s, txtOk q.1 = true ∧ q.2.partB = true ∧ q.2.depth ≤ 3 := fun q hq => by
    simp only [snapM, List.mem_cons, List.not_mem_nil, or_false] at hq
    rcases hq with rfl | rfl | rfl | rfl
    · exact ⟨n4, txtJ_part n7, Nat.le_trans (Nat.le_of_eq d1.2) (by decide)⟩
    · exact ⟨n5, txtJ_part (date_txt he).1, Nat.le_trans (Nat.le_of_eq d2.2) (by decide)⟩
    · exact ⟨n6, a, c⟩
    · exact ⟨n3, numJ_part _, Nat.le_trans (Nat.le_of_eq d3.2) (by decide)⟩
  have h1 : (snapJ s).partB = true := by rw [snapJ_obj]; exact objJ_part ⟨names_4, fun q hq => ⟨(hp q hq).1, (hp q hq).2.1⟩⟩
  have h2 : (snapJ s).depth ≤ 4 := by rw [snapJ_obj]; exact objJ_depth 3 fun q hq => (hp q hq).2.2
  have h3 : (snapJ s).count ≤ 8192 := by
    rw [JV.count_eq]
    show 1 + JV.counts [txtJ snpN, txtJ (dateB s.exp), metaJ s.pins, numJ s.ver] ≤ _
    simp only [JV.counts, d1.1, d2.1, d3.1]
    omega
  rw [JV.mayB_iff, h1, decide_eq_true h3, decide_eq_true (by omega)]; rfl
theorem snapJ_look (s : SnapV) : (snapJ s).look typN = some (txtJ snpN) ∧ (snapJ s).look expN = some (txtJ (dateB s.exp)) ∧ (snapJ s).look metN = some (metaJ s.pins) ∧ (snapJ s).look verN = some (numJ s.ver) := by
  obtain ⟨_, _, a1, a2, a3, a4, a5, a6⟩ := names_ne
  have e : ∀ y, (snapJ s).look y = lookL [typN, expN, metN, verN] [txtJ snpN, txtJ (dateB s.exp), metaJ s.pins, numJ s.ver] y := fun _ => rfl
  refine ⟨?_, ?_, ?_, ?_⟩ <;> simp [e, lookL, a1, a2, a3, a4, a5, a6]
theorem pickText_ok {v : JV} {y t : ByteArray} {a : List ByteArray} (h : v.look y = some (txtJ t)) : pickText v y ⟨a, 0⟩ = (t, ⟨y :: a, 0⟩) := by
  unfold pickText
  rw [if_neg (by simp), h]
  show (if (3 : Int) = 3 then _ else _) = _
  rw [if_pos rfl]; rfl
theorem metaJ_pick {s : SnapV} (h : maySnap s = true) (a : List ByteArray) : pickObj (snapJ s) metN 256 ⟨a, 0⟩ = (metaJ s.pins, ⟨metN :: a, 0⟩) := by
  have hl := (maySnap_parts.1 h).2.2.1
  unfold pickObj
  rw [if_neg (by simp), (snapJ_look s).2.2.1]
  have h5 : (metaJ s.pins).items.length = s.pins.length := List.length_map ..
  show (if (metaJ s.pins).kind ≠ 5 then _ else if 256 < (metaJ s.pins).items.length then _ else _) = _
  rw [if_neg (by simp [metaJ, JV.kind]), if_neg (by omega)]
theorem snap_stM {s : SnapV} (h : maySnap s = true) : stB (snapJ s) = (s.ver, ⟨[verN, typN], 0⟩) ∧ stC (snapJ s) = (dateB s.exp, ⟨[expN, verN, typN], 0⟩) ∧ stR (snapJ s) = (s.exp, 0) ∧ stM (snapJ s) = (metaJ s.pins, ⟨[metN, expN, verN, typN], 0⟩) := by
  obtain ⟨hv, he, _, _, _⟩ := maySnap_parts.1 h
  obtain ⟨l1, l2, l3, l4⟩ := snapJ_look s
  have e1 : tyS (snapJ s) ⟨[], 0⟩ = ⟨[typN], 0⟩ := by
    unfold tyS
    rw [pickText_ok l1, if_neg (by simp)]
  have e2 : stB (snapJ s) = (s.ver, ⟨[verN, typN], 0⟩) := by
    unfold stB
    rw [e1]
    exact pickNum_ok l4 hv.1 hv.2
  have e3 : stC (snapJ s) = (dateB s.exp, ⟨[expN, verN, typN], 0⟩) := by
    unfold stC
    rw [e2]
    exact pickText_ok l2
  have e4 : stR (snapJ s) = (s.exp, 0) := by
    unfold stR
    rw [e3]
    exact (date_txt he).2
  refine ⟨e2, e3, e4, ?_⟩
  unfold stM
  rw [e3, e4]
  exact metaJ_pick h _
/-- The snapshot of a snapshot's object is the snapshot. -/
theorem snap_back {s : SnapV} (h : maySnap s = true) : snapOfK (snapJ s) = (s, 0) := by
  obtain ⟨b, c, r, m⟩ := snap_stM h
  have ha := (maySnap_parts.1 h).2.2.2.1
  have e1 : stG (snapJ s) = (s.pins, ⟨[metN, expN, verN, typN], 0⟩) := by
    unfold stG
    rw [m]
    exact meta_back s.pins [] _ ha
  have e2 : pickDone (snapJ s) (stG (snapJ s)).2 = 0 := by
    rw [e1]
    unfold pickDone
    rw [if_neg (by simp), if_pos]
    show [typN, expN, metN, verN].all _ = true
    simp
  unfold snapOfK
  rw [e2, if_neg (by decide), b, r, e1]
theorem snap_meta {s : SnapV} (h : maySnap s = true) : (stM (snapJ s)).1.names.length = (stM (snapJ s)).1.items.length := by
  rw [(snap_stM h).2.2.2]
  simp [metaJ, JV.names, JV.items]
end Go.Proofs.YtgghgcilpfdbjaaGreatDoor

namespace Go.Proofs.YtgghgcilpfdbjaaGreatDoor
open Go.RowKit

set_option maxHeartbeats 1000000 in
/-- slices.Clone of hashes. -/
theorem cloneHashesW (l : List Key2) (a : Option Addr) (c : Nat) (w : World) (hR : KeysAt w 0 w.heap.size a l) (hl : l.length ≤ 4294967296) :
    Calls Tryz.prog 52 #[.slice a l.length c] w fun e w' => ∃ a' c', e = .returned (.slice a' l.length c') ∧ KeysW w' w.heap.size w'.heap.size a' l ∧ Below w.heap.size w w' := by
  have q22 : ∀ (w : World) (a : Option Addr) (n c n' c' : Nat), (binOp .eql 34 (.slice a n c) (.slice none n' c')).run Tryz.prog w = .ok (.bool a.isNone) w := fun w a n c n' c' => Lib.run_eql_slice_nil w _ _ a n c n' c' Tryz.underlying34
  obtain ⟨i1, hi1, hy0, hy1, hy2⟩ := info_parts infoHash
  cases a with
  | none =>
    have h0 : l = [] := by
      rcases hR with h | ⟨b, off, h, _⟩
      · exact h
      · cases h
    subst h0
    go_enter Tryz.func52, Tryz.ntmps52
    go_wp2
    go_ret
    exact ⟨none, 0, rfl, KeysW.nil _ _ _ _, Below.refl _ _⟩
  | some ad =>
    have hnews : 0 < l.length → ∃ ad', some ad = some ad' ∧ ∀ j u, (l.flatMap encK)[j]? = some u → (w.alloc (.cells #[] 62)).cell? (ad'.add j) = some u := fun h0 => by
      rcases hR with h | ⟨b, off, h, _, hb, hc⟩
      · subst h; simp at h0
      · refine ⟨ad, rfl, fun j u hj => ?_⟩
        obtain ⟨hj3, hu⟩ := encK_get l j u hj
        obtain ⟨h1, h2⟩ := hc (j / 2) hj3
        cases h
        have e : (⟨b, off, none⟩ : Addr).add j = ⟨b, off + j, none⟩ := by unfold Addr.add; split <;> simp_all
        rw [e, cell_alloc_lt _ hb]
        have hm : j % 2 < 2 := Nat.mod_lt _ (by decide)
        unfold encK at hu
        rcases hq : j % 2 with _ | _ | q
        · rw [hq] at hu; simp at hu; subst hu; rw [show off + j = off + j / 2 * 2 by omega]; exact h1
        · rw [hq] at hu; simp at hu; subst hu; rw [show off + j = off + j / 2 * 2 + 1 by omega]; exact h2
        · omega
    have hlen : (l.flatMap encK).length = l.length * 2 := by
      clear hR hl hnews
      induction l with
      | nil => rfl
      | cons v r ih => rw [List.flatMap_cons, List.length_append, ih]; show 2 + r.length * 2 = (r.length + 1) * 2; omega
    have hone : ∀ u ∈ l.flatMap encK, u.oneCell' = true := fun u hu => by
      obtain ⟨v, _, hv⟩ := List.mem_flatMap.1 hu
      unfold encK at hv
      simp at hv
      rcases hv with rfl | rfl <;> rfl
    have HN := Lib.hid hnews
    have HL := Lib.hid hlen
    have HO := Lib.hid hone
    clear hnews hlen hone hR
    go_enter Tryz.func52, Tryz.ntmps52
    go_wp2_with (at_builtin; refine wpList_append_any _ rfl (.tmp 5) (.tmp 6) 34 rfl w.heap.size 62 i1 _ 2 32 Tryz.underlying34 hi1 hy0 hy1 hy2 rfl (by decide) _ 0 [] rfl (World.ownsRow_made w #[] 0 (Nat.le_refl _) (Nat.zero_le _) (by simp)) _ l.length c (l.flatMap encK) rfl HL.out HN.out HO.out ?c1 ?c2 ?c3 _ rfl ?_)
    case c1 => unfold maxLen; omega
    case c2 => omega
    case c3 => simp
    intro a2 c2 w2 hown2 hgrow2 hat2
    try simp only [Nat.zero_add] at hown2
    obtain ⟨_, _, hv, hT2⟩ := owns_keysW hown2 rfl
    simp only [Value.slice.injEq, true_and] at hv
    obtain ⟨rfl, rfl⟩ := hv
    have HT2 := Lib.hid hT2
    clear hT2
    have HB2 := Lib.hid (((Below.refl _ w).alloc (Nat.le_refl _) _).grown hgrow2 (by simp) (by intro k hk; simp [Value.ownBlock] at hk; omega))
    clear hown2 hgrow2 hat2
    go_wp2
    go_ret
    exact ⟨a2, c2, rfl, HT2.out, HB2.out⟩

def PinWPost (l : List PinV) (role : ByteArray) (w : World) (r : Ending) (w' : World) : Prop :=
  ∃ ha hc, r = .returned (.tuple #[.agg #[.string ((pinOf l role).getD pinZ).name, .int .i64 ((pinOf l role).getD pinZ).ver, .int .i64 ((pinOf l role).getD pinZ).len, .slice ha ((pinOf l role).getD pinZ).hs.length hc], .bool (pinOf l role).isSome]) ∧ KeysW w' w.heap.size w'.heap.size ha ((pinOf l role).getD pinZ).hs ∧ Below w.heap.size w w'

set_option maxHeartbeats 4000000 in
set_option maxRecDepth 100000 in
theorem snapPinW (v e : Int) (l : List PinV) (role : ByteArray) (a : Option Addr) (c : Nat) (w : World) (hP : PinsAt w 0 w.heap.size a l) (hl : l.length ≤ 9223372036854775807) (hr : role.size ≤ 1000000) (hh : ∀ p ∈ l, p.hs.length ≤ 4294967296) :
    Calls Tryz.prog 17 #[.agg #[.int .i64 v, .int .i64 e, .slice a l.length c], .string role] w (PinWPost l role w) := by
  obtain ⟨W2, hW2⟩ : ∃ W2, W2 = (w.alloc (.cells #[.int .i64 v, .int .i64 e, .slice a l.length c] 24)).alloc (.cells #[.string { data := #[] }, .int .i64 0, .int .i64 0, .slice none 0 0] 36) := ⟨_, rfl⟩
  have hb2 : Below w.heap.size w W2 := by rw [hW2]; exact ((Below.refl _ _).alloc (Nat.le_refl _) _).alloc (by simp) _
  have hz2 : W2.heap.size = w.heap.size + 2 := by rw [hW2]; simp
  have hx : W2.heap[w.heap.size]? = some (.cells #[.int .i64 v, .int .i64 e, .slice a l.length c] 24 (0, 0)) := by rw [hW2, Below.heap_alloc _ _ _ (by simp)]; exact heap_alloc_new w _
  have hr0 : W2.rowIs (w.heap.size + 1) 36 4 (pick4 (.string { data := #[] }) (.int .i64 0) (.int .i64 0) (.slice none 0 0)) := by
    have := rowIs_box4 (w.alloc (.cells #[.int .i64 v, .int .i64 e, .slice a l.length c] 24)) (.string { data := #[] }) (.int .i64 0) (.int .i64 0) (.slice none 0 0) 36
    rw [show (w.alloc (.cells #[.int .i64 v, .int .i64 e, .slice a l.length c] 24)).heap.size = w.heap.size + 1 by simp, ← hW2] at this
    exact this
  have v2 : W2.cell? ⟨w.heap.size, 2, none⟩ = some (.slice a l.length c) := box_cell hx rfl
  have HNF := Lib.hid (nameFile role W2 hr)
  have HPI := Lib.hid hP
  have HH := Lib.hid hh
  have HB2 := Lib.hid hb2
  have HR0 := Lib.hid hr0
  have HZ := Lib.hid hz2
  have HW := Lib.hid hW2
  clear hP hh hb2 hr0 hx hz2 hW2
  cases hro : roleOk role.data.toList
  · have HX := Lib.hid (show pinOf l role = none by unfold pinOf; rw [if_neg (by rw [hro]; simp)])
    rw [show fileErr role = 3 by unfold fileErr; rw [hro]; rfl] at HNF
    have hq := HR0.out
    have t0 := hq.cell (i := 0) (by decide); have t1 := hq.cell (i := 1) (by decide); have t2 := hq.cell (i := 2) (by decide); have t3 := hq.cell (i := 3) (by decide)
    have s0 := hq.frozen 0; have s1 := hq.frozen 1; have s2 := hq.frozen 2; have s3 := hq.frozen 3
    simp only [pick4] at t0 t1 t2 t3
    clear hq hro v2
    go_enter Tryz.func17, Tryz.ntmps17
    go_upto_region 1 with fail
    rw [← HW.out]
    go_wp2_with fail
    refine HNF.out.mono ?_
    rintro r w' ⟨rfl, h'⟩
    subst w'
    go_wp2
    refine bodyPost_ret (results_row_tmp Tryz.results17 _ _ (w.heap.size + 1) 36 _ (0, 0) _ rfl (row4_heap (set4 _ _ _ _ HR0.out)) Tryz.underlying36 rfl (by kernel_rfl) _ rfl) rfl ?_
    unfold PinWPost
    rw [HX.out]
    exact ⟨none, 0, rfl, KeysW.nil _ _ _ _, below4 _ _ _ _ HB2.out (by omega)⟩
  · have HRO := Lib.hid hro
    rw [show fileErr role = 0 by unfold fileErr; rw [hro]; rfl] at HNF
    obtain ⟨fl, hfl⟩ : ∃ fl, fl = fileStr role := ⟨_, rfl⟩
    rw [← hfl] at HNF
    have HFL := Lib.hid hfl
    clear hfl hro
    go_enter Tryz.func17, Tryz.ntmps17
    go_upto_region 1 with fail
    rw [← HW.out]
    go_wp2_with fail
    refine HNF.out.mono ?_
    rintro r w' ⟨rfl, h'⟩
    subst w'
    go_wp2
    clear v2
    go_loopw [9, 21] (fun _ i wr => ∃ k : Nat, k ≤ l.length ∧ i = .int .i64 k ∧ (∀ j (h : j < l.length), j < k → l[j].name ≠ fl) ∧ Below W2.heap.size W2 wr) (fun _ i _ => l.length - (intOf i).toNat)
    case atStart => exact ⟨0, by omega, rfl, fun j _ h => by omega, Below.refl _ _⟩
    case round =>
      obtain ⟨k, hk, rfl, hal, hb⟩ := hrel
      have HAL := Lib.hid hal
      have HB := Lib.hid hb
      have HBW := Lib.hid (HB2.out.trans (hb.mono HB2.out.size))
      have HRr := Lib.hid (below_row hb HR0.out HR0.out.lt)
      have HZr := Lib.hid (show w.heap.size + 2 ≤ wr.heap.size from by have := hb.size; have := HZ.out; omega)
      clear hal hb
      by_cases hlt : k < l.length
      · obtain ⟨b, off, ha, _, hbl, e0, e1, e2, gh, gc, e3, hcap, hkk⟩ := (HPI.out.below HBW.out (Nat.le_refl _) (Nat.le_refl _) HBW.out.size).at k hlt
        subst ha
        have hhk := HH.out l[k] (List.getElem_mem hlt)
        obtain ⟨p, hp⟩ : ∃ p, p = l[k] := ⟨_, rfl⟩
        rw [← hp] at e0 e1 e2 e3 hkk hhk
        have HPK := Lib.hid hp
        obtain ⟨nm, vr, ln, hs⟩ := p
        have e0 : wr.cell? ⟨b, off + k * 4, none⟩ = some (.string nm) := e0
        have e1 : wr.cell? ⟨b, off + k * 4 + 1, none⟩ = some (.int .i64 vr) := e1
        have e2 : wr.cell? ⟨b, off + k * 4 + 2, none⟩ = some (.int .i64 ln) := e2
        have e3 : wr.cell? ⟨b, off + k * 4 + 3, none⟩ = some (.slice gh hs.length gc) := e3
        obtain ⟨W4, hW4⟩ : ∃ W4, W4 = wr.alloc (.cells #[.string nm, .int .i64 vr, .int .i64 ln, .slice gh hs.length gc] 36) := ⟨_, rfl⟩
        have hb4 : Below wr.heap.size wr W4 := by rw [hW4]; exact (Below.refl _ _).alloc (Nat.le_refl _) _
        have hq4 : W4.rowIs wr.heap.size 36 4 (pick4 (.string nm) (.int .i64 vr) (.int .i64 ln) (.slice gh hs.length gc)) := by rw [hW4]; exact rowIs_box4 _ _ _ _ _ _
        have HCL := Lib.hid (cloneHashesW hs gh gc W4 (hkk.below hb4 (Nat.le_refl _) (Nat.le_refl _) hb4.size) hhk)
        have HB4 := Lib.hid hb4
        have HQ4 := Lib.hid hq4
        have HR4 := Lib.hid (below_row hb4 HRr.out HRr.out.lt)
        have HW4 := Lib.hid hW4
        clear hp hkk hhk hcap hb4 hq4 hW4 hbl
        go_upto_region 7 with fail
        rw [← HW4.out]
        clear e0 e1 e2 e3
        have hq := HQ4.out
        have z0 := hq.cell (i := 0) (by decide); have z3 := hq.cell (i := 3) (by decide)
        simp only [pick4] at z0 z3
        cases hc : (nm.toList == fl.toList)
        · have HNE := Lib.hid (show l[k].name ≠ fl from fun h => by rw [← HPK.out] at h; rw [ba_eq, decide_eq_false_iff_not] at hc; exact hc h)
          clear hq
          go_wp2
          go_roundw
          case rel =>
            refine ⟨k + 1, by omega, by go_num, fun j hj hjk => ?_, HB.out.trans (HB4.out.mono HB.out.size)⟩
            by_cases e : j = k
            · subst e; exact HNE.out
            · exact HAL.out j hj (by omega)
          case measure => simp [intOf]; omega
        · have HX := Lib.hid (show pinOf l role = some ⟨nm, vr, ln, hs⟩ by
            rw [HPK.out]
            refine pinOf_hit HRO.out k hlt ?_ (fun j hj hjk => by rw [← HFL.out]; exact HAL.out j hj hjk)
            rw [← HPK.out, ← HFL.out]
            rw [ba_eq, decide_eq_true_eq] at hc
            exact hc)
          clear hq
          go_wp2_with fail
          refine HCL.out.mono ?_
          clear HCL z0 z3
          rintro r w5 ⟨a', c', rfl, hk5, hb5⟩
          have hq5 := below_row hb5 HQ4.out HQ4.out.lt
          have hr5 := below_row hb5 HR4.out HR4.out.lt
          obtain ⟨W6, hW6⟩ : ∃ W6, W6 = w5.setCell ⟨wr.heap.size, 3, none⟩ (.slice a' hs.length c') := ⟨_, rfl⟩
          have ht6 : Touch (fun b => b = wr.heap.size) w5 W6 := by rw [hW6]; exact Touch.setCell (S := fun b => b = wr.heap.size) (p := ⟨wr.heap.size, 3, none⟩) (Touch.refl _ _) (.inl rfl) _
          have hq6 : W6.rowIs wr.heap.size 36 4 (pick4 (.string nm) (.int .i64 vr) (.int .i64 ln) (.slice a' hs.length c')) := by
            rw [hW6]
            refine (hq5.set 3 (.slice a' hs.length c')).congr fun j hj => ?_
            rcases j with _ | _ | _ | _ | j <;> first | rfl | omega
          have hr6 := ht6.row hr5 (by have := HZr.out; omega)
          have hk6 : KeysW W6 W4.heap.size W6.heap.size a' hs := hk5.carry (Nat.le_refl _) ht6.size (fun b h1 h2 => ht6.block b h2 (by have := HQ4.out.lt; omega))
          have u3 := hq5.cell (i := 3) (by decide)
          have y3 := hq5.frozen 3
          simp only [pick4] at u3
          have HB6 := Lib.hid (show Below w.heap.size w W6 from (HBW.out.trans ((HB4.out.trans (hb5.mono HB4.out.size)).mono HBW.out.size)).trans (ht6.below (by have := hb5.size; have := HB4.out.size; have := HZr.out; omega) (fun k hk e => by have := HZr.out; omega)))
          have HQ6 := Lib.hid hq6
          have HR6 := Lib.hid hr6
          have HK6 := Lib.hid hk6
          have HW6 := Lib.hid hW6
          have HZ6 := Lib.hid (show w.heap.size + 1 < W4.heap.size from by have := HQ4.out.lt; have := HZr.out; omega)
          clear hk5 hb5 hq5 hr5 ht6 hq6 hr6 hk6 hW6
          go_upto_region 9 with fail
          rw [← HW6.out]
          clear u3 y3
          have hq := HQ6.out; have hr := HR6.out
          have t0 := hr.cell (i := 0) (by decide); have t1 := hr.cell (i := 1) (by decide); have t2 := hr.cell (i := 2) (by decide); have t3 := hr.cell (i := 3) (by decide)
          have s0 := hr.frozen 0; have s1 := hr.frozen 1; have s2 := hr.frozen 2; have s3 := hr.frozen 3
          have z0 := hq.cell (i := 0) (by decide); have z1 := hq.cell (i := 1) (by decide); have z2 := hq.cell (i := 2) (by decide); have z3 := hq.cell (i := 3) (by decide)
          simp only [pick4] at t0 t1 t2 t3 z0 z1 z2 z3
          clear hq hr
          go_wp2
          refine bodyPost_ret (results_row_tmp Tryz.results17 _ _ (w.heap.size + 1) 36 _ (0, 0) _ rfl (row4_heap (set4 _ _ _ _ HR6.out)) Tryz.underlying36 rfl (by kernel_rfl) _ rfl) rfl ?_
          unfold PinWPost
          rw [HX.out]
          exact ⟨a', c', rfl, HK6.out.carry (by have := HZ6.out; omega) (by rw [size4]; exact Nat.le_refl _) (fun b h1 _ => heap4 _ _ _ _ (by have := HZ6.out; omega)), below4 _ _ _ _ HB6.out (by omega)⟩
      · have HX := Lib.hid (pinOf_miss HRO.out (fun j hj => by rw [← HFL.out]; exact HAL.out j hj (by omega)))
        have hq := HRr.out
        have t0 := hq.cell (i := 0) (by decide); have t1 := hq.cell (i := 1) (by decide); have t2 := hq.cell (i := 2) (by decide); have t3 := hq.cell (i := 3) (by decide)
        have s0 := hq.frozen 0; have s1 := hq.frozen 1; have s2 := hq.frozen 2; have s3 := hq.frozen 3
        simp only [pick4] at t0 t1 t2 t3
        clear hq
        go_wp2
        refine bodyPost_ret (results_row_tmp Tryz.results17 _ _ (w.heap.size + 1) 36 _ (0, 0) _ rfl (row4_heap (set4 _ _ _ _ HRr.out)) Tryz.underlying36 rfl (by kernel_rfl) _ rfl) rfl ?_
        unfold PinWPost
        rw [HX.out]
        exact ⟨none, 0, rfl, KeysW.nil _ _ _ _, below4 _ _ _ _ HBW.out (by omega)⟩
end Go.Proofs.YtgghgcilpfdbjaaGreatDoor

namespace Go.Proofs.YtgghgcilpfdbjaaGreatDoor
open Go.RowKit

theorem snap_cells {w : World} {lo hi : Nat} {v e : Int} {l : List PinV} {an ai : Option Addr} {cn ci : Nat} (h : Rep w lo hi (snapJ ⟨v, e, l⟩) (.agg #[.int .u8 5, .int .i64 0, .string { data := #[] }, .slice an 4 cn, .slice ai 4 ci])) :
    ∃ bi oi a2 c2 a3 c3, ai = some ⟨bi, oi, none⟩ ∧ lo ≤ bi ∧ bi < hi ∧ w.cell? ⟨bi, oi + 5 + 2, none⟩ = some (.string ⟨(dateL e.toNat).toArray⟩) ∧ w.cell? ⟨bi, oi + 10 + 3, none⟩ = some (.slice a2 l.length c2) ∧ w.cell? ⟨bi, oi + 10 + 4, none⟩ = some (.slice a3 l.length c3) ∧ w.cell? ⟨bi, oi + 15 + 1, none⟩ = some (.int .i64 v) ∧ StrsAt w lo hi a2 (l.map (·.name)) ∧ ValsAt w lo hi a3 (l.map pinJ) := by
  obtain ⟨an', cn', ai', ci', hx, _, _, _, hv⟩ := h.parts
  have hi' : (snapJ ⟨v, e, l⟩).items = [txtJ snpN, txtJ ⟨(dateL e.toNat).toArray⟩, metaJ l, numJ v] := rfl
  simp only [Value.agg.injEq, Array.mk.injEq, List.cons.injEq, Value.slice.injEq, and_true] at hx
  obtain ⟨_, _, _, _, rfl, _, _⟩ := hx
  rw [hi'] at hv
  rcases hv with hv | ⟨bi, oi, ha, hb1, hb2, _, hr⟩
  · cases hv
  · have g1 := hr.at 1 (by simp)
    have g2 := hr.at 2 (by simp)
    have g3 := hr.at 3 (by simp)
    obtain ⟨c0, c1, c2, c3, c4, e0, e1, e2, e3, e4, _, r1⟩ := g1
    obtain ⟨d0, d1, d2, d3, d4, f0, f1, f2, f3, f4, _, r2⟩ := g2
    obtain ⟨k0, k1, k2, k3, k4, m0, m1, m2, m3, m4, _, r3⟩ := g3
    obtain ⟨_, _, _, _, x1, _, _, _, _⟩ := r1.parts
    obtain ⟨a2, n2, a3, n3, x2, _, _, s2, s3⟩ := r2.parts
    obtain ⟨_, _, _, _, x3, _, _, _, _⟩ := r3.parts
    simp only [Value.agg.injEq, Array.mk.injEq, List.cons.injEq] at x1 x2 x3
    obtain ⟨_, _, rfl, _⟩ := x1
    obtain ⟨_, _, _, rfl, rfl, _⟩ := x2
    obtain ⟨_, rfl, _⟩ := x3
    have l1 : (metaJ l).names.length = l.length := List.length_map ..
    have l2 : (metaJ l).items.length = l.length := List.length_map ..
    refine ⟨bi, oi, a2, n2, a3, n3, ha, hb1, hb2, e2, ?_, ?_, m1, s2, s3⟩
    · rw [← l1]; exact f3
    · rw [← l2]; exact f4
theorem Touch.put {g : Nat} {a w : World} (h : Touch (fun b => b = g) a w) (j : Nat) (u : Value) : Touch (fun b => b = g) a (w.setCell ⟨g, j, none⟩ u) := h.setCell (p := ⟨g, j, none⟩) (.inl rfl) u
/-- Pins in a block of the call's own. -/
def QRow (w : World) (g n : Nat) (L : List PinC) : Prop := ∃ f, w.rowIs g 36 n f ∧ L.length * 4 ≤ n ∧ ∀ i (h : i < L.length) q (hq : q < 4), f (i * 4 + q) = (encQ L[i])[q]'(by rw [encQ_len]; exact hq)
theorem QRow.put {w : World} {g n : Nat} {L : List PinC} (h : QRow w g n L) (a : Nat) (p : PinC) :
    QRow ((((w.setCell ⟨g, a * 4, none⟩ (.string p.1.name)).setCell ⟨g, a * 4 + 1, none⟩ (.int .i64 p.1.ver)).setCell ⟨g, a * 4 + 2, none⟩ (.int .i64 p.1.len)).setCell ⟨g, a * 4 + 3, none⟩ (.slice p.2.1 p.1.hs.length p.2.2)) g n (L.set a p) := by
  obtain ⟨f, hf, hn, hc⟩ := h
  refine ⟨_, (((hf.set (a * 4) _).set (a * 4 + 1) _).set (a * 4 + 2) _).set (a * 4 + 3) _, by simpa using hn, fun i hi q hq => ?_⟩
  have hi' : i < L.length := by simpa using hi
  by_cases e : a = i
  · subst e
    simp only [List.getElem_set_self]
    rcases q with _ | _ | _ | _ | q
    · rw [if_neg (by omega), if_neg (by omega), if_neg (by omega), if_pos (by omega)]; rfl
    · rw [if_neg (by omega), if_neg (by omega), if_pos (by omega)]; rfl
    · rw [if_neg (by omega), if_pos (by omega)]; rfl
    · rw [if_pos (by omega)]; rfl
    · omega
  · simp only [List.getElem_set_ne e]
    rw [if_neg (by omega), if_neg (by omega), if_neg (by omega), if_neg (by omega)]
    exact hc i hi' q hq
theorem QRow.pins {w : World} {g n hi : Nat} {L : List PinC} (h : QRow w g n L) (hk : ∀ q ∈ L, HashOk w hi q) (hhi : hi ≤ w.heap.size) : PinsAt w 0 w.heap.size (some ⟨g, 0, none⟩) (L.map (·.1)) := by
  obtain ⟨f, hf, hn, hc⟩ := h
  refine .inr ⟨g, 0, rfl, Nat.zero_le _, hf.lt, fun i hi2 => ?_⟩
  have hi3 : i < L.length := by simpa using hi2
  have cell : ∀ q (hq : q < 4), w.cell? ⟨g, 0 + i * 4 + q, none⟩ = some ((encQ L[i])[q]'(by rw [encQ_len]; exact hq)) := fun q hq => by
    rw [Nat.zero_add, hf.cell (by omega), hc i hi3 q hq]
  obtain ⟨k1, k2⟩ := hk L[i] (List.getElem_mem hi3)
  rw [List.getElem_map]
  exact ⟨cell 0 (by decide), cell 1 (by decide), cell 2 (by decide), L[i].2.1, L[i].2.2, cell 3 (by decide), k1, KeysAt.carry k2 (Nat.le_refl _) hhi (fun _ _ _ => rfl)⟩
theorem QRow.cells {w : World} {g n : Nat} {L : List PinC} (h : QRow w g n L) (i : Nat) (hi : i < L.length) : w.cell? ⟨g, i * 4, none⟩ = some (.string L[i].1.name) ∧ w.cell? ⟨g, i * 4 + 1, none⟩ = some (.int .i64 L[i].1.ver) ∧ w.cell? ⟨g, i * 4 + 2, none⟩ = some (.int .i64 L[i].1.len) ∧ w.cell? ⟨g, i * 4 + 3, none⟩ = some (.slice L[i].2.1 L[i].1.hs.length L[i].2.2) := by
  obtain ⟨f, hf, hn, hc⟩ := h
  have cell : ∀ q (hq : q < 4), w.cell? ⟨g, i * 4 + q, none⟩ = some ((encQ L[i])[q]'(by rw [encQ_len]; exact hq)) := fun q hq => by
    rw [hf.cell (by omega), hc i hi q hq]
  exact ⟨cell 0 (by decide), cell 1 (by decide), cell 2 (by decide), cell 3 (by decide)⟩
theorem QRow.frozen {w : World} {g n : Nat} {L : List PinC} (h : QRow w g n L) (j : Nat) : w.frozen? ⟨g, j, none⟩ = false := by
  obtain ⟨f, hf, _, _⟩ := h
  exact hf.frozen j
theorem QRow.below {w w' : World} {g n : Nat} {L : List PinC} (h : QRow w g n L) (hb : Below w.heap.size w w') : QRow w' g n L := by
  obtain ⟨f, hf, hn, hc⟩ := h
  exact ⟨f, below_row hb hf hf.lt, hn, hc⟩
theorem QRow.touch {S : Nat → Prop} {w w' : World} {g n : Nat} {L : List PinC} (h : QRow w g n L) (hT : Touch S w w') (hs : ¬ S g) : QRow w' g n L := by
  obtain ⟨f, hf, hn, hc⟩ := h
  exact ⟨f, hT.row hf hs, hn, hc⟩
theorem QRow.of_own {W0 : Nat} {w : World} {g c : Nat} {L : List PinC} (h : w.ownsRow W0 36 4 (.slice (some ⟨g, 0, none⟩) L.length c) L.length (L.flatMap encQ)) : ∃ n, QRow w g n L := by
  obtain ⟨hl, h2⟩ := h
  rcases h2 with ⟨hv, _⟩ | ⟨g', cap, cur, hv, hg, hh, hc, hm, hs, ht⟩
  · cases hv
  · simp only [Value.slice.injEq, Option.some.injEq, Addr.mk.injEq, and_true, true_and] at hv
    obtain ⟨rfl, rfl⟩ := hv
    refine ⟨c * 4, fun j => cur.getD j undef, ⟨cur, hh, hs, fun i hi => ?_⟩, Nat.mul_le_mul_right _ hc, fun i hi q hq => ?_⟩
    · simp [Array.getD, show i < cur.size by omega]
    · have hj : i * 4 + q < L.length * 4 := by omega
      have h1 := flatQ_get L i q hi hq
      rw [← ht, List.getElem?_take_of_lt hj] at h1
      simp only [Array.getElem?_toList] at h1
      simp [Array.getD_eq_getD_getElem?, h1]
end Go.Proofs.YtgghgcilpfdbjaaGreatDoor

namespace Go.Proofs.YtgghgcilpfdbjaaGreatDoor
open Go.RowKit

/-- A cell that may be written over. -/
def Lv (w : World) (b o : Nat) : Prop := (∃ x, w.cell? ⟨b, o, none⟩ = some x) ∧ w.frozen? ⟨b, o, none⟩ = false
theorem Lv.set {w : World} {b o : Nat} (h : Lv w b o) (b' o' : Nat) (v : Value) : Lv (w.setCell ⟨b', o', none⟩ v) b o := by
  obtain ⟨⟨x, hx⟩, hf⟩ := h
  refine ⟨cell?_setCell_some hx, ?_⟩
  by_cases e : b = b'
  · subst e
    simp only [World.frozen?, World.setCell, Array.getElem?_modify] at hf ⊢
    cases hb : w.heap[b]? with
    | none => simp
    | some ob =>
      rw [hb] at hf
      cases ob <;> simp_all
  · rw [World.frozen?_of_block (w := w) (Below.heap_setCell w _ _ _ e)]; exact hf
structure Sp (S : Nat → Prop) (C : Nat → Nat → Prop) (H : Nat → Nat → Value → Prop) (W w : World) : Prop where
  touch : Touch S W w
  live : ∀ b o, C b o → Lv w b o
  hdr : ∀ b o v, H b o v → w.cell? ⟨b, o, none⟩ = some v
theorem Sp.set {S : Nat → Prop} {C : Nat → Nat → Prop} {H : Nat → Nat → Value → Prop} {W w : World} (h : Sp S C H W w) (b o : Nat) (v : Value) (hS : S b) (hH : ∀ v', ¬ H b o v') : Sp S C H W (w.setCell ⟨b, o, none⟩ v) :=
  ⟨h.touch.setCell (.inl hS) v, fun b' o' hc => (h.live b' o' hc).set b o v, fun b' o' v' hh => by
    refine (World.cell?_setCell_other _ _ _ _ fun e => ?_).trans (h.hdr b' o' v' hh)
    simp only [Addr.mk.injEq, and_true] at e
    obtain ⟨e1, e2⟩ := e
    subst e1 e2
    exact hH v' hh⟩
/-- The texts of a row of pairs. -/
def hexAt (a : Option Addr) (n b o : Nat) : Prop := ∃ (off j : Nat), a = some ⟨b, off, none⟩ ∧ j < n ∧ o = off + j * 2 + 1
theorem hex_live {w : World} {lo hi : Nat} {a : Option Addr} {l : List Key2} (h : KeysW w lo hi a l) (b o : Nat) (hc : hexAt a l.length b o) : Lv w b o ∧ lo ≤ b ∧ b < hi := by
  obtain ⟨off, j, rfl, hj, rfl⟩ := hc
  rcases h.1 with e | ⟨b', off', e, h1, h2, hk⟩
  · rw [e] at hj; simp at hj
  · cases e
    exact ⟨⟨⟨_, (hk j hj).2⟩, h.2 _ rfl (fun e => by rw [e] at hj; simp at hj) _⟩, h1, h2⟩
end Go.Proofs.YtgghgcilpfdbjaaGreatDoor
