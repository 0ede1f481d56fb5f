/- The contracts of legateref23.SamePin and Same in full: true just of what is equal. -/
import Derived.Test.YtgghgcilpfdbjaaGreatDoorSy20
import Derived.Test.YtgghgcilpfdbjaaGreatDoorSy01
import Derived.StillTailTactics

namespace Go.Proofs.YtgghgcilpfdbjaaGreatDoor
open Go.RowKit Go.Lib
def metaG : List ByteArray → List JV → PS → List PinV → List PinV × PS
 | f :: fs, x :: xs, st, acc => if (pinOfA f x).2 ≠ 0 then (acc, st.fail (pinOfA f x).2) else metaG fs xs st (acc ++ [(pinOfA f x).1])
 | _, _, st, acc => (acc, st)
theorem metaG_bad {ns : List ByteArray} {xs : List JV} {st : PS} {ps : List PinV} (k : Nat) (h1 : k < ns.length) (h2 : k < xs.length) (h : (pinOfA ns[k] xs[k]).2 ≠ 0) : metaG (ns.drop k) (xs.drop k) st ps = (ps, st.fail (pinOfA ns[k] xs[k]).2) := by
 rw [List.drop_eq_getElem_cons h1, List.drop_eq_getElem_cons h2, metaG, if_pos h]
theorem metaG_ok {ns : List ByteArray} {xs : List JV} {st : PS} {ps : List PinV} (k : Nat) (h1 : k < ns.length) (h2 : k < xs.length) (h : (pinOfA ns[k] xs[k]).2 = 0) : metaG (ns.drop k) (xs.drop k) st ps = metaG (ns.drop (k + 1)) (xs.drop (k + 1)) st (ps ++ [(pinOfA ns[k] xs[k]).1]) := by
 rw [List.drop_eq_getElem_cons h1, List.drop_eq_getElem_cons h2, metaG, if_neg (by simp [h])]
theorem metaG_end {ns : List ByteArray} {xs : List JV} {st : PS} {ps : List PinV} (k : Nat) (h1 : ns.length ≤ k) : metaG (ns.drop k) (xs.drop k) st ps = (ps, st) := by
 rw [List.drop_eq_nil_of_le h1]; rfl
def MetaGPost (o m lo hi p : Nat) (v : JV) (an ai : Option Addr) (cn ci : Nat) (ps : List PinV) (st : PS) (x0 x1 : Value) (w : World) (r : Ending) (w' : World) : Prop :=
 ∃ vs qs, r = .returned (.tuple #[]) ∧ PickAt o m lo hi v an ai cn ci st w' ∧ w'.rowIs p 24 3 (pick3 x0 x1 vs) ∧ PinsOwn w.heap.size w' vs qs ∧ qs.map (·.1) = ps ∧ Touch (fun b => b = o ∨ b = m ∨ b = p) w w'
set_option maxHeartbeats 4000000 in
set_option maxRecDepth 100000 in
theorem snapParseMetaG (o m lo hi p : Nat) (v : JV) (an ai : Option Addr) (cn ci : Nat) (st : PS) (x0 x1 : Value) (w : World) (hP : PickAt o m lo hi v an ai cn ci st w) (ha : st.asked.length ≤ 4294967296) (hr : w.rowIs p 24 3 (pick3 x0 x1 (.slice none 0 0))) (hpo : p ≠ o) (hpm : p ≠ m) (hph : hi ≤ p) (hlo : 0 < w.heap.size)
   (hnn : (pickObj v metN 256 st).1.names.length = (pickObj v metN 256 st).1.items.length) (hwt : (pickObj v metN 256 st).1.wt ≤ 4294967296) (hsz : (pickObj v metN 256 st).1.items.length ≤ 256) (hns : ∀ k (h : k < (pickObj v metN 256 st).1.names.length), (pickObj v metN 256 st).1.names[k].size ≤ 4294967296) :
   Calls Tryz.prog 116 #[.pointer (some ⟨o, 0, none⟩), .pointer (some ⟨p, 0, none⟩)] w (MetaGPost o m lo hi p v an ai cn ci (metaG (pickObj v metN 256 st).1.names (pickObj v metN 256 st).1.items (pickObj v metN 256 st).2 []).1 (metaG (pickObj v metN 256 st).1.names (pickObj v metN 256 st).1.items (pickObj v metN 256 st).2 []).2 x0 x1 w) := by
 have ho : o < w.heap.size := heap_lt hP.obj
 have hm : m < w.heap.size := by obtain ⟨D, n, h, _⟩ := hP.map; exact h.lt
 have hpl : p < w.heap.size := hr.lt
 have HOB := Lib.hid (pickObjF o m lo hi v an ai cn ci metN 256 st w hP (by decide) ha)
 have HR := Lib.hid hr
 have HNE := Lib.hid (And.intro (show p ≠ o ∧ p ≠ m ∧ hi ≤ p from ⟨hpo, hpm, hph⟩) (show o < w.heap.size ∧ m < w.heap.size ∧ p < w.heap.size from ⟨ho, hm, hpl⟩))
 have HLO := Lib.hid hlo
 clear hP hr ho hm hpl hpo hpm hph hlo
 go_enter Tryz.func116, Tryz.ntmps116
 go_wp2_with fail
 refine HOB.out.mono ?_
 clear HOB
 rintro r w1 ⟨⟨an2, cn2, ai2, ci2, rfl, hrep⟩, hp1, ht1⟩
 obtain ⟨M, hM⟩ : ∃ M, M = pickObj v metN 256 st := ⟨_, rfl⟩
 have HM := Lib.hid hM
 rw [← hM] at hnn hwt hsz hns hp1 hrep ⊢
 clear hM
 obtain ⟨J, sm⟩ := M
 dsimp only at hnn hwt hsz hns hp1 hrep ⊢
 have HNS := Lib.hid hns
 have HNN := Lib.hid hnn
 have HWT := Lib.hid hwt
 have HSZ := Lib.hid hsz
 have HREP := Lib.hid hrep
 have HP1 := Lib.hid hp1
 have HT1 := Lib.hid ht1
 have HR1 := Lib.hid (ht1.row HR.out (by have := HNE.out; omega))
 have HZ1 := Lib.hid ht1.size
 clear hnn hwt hsz hns hrep hp1 ht1
 obtain ⟨WM, hWM⟩ : ∃ WM, WM = w1.alloc (.cells #[.int .u8 J.kind, .int .i64 J.n, .string J.t, .slice an2 J.names.length cn2, .slice ai2 J.items.length ci2] 30) := ⟨_, rfl⟩
 have hbM : Below w1.heap.size w1 WM := by rw [hWM]; exact (Below.refl _ _).alloc (Nat.le_refl _) _
 have hxM : WM.heap[w1.heap.size]? = some (.cells #[.int .u8 J.kind, .int .i64 J.n, .string J.t, .slice an2 J.names.length cn2, .slice ai2 J.items.length ci2] 30 (0, 0)) := by rw [hWM]; exact heap_alloc_new w1 _
 have HXM := Lib.hid hxM
 have HBM := Lib.hid hbM
 have HPM := Lib.hid (HP1.out.below hbM)
 have HRM := Lib.hid (below_row hbM HR1.out HR1.out.lt)
 have HTM := Lib.hid (show Touch (fun b => b = o ∨ b = m ∨ b = p) w WM from (HT1.out.mono (fun k _ h => h.elim .inl (fun h => .inr (.inl h)))).trans (Touch.of_below hbM (Nat.le_refl _)))
 have HWM := Lib.hid hWM
 clear hbM hxM hWM
 go_upto_region 1 with fail
 rw [← HWM.out]
 have c3 : WM.cell? ⟨w1.heap.size, 3, none⟩ = some (.slice an2 J.names.length cn2) := box_cell HXM.out rfl
 go_wp2
 clear c3
 go_loopw [5, 6, 7, 8, 14] (fun _ _ _ _ i wr => ∃ (k : Nat) (qs : List PinC) (vs : Value), k ≤ J.names.length ∧ i = .int .i64 k ∧ qs.length ≤ k ∧ metaG J.names J.items sm [] = metaG (J.names.drop k) (J.items.drop k) sm (qs.map (·.1)) ∧ wr.rowIs p 24 3 (pick3 x0 x1 vs) ∧ PinsOwn WM.heap.size wr vs qs ∧ Touch (fun b => b = p) WM wr) (fun _ _ _ _ i _ => J.names.length - (intOf i).toNat)
 case atStart => exact ⟨0, [], .slice none 0 0, by omega, rfl, by simp, rfl, HRM.out, PinsOwn.nil _ _, Touch.refl _ _⟩
 case round =>
   obtain ⟨k, qs, vs, hk, rfl, hpk, hmo, hrow, hown, ht⟩ := hrel
   have htz := ht.size
   have hzM : w1.heap.size < WM.heap.size := heap_lt HXM.out
   have HREPr := Rep.carry (lo' := w.heap.size) (hi' := w1.heap.size) (Nat.le_refl _) (Nat.le_refl _) (fun b h1 h2 => (ht.block b (by omega) (by have := HNE.out; omega)).trans (HBM.out.block b h2)) _ _ HREP.out
   have c4 : wr.cell? ⟨w1.heap.size, 4, none⟩ = some (.slice ai2 J.items.length ci2) := box_cell ((ht.block _ hzM (by have := HNE.out; have := HZ1.out; omega)).trans HXM.out) rfl
   obtain ⟨an0, cn0, ai0, ci0, hx, -, -, h3, h4⟩ := HREPr.parts
   simp only [Value.agg.injEq, Array.mk.injEq, List.cons.injEq, Value.slice.injEq, true_and, and_true] at hx
   obtain ⟨⟨rfl, rfl⟩, rfl, rfl⟩ := hx
   have HROW := Lib.hid hrow
   have HOWN := Lib.hid hown
   have HMO := Lib.hid hmo
   have HT := Lib.hid ht
   have HZ := Lib.hid (show w1.heap.size < wr.heap.size by omega)
   have HPR := Lib.hid (HPM.out.touch ht HNE.out.1.1 HNE.out.1.2.1 HNE.out.1.2.2)
   have HZM := Lib.hid hzM
   clear hrow hown hmo ht htz hzM HREPr
   by_cases hlt : k < J.names.length
   · have hlt2 : k < J.items.length := by have := HNN.out; omega
     obtain ⟨bn, on, ha, _, _, n0⟩ := h3.at k hlt
     obtain ⟨bi, oi, an3, cn3, ai3, ci3, hai, _, _, y0, y1, y2, y3, y4, hry⟩ := h4.get k hlt2
     subst ha hai
     have hwk := JV.wts_get J.items k hlt2
     have hbd := J.wt_bd
     have HPO := Lib.hid (snapPinOfA J.names[k] J.items[k] _ wr w.heap.size w1.heap.size (by have := HWT.out; omega) HLO.out (Nat.le_of_lt HZ.out) hry (by have := HNS.out k hlt; omega))
     have HMB := Lib.hid (metaG_bad (st := sm) (ps := qs.map (·.1)) k hlt hlt2)
     have HMK := Lib.hid (metaG_ok (st := sm) (ps := qs.map (·.1)) k hlt hlt2)
     obtain ⟨PO, hPO⟩ : ∃ PO, PO = pinOfA J.names[k] J.items[k] := ⟨_, rfl⟩
     rw [← hPO] at HPO HMB HMK
     generalize J.names[k] = fk at *
     generalize J.items[k] = xk at *
     clear h3 h4 hry hwk hbd hPO
     obtain ⟨⟨pn, pv, pl, phs⟩, er⟩ := PO
     dsimp only at HPO HMB HMK
     go_wp2_with fail
     refine HPO.out.mono ?_
     clear HPO y0 y1 y2 y3 y4 n0 c4
     rintro r w2 ⟨ah, ch, rfl, hkh, hcp, hb2⟩
     have HKH := Lib.hid hkh
     have HCP := Lib.hid hcp
     clear hkh hcp
     obtain ⟨WX, hWX⟩ : ∃ WX, WX = w2.alloc (.cells #[.string pn, .int .i64 pv, .int .i64 pl, .slice ah phs.length ch] 36) := ⟨_, rfl⟩
     have hbX : Below wr.heap.size wr WX := by rw [hWX]; exact hb2.alloc hb2.size _
     have hxX : WX.heap[w2.heap.size]? = some (.cells #[.string pn, .int .i64 pv, .int .i64 pl, .slice ah phs.length ch] 36 (0, 0)) := by rw [hWX]; exact heap_alloc_new w2 _
     have HBX := Lib.hid hbX
     have HXX := Lib.hid hxX
     have HWX := Lib.hid hWX
     have HZX := Lib.hid (show wr.heap.size ≤ w2.heap.size from hb2.size)
     clear hb2 hbX hxX hWX
     go_upto_region 5 with fail
     rw [← HWX.out]
     by_cases he : er = 0
     · subst he
       have HMK2 := Lib.hid (HMK.out rfl)
       clear HMB HMK
       obtain ⟨i1, hi1, hy0, hy1, hy2⟩ := info_parts infoPin
       obtain ⟨sv, cv, rfl⟩ := owns_slice HOWN.out.own
       have hrowX := below_row HBX.out HROW.out HROW.out.lt
       have hownX := HOWN.out.below HBX.out
       have HRX := Lib.hid hrowX
       have HOX := Lib.hid hownX
       have HCL := Lib.hid (show ∀ w' : World, Below WX.heap.size WX w' → w'.cell? ⟨p, 2, none⟩ = some (.slice sv qs.length cv) ∧ w'.cell? ⟨w2.heap.size, 0, none⟩ = some (.string pn) ∧ w'.cell? ⟨w2.heap.size, 1, none⟩ = some (.int .i64 pv) ∧ w'.cell? ⟨w2.heap.size, 2, none⟩ = some (.int .i64 pl) ∧ w'.cell? ⟨w2.heap.size, 3, none⟩ = some (.slice ah phs.length ch) from fun w' h => by
         have x := (h.block _ (heap_lt HXX.out)).trans HXX.out
         exact ⟨by have := (below_row h HRX.out HRX.out.lt).cell (i := 2) (by decide); simpa [pick3] using this, box_cell x rfl, box_cell x rfl, box_cell x rfl, box_cell x rfl⟩)
       have hpsl : qs.length ≤ 256 := by have := HSZ.out; have := HNN.out; omega
       have HPSL := Lib.hid hpsl
       clear hrowX hownX hpsl
       have HOD := Lib.hid (show WX.drew.ownsRow WM.heap.size 36 4 (.slice sv qs.length cv) qs.length (qs.flatMap encQ) from owns_below HOX.out.own ((Below.refl _ _).drew))
       have hwm : WM.heap.size ≤ WX.heap.size := by have h2 := HBX.out.size; have h3 := HT.out.size; omega
       have hpsl := HPSL.out
       have hkb : k < 256 := by have := HSZ.out; omega
       have hpn : some p ≠ (Value.slice sv qs.length cv).ownBlock := fun e => by have := (HOX.out.own.lt _ e.symm).1; have := HNE.out; have := HZ1.out; have := HZM.out; omega
       have hpl : p < WX.heap.size := HRX.out.lt
       have hflen := flatQ_len qs
       obtain ⟨e2, y0, y1, y2, y3⟩ := HCL.out WX (Below.refl _ _)
       have fp2 := HRX.out.frozen 2
       go_upto_region 7 with fail
       go_region_law (refine step_append_lies _ (by rfl) (.tmp 38) (.tmp 40) 22 (by rfl) WM.heap.size 36 i1 _ 4 56 Tryz.underlying22 hi1 hy0 hy1 hy2 rfl (by omega) (.slice sv qs.length cv) qs.length (qs.flatMap encQ) (by rfl) (HOD.out.alloc _) ⟨WX.heap.size, 0, none⟩ 1 1 (Array.toList #[.string pn, .int .i64 pv, .int .i64 pl, .slice ah phs.length ch]) (by rfl) (by rfl) (World.news_of_block (cs := #[.string pn, .int .i64 pv, .int .i64 pl, .slice ah phs.length ch]) (t := 36) (fr := (0, 0)) (heap_alloc_new WX.drew _)) (by simp [Value.oneCell']) (by omega) (by unfold maxLen; omega) (by omega) (by simp; omega) (WX.heap.size + 1) (by simp) ?_; intro g2 cap3 w4 hown4 hgrow4 hat4 hlt4; have c44 : w4.cell? ⟨p, 2, none⟩ = some (.slice sv qs.length cv) := (World.cell?_of_block (hgrow4.block p (by simp; omega) hpn)).trans ((cell_alloc_lt _ (show p < WX.drew.heap.size from hpl)).trans e2); have f44 : w4.frozen? ⟨p, 2, none⟩ = false := (World.frozen?_of_block (hgrow4.block p (by simp; omega) hpn)).trans ((((Below.refl WX.drew.heap.size WX.drew).alloc (Nat.le_refl _) _).frozen (show p < WX.drew.heap.size from hpl)).trans fp2); have HO4 := Lib.hid hown4; have HG4 := Lib.hid hgrow4; have HA4 := Lib.hid hat4; clear hown4 hgrow4 hat4)
       all_goals
         have tt := fun (ob : Obj) => HT.out.trans (Touch.of_below (S := fun b => b = p) (HBX.out.trans (((Below.refl WX.heap.size WX).drew.alloc (Nat.le_refl _) ob).mono HBX.out.size)) (Nat.le_refl _))
         have hr4 : w4.rowIs p 24 3 (pick3 x0 x1 (.slice sv qs.length cv)) := HRX.out.of_block ((HG4.out.block p (by simp; omega) hpn).trans (Below.heap_alloc _ _ _ (show p < WX.drew.heap.size from hpl)))
         have tt := tt (.cells #[.string pn, .int .i64 pv, .int .i64 pl, .slice ah phs.length ch] 36)
         have ht4 : Touch (fun b => b = p) WM w4 := ⟨HG4.out.os.trans tt.os, HG4.out.tape.trans tt.tape, HG4.out.output.trans tt.output, Nat.le_trans tt.size HG4.out.size, fun q hq hn => (HG4.out.block q (Nat.lt_of_lt_of_le hq tt.size) (fun e => by have := (HOX.out.own.lt _ e.symm).1; omega)).trans (tt.block q hq hn)⟩
         have HFR := Lib.hid (show (w4.setCell ⟨p, 2, none⟩ (.slice (some ⟨g2, 0, none⟩) (qs.length + 1) cap3)).rowIs p 24 3 (pick3 x0 x1 (.slice (some ⟨g2, 0, none⟩) (qs.length + 1) cap3)) from by
           refine (hr4.set 2 _).congr fun j hj => ?_
           rcases j with _ | _ | _ | j <;> first | rfl | omega)
         have HFO := Lib.hid (show PinsOwn WM.heap.size (w4.setCell ⟨p, 2, none⟩ (.slice (some ⟨g2, 0, none⟩) (qs.length + 1) cap3)) (.slice (some ⟨g2, 0, none⟩) (qs.length + 1) cap3) (qs ++ [((⟨pn, pv, pl, phs⟩, ah, ch) : PinC)]) from by
           have hbd : Below WX.heap.size WX (WX.drew.alloc (.cells #[.string pn, .int .i64 pv, .int .i64 pl, .slice ah phs.length ch] 36)) := (Below.refl WX.heap.size WX).drew.alloc (Nat.le_refl _) _
           have hz := HBX.out.size
           have hzx := HZX.out
           have hxx := heap_lt HXX.out
           have hwx : w2.heap.size ≤ WX.heap.size := by omega
           have hb2x : Below w2.heap.size w2 WX := by rw [HWX.out]; exact (Below.refl _ _).alloc (Nat.le_refl _) _
           have hsn := (HOX.out.below hbd).snoc (v' := .slice (some ⟨g2, 0, none⟩) (qs.length + 1) cap3) (⟨pn, pv, pl, phs⟩, ah, ch) wr.heap.size w2.heap.size (by have := HT.out.size; omega) (by simp; omega) (fun b hb => by have := (HOWN.out.own.lt _ hb).2; omega) HCP.out (HKH.out.below (hb2x.trans (hbd.mono hwx)) (Nat.le_refl _) (Nat.le_refl _) (Nat.le_refl _)) HG4.out HO4.out (by
             rcases HA4.out with h | h
             · exact .inl h.symm
             · exact .inr ⟨g2, rfl, by simp; omega⟩)
           exact hsn.touch (touch_put (g := p) (j := 2) (.slice (some ⟨g2, 0, none⟩) (qs.length + 1) cap3)) (fun k hk e => by have := HNE.out; have := HZ1.out; have := HZM.out; omega))
         have HFT := Lib.hid (ht4.trans (touch_put (g := p) (j := 2) (.slice (some ⟨g2, 0, none⟩) (qs.length + 1) cap3)))
         clear tt hr4 ht4 HO4 HG4 HA4 c44 f44 e2 y0 y1 y2 y3 fp2
         go_wp2
         go_roundw
         case rel => exact ⟨k + 1, _, _, by omega, by go_num, by simp; omega, by rw [HMO.out, HMK2.out, List.map_append]; rfl, HFR.out, HFO.out, HFT.out⟩
         case measure => simp [intOf]; omega
     · have HMB := Lib.hid (HMB.out he)
       have hd2 : (er != 0) = true := by simpa using he
       have HF := Lib.hid (pickFailG o m lo hi v an ai cn ci er sm WX (HPR.out.below HBX.out))
       clear he HMK
       go_wp2_with fail
       refine HF.out.mono ?_
       rintro r w3 ⟨rfl, h3, h4⟩
       have hrowX := below_row HBX.out HROW.out HROW.out.lt
       have hr3 := h4.row hrowX (by have := HNE.out; omega)
       have hown3 : PinsOwn w.heap.size w3 vs qs := ((HOWN.out.below HBX.out).touch h4 (fun k hk e => by have := HNE.out; have := HZ1.out; have := HZM.out; omega)).mono (by have := HZ1.out; have := HZM.out; omega)
       have HFIN := Lib.hid (show MetaGPost o m lo hi p v an ai cn ci (metaG J.names J.items sm []).1 (metaG J.names J.items sm []).2 x0 x1 w (.returned (.tuple #[])) w3 from by
         rw [HMO.out, HMB.out]
         exact ⟨vs, qs, rfl, h3, hr3, hown3, rfl, (HTM.out.trans ((HT.out.mono (fun k _ h => .inr (.inr h))).trans ((Touch.of_below HBX.out (Nat.le_refl _)).trans (h4.mono (fun k _ h => h.elim .inl (fun h => .inr (.inl h)))))))⟩)
       clear h3 h4 hrowX hr3 hown3
       go_wp2
       go_end0
       rw [← HM.out]
       exact HFIN.out
   · have HE := Lib.hid (metaG_end (xs := J.items) (st := sm) (ps := qs.map (·.1)) k (show J.names.length ≤ k by omega))
     clear h3 h4
     have HFIN := Lib.hid (show MetaGPost o m lo hi p v an ai cn ci (metaG J.names J.items sm []).1 (metaG J.names J.items sm []).2 x0 x1 w (.returned (.tuple #[])) wr from by
       rw [HMO.out, HE.out]
       exact ⟨vs, qs, rfl, HPR.out, HROW.out, HOWN.out.mono (by have := HZ1.out; have := HZM.out; omega), rfl, HTM.out.trans (HT.out.mono (fun k _ h => .inr (.inr h)))⟩)
     go_wp2
     go_end0
     rw [← HM.out]
     exact HFIN.out
end Go.Proofs.YtgghgcilpfdbjaaGreatDoor

namespace Go.Proofs.YtgghgcilpfdbjaaGreatDoor
open Go.RowKit
set_option maxHeartbeats 4000000 in
set_option maxRecDepth 100000 in
theorem ref23SamePinG (nm : ByteArray) (vr ln : Int) (hs : List Key2) (nm2 : ByteArray) (vr2 ln2 : Int) (hs2 : List Key2) (a b : Option Addr) (c d : Nat) (w : World) (hA : KeysAt w 0 w.heap.size a hs) (hB : KeysAt w 0 w.heap.size b hs2) (hl : hs.length ≤ 9223372036854775807) (hm : hs2.length ≤ 9223372036854775807) :
   Calls Tryz.prog 20 #[.agg #[.string nm, .int .i64 vr, .int .i64 ln, .slice a hs.length c], .agg #[.string nm2, .int .i64 vr2, .int .i64 ln2, .slice b hs2.length d]] w (TellsEq (PinV.mk nm vr ln hs) ⟨nm2, vr2, ln2, hs2⟩ w) := by
 obtain ⟨W2, hW2⟩ : ∃ W2, W2 = (w.alloc (.cells #[.string nm, .int .i64 vr, .int .i64 ln, .slice a hs.length c] 36)).alloc (.cells #[.string nm2, .int .i64 vr2, .int .i64 ln2, .slice b hs2.length d] 36) := ⟨_, rfl⟩
 have hb2 : Below w.heap.size w W2 := by rw [hW2]; exact ((Below.refl _ _).alloc (Nat.le_refl _) _).alloc (by simp) _
 have hx : W2.heap[w.heap.size]? = some (.cells #[.string nm, .int .i64 vr, .int .i64 ln, .slice a hs.length c] 36 (0, 0)) := by rw [hW2, Below.heap_alloc _ _ _ (by simp)]; exact heap_alloc_new w _
 have hy : W2.heap[w.heap.size + 1]? = some (.cells #[.string nm2, .int .i64 vr2, .int .i64 ln2, .slice b hs2.length d] 36 (0, 0)) := by
   have := heap_alloc_new (w.alloc (.cells #[.string nm, .int .i64 vr, .int .i64 ln, .slice a hs.length c] 36)) (.cells #[.string nm2, .int .i64 vr2, .int .i64 ln2, .slice b hs2.length d] 36)
   rw [show (w.alloc (.cells #[.string nm, .int .i64 vr, .int .i64 ln, .slice a hs.length c] 36)).heap.size = w.heap.size + 1 by simp, ← hW2] at this
   exact this
 have v0 : W2.cell? ⟨w.heap.size, 0, none⟩ = some (.string nm) := box_cell hx rfl
 have v1 : W2.cell? ⟨w.heap.size, 1, none⟩ = some (.int .i64 vr) := box_cell hx rfl
 have v2 : W2.cell? ⟨w.heap.size, 2, none⟩ = some (.int .i64 ln) := box_cell hx rfl
 have v3 : W2.cell? ⟨w.heap.size, 3, none⟩ = some (.slice a hs.length c) := box_cell hx rfl
 have u0 : W2.cell? ⟨w.heap.size + 1, 0, none⟩ = some (.string nm2) := box_cell hy rfl
 have u1 : W2.cell? ⟨w.heap.size + 1, 1, none⟩ = some (.int .i64 vr2) := box_cell hy rfl
 have u2 : W2.cell? ⟨w.heap.size + 1, 2, none⟩ = some (.int .i64 ln2) := box_cell hy rfl
 have u3 : W2.cell? ⟨w.heap.size + 1, 3, none⟩ = some (.slice b hs2.length d) := box_cell hy rfl
 have HS := Lib.hid (ref21SameHashesG hs hs2 a b c d W2 (hA.below hb2 (Nat.le_refl _) (Nat.le_refl _) hb2.size) (hB.below hb2 (Nat.le_refl _) (Nat.le_refl _) hb2.size) hl hm)
 have HB := Lib.hid hb2
 have HW := Lib.hid hW2
 clear hb2 hW2 hx hy hA hB
 by_cases h0 : nm = nm2
 case neg =>
   have r0 : (nm.toList == nm2.toList) = false := beq_eq_false_iff_ne.2 (fun e => h0 (ba_ext2 e))
   have HNE := Lib.hid h0
   clear h0
   go_enter Tryz.func20, Tryz.ntmps20
   go_upto_region 1 with fail
   rw [← HW.out]
   go_wp2
   go_ret
   exact ⟨false, rfl, by simp; intro e; exact absurd e HNE.out, HB.out⟩
 have r0 : (nm.toList == nm2.toList) = true := by rw [h0]; simp
 have HE0 := Lib.hid h0
 clear h0
 by_cases h1 : vr = vr2
 case neg =>
   have r1 : (vr == vr2) = false := by simpa using h1
   have HNE := Lib.hid h1
   clear h1
   go_enter Tryz.func20, Tryz.ntmps20
   go_upto_region 1 with fail
   rw [← HW.out]
   go_wp2
   go_ret
   exact ⟨false, rfl, by simp; intros; first | (exact absurd ‹_› HNE.out) | (exact HNE.out ‹_›), HB.out⟩
 have r1 : (vr == vr2) = true := by simpa using h1
 have HE1 := Lib.hid h1
 clear h1
 by_cases h2 : ln = ln2
 case neg =>
   have r2 : (ln == ln2) = false := by simpa using h2
   have HNE := Lib.hid h2
   clear h2
   go_enter Tryz.func20, Tryz.ntmps20
   go_upto_region 1 with fail
   rw [← HW.out]
   go_wp2
   go_ret
   exact ⟨false, rfl, by simp; intros; first | (exact absurd ‹_› HNE.out) | (exact HNE.out ‹_›), HB.out⟩
 have r2 : (ln == ln2) = true := by simpa using h2
 have HE2 := Lib.hid h2
 clear h2
 go_enter Tryz.func20, Tryz.ntmps20
 go_upto_region 1 with fail
 rw [← HW.out]
 go_wp2_with fail
 refine HS.out.mono ?_
 rintro e w3 ⟨bb, rfl, hiff, hb3⟩
 have HB3 := Lib.hid (HB.out.trans (hb3.mono HB.out.size))
 clear hb3
 cases bb with
 | true =>
   have HIF := Lib.hid (hiff.1 rfl)
   clear hiff
   go_wp2
   go_ret
   exact ⟨true, rfl, ⟨fun _ => by rw [HE0.out, HE1.out, HE2.out, HIF.out], fun _ => rfl⟩, HB3.out⟩
 | false =>
   have HIF := Lib.hid (show hs ≠ hs2 from fun h => Bool.noConfusion (hiff.2 h))
   clear hiff
   go_wp2
   go_ret
   exact ⟨false, rfl, ⟨fun h => Bool.noConfusion h, fun e => by injection e with _ _ _ e4; exact absurd e4 HIF.out⟩, HB3.out⟩
set_option maxHeartbeats 4000000 in
set_option maxRecDepth 100000 in
theorem ref23SameG (v e : Int) (l : List PinV) (vv e2 : Int) (m : List PinV) (a b : Option Addr) (c d : Nat) (w : World) (hA : PinsAt w 0 w.heap.size a l) (hB : PinsAt w 0 w.heap.size b m) (hfl : ∀ p ∈ l, PinFits p) (hfm : ∀ p ∈ m, PinFits p) (hl : l.length ≤ 9223372036854775807) (hm : m.length ≤ 9223372036854775807) :
   Calls Tryz.prog 24 #[.agg #[.int .i64 v, .int .i64 e, .slice a l.length c], .agg #[.int .i64 vv, .int .i64 e2, .slice b m.length d]] w (TellsEq (SnapV.mk v e l) ⟨vv, e2, m⟩ w) := by
 obtain ⟨W2, hW2⟩ : ∃ W2, W2 = (w.alloc (.cells #[.int .i64 v, .int .i64 e, .slice a l.length c] 24)).alloc (.cells #[.int .i64 vv, .int .i64 e2, .slice b m.length d] 24) := ⟨_, rfl⟩
 have hb2 : Below w.heap.size w W2 := by rw [hW2]; exact ((Below.refl _ _).alloc (Nat.le_refl _) _).alloc (by simp) _
 have hx : W2.heap[w.heap.size]? = some (.cells #[.int .i64 v, .int .i64 e, .slice a l.length c] 24 (0, 0)) := by rw [hW2, Below.heap_alloc _ _ _ (by simp)]; exact heap_alloc_new w _
 have hy : W2.heap[w.heap.size + 1]? = some (.cells #[.int .i64 vv, .int .i64 e2, .slice b m.length d] 24 (0, 0)) := by
   have := heap_alloc_new (w.alloc (.cells #[.int .i64 v, .int .i64 e, .slice a l.length c] 24)) (.cells #[.int .i64 vv, .int .i64 e2, .slice b m.length d] 24)
   rw [show (w.alloc (.cells #[.int .i64 v, .int .i64 e, .slice a l.length c] 24)).heap.size = w.heap.size + 1 by simp, ← hW2] at this
   exact this
 have HC := Lib.hid (show ∀ w' : World, Below W2.heap.size W2 w' → w'.cell? ⟨w.heap.size, 0, none⟩ = some (.int .i64 v) ∧ w'.cell? ⟨w.heap.size, 1, none⟩ = some (.int .i64 e) ∧ w'.cell? ⟨w.heap.size, 2, none⟩ = some (.slice a l.length c) ∧ w'.cell? ⟨w.heap.size + 1, 0, none⟩ = some (.int .i64 vv) ∧ w'.cell? ⟨w.heap.size + 1, 1, none⟩ = some (.int .i64 e2) ∧ w'.cell? ⟨w.heap.size + 1, 2, none⟩ = some (.slice b m.length d) from fun w' h => by
   have x := (h.block _ (heap_lt hx)).trans hx
   have y := (h.block _ (heap_lt hy)).trans hy
   exact ⟨box_cell x rfl, box_cell x rfl, box_cell x rfl, box_cell y rfl, box_cell y rfl, box_cell y rfl⟩)
 have HA := Lib.hid (hA.below hb2 (Nat.le_refl _) (Nat.le_refl _) hb2.size)
 have HBb := Lib.hid (hB.below hb2 (Nat.le_refl _) (Nat.le_refl _) hb2.size)
 have HFL := Lib.hid hfl
 have HFM := Lib.hid hfm
 have HB2 := Lib.hid hb2
 have HW := Lib.hid hW2
 clear hA hB hfl hfm hb2 hx hy hW2
 obtain ⟨q0, q1, q2, q3, q4, q5⟩ := HC.out W2 (Below.refl _ _)
 by_cases h0 : v = vv
 case neg =>
   have r1 : (v != vv) = true := by simpa using h0
   have HNE := Lib.hid h0
   clear h0
   go_enter Tryz.func24, Tryz.ntmps24
   go_upto_region 1 with fail
   rw [← HW.out]
   go_wp2
   go_ret
   exact ⟨false, rfl, ⟨fun h => Bool.noConfusion h, fun e => by injection e with e1 _ _; exact absurd e1 HNE.out⟩, HB2.out⟩
 have r1 : (v != vv) = false := by simpa using h0
 have HE0 := Lib.hid h0
 clear h0
 by_cases h1 : e = e2
 case neg =>
   have r2 : (e != e2) = true := by simpa using h1
   have HNE := Lib.hid h1
   clear h1
   go_enter Tryz.func24, Tryz.ntmps24
   go_upto_region 1 with fail
   rw [← HW.out]
   go_wp2
   go_ret
   exact ⟨false, rfl, ⟨fun h => Bool.noConfusion h, fun e => by injection e with _ e1 _; exact absurd e1 HNE.out⟩, HB2.out⟩
 have r2 : (e != e2) = false := by simpa using h1
 have HE1 := Lib.hid h1
 clear h1
 by_cases hn : l.length = m.length
 case neg =>
   have t1 : ((l.length : Int) != (m.length : Int)) = true := by rw [bne_iff_ne]; omega
   have t2 : (l.length != m.length) = true := by rw [bne_iff_ne]; omega
   have HNE := Lib.hid hn
   clear hn
   go_enter Tryz.func24, Tryz.ntmps24
   go_upto_region 1 with fail
   rw [← HW.out]
   go_wp2
   go_ret
   exact ⟨false, rfl, ⟨fun h => Bool.noConfusion h, fun e => by injection e with _ _ e1; exact absurd (congrArg List.length e1) HNE.out⟩, HB2.out⟩
 have t1 : ((l.length : Int) != (m.length : Int)) = false := by rw [hn]; simp
 have t2 : (l.length != m.length) = false := by rw [hn]; simp
 have HN := Lib.hid hn
 clear hn
 go_enter Tryz.func24, Tryz.ntmps24
 go_upto_region 1 with fail
 rw [← HW.out]
 go_wp2
 clear q0 q1 q2 q3 q4 q5
 go_loopw [5] (fun i wr => ∃ k : Nat, k ≤ l.length ∧ i = .int .i64 k ∧ l.take k = m.take k ∧ Below W2.heap.size W2 wr) (fun i _ => l.length - (intOf i).toNat)
 case atStart => exact ⟨0, by omega, rfl, by simp, Below.refl _ _⟩
 case round =>
   obtain ⟨k, hk, rfl, hsf, hb⟩ := hrel
   have HSF := Lib.hid hsf
   have HB := Lib.hid hb
   clear hsf
   obtain ⟨q0, q1, q2, q3, q4, q5⟩ := HC.out wr HB.out
   by_cases hlt : k < l.length
   · have hlm : k < m.length := by have := HN.out; omega
     obtain ⟨b1, o1, ha1, _, hbl1, e0, e1, e2', hh, hc, e3, _, hk1⟩ := (HA.out.below hb (Nat.le_refl _) (Nat.le_refl _) hb.size).at k hlt
     obtain ⟨b2, o2, ha2, _, hbl2, y0, y1, y2, gh, gc, y3, _, hk2⟩ := (HBb.out.below hb (Nat.le_refl _) (Nat.le_refl _) hb.size).at k hlm
     subst ha1 ha2
     have HTK := Lib.hid (show l[k] = m[k] → l.take (k + 1) = m.take (k + 1) from fun h => by rw [List.take_succ_eq_append_getElem hlt, List.take_succ_eq_append_getElem hlm, HSF.out, h])
     have HNO := Lib.hid (show l[k] ≠ m[k] → l ≠ m from fun h e => h (by subst e; rfl))
     have HF1 := Lib.hid (HFL.out l[k] (List.getElem_mem hlt))
     have HF2 := Lib.hid (HFM.out m[k] (List.getElem_mem hlm))
     obtain ⟨p, hp⟩ : ∃ p, p = l[k] := ⟨_, rfl⟩
     obtain ⟨q, hq⟩ : ∃ q, q = m[k] := ⟨_, rfl⟩
     rw [← hp] at e0 e1 e2' e3 hk1 HF1
     rw [← hq] at y0 y1 y2 y3 hk2 HF2
     rw [← hp, ← hq] at HTK HNO
     clear hp hq
     obtain ⟨nm, vr, ln, hs⟩ := p
     obtain ⟨nm2, vr2, ln2, hs2⟩ := q
     dsimp only at e0 e1 e2' e3 hk1 y0 y1 y2 y3 hk2
     have HSP := Lib.hid (show ∀ w' : World, Below wr.heap.size wr w' → Calls Tryz.prog 20 #[.agg #[.string nm, .int .i64 vr, .int .i64 ln, .slice hh hs.length hc], .agg #[.string nm2, .int .i64 vr2, .int .i64 ln2, .slice gh hs2.length gc]] w' (TellsEq (PinV.mk nm vr ln hs) ⟨nm2, vr2, ln2, hs2⟩ w') from fun w' h => ref23SamePinG nm vr ln hs nm2 vr2 ln2 hs2 hh gh hc gc w' (hk1.below h (Nat.le_refl _) (Nat.le_refl _) h.size) (hk2.below h (Nat.le_refl _) (Nat.le_refl _) h.size) HF1.out.2.2.2.1 HF2.out.2.2.2.1)
     clear hb hbl1 hbl2 hk1 hk2
     go_upto_region 6 with fail
     go_still_tail 10, (by kernel_rfl)
     have HSD := Lib.hid (HSP.out wr.drew ((Below.refl _ _).drew))
     clear HSP
     go_wp2_with fail
     refine HSD.out.mono ?_
     clear HSD
     rintro r w5 ⟨bb, rfl, hiff, hb5⟩
     have HB5 := Lib.hid (HB.out.trans ((show Below wr.heap.size wr w5 from (Below.refl _ _).drew.trans hb5).mono HB.out.size))
     clear hb5 e0 e1 e2' e3 y0 y1 y2 y3 q0 q1 q2 q3 q4 q5
     cases bb with
     | true =>
       have HIF := Lib.hid (HTK.out (hiff.1 rfl))
       clear hiff
       go_wp2
       go_roundw
       case rel => exact ⟨k + 1, by omega, by go_num, HIF.out, HB5.out⟩
       case measure => simp [intOf]; omega
     | false =>
       have HIF := Lib.hid (HNO.out (fun h => Bool.noConfusion (hiff.2 h)))
       clear hiff
       go_wp2
       go_ret
       exact ⟨false, rfl, ⟨fun h => Bool.noConfusion h, fun e => by injection e with _ _ e4; exact absurd e4 HIF.out⟩, HB2.out.trans (HB5.out.mono HB2.out.size)⟩
   · obtain rfl : k = l.length := by omega
     clear hb
     go_wp2
     go_ret
     exact ⟨true, rfl, ⟨fun _ => by have := HSF.out; rw [List.take_length, HN.out, List.take_length] at this; rw [HE0.out, HE1.out, this], fun _ => rfl⟩, HB2.out.trans (HB.out.mono HB2.out.size)⟩
end Go.Proofs.YtgghgcilpfdbjaaGreatDoor
