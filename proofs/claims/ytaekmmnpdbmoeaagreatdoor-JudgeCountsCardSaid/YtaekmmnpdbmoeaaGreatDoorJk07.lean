/- The contracts of legateref10.form at lists and objects, whole, and of Encode. Printed by genref10.py. -/
import Derived.Test.YtaekmmnpdbmoeaaGreatDoorJk03

namespace Go.Proofs.YtaekmmnpdbmoeaaGreatDoor
open Go.RowKit

theorem bytesSum_take : ∀ (l : List ByteArray) (k : Nat), bytesSum (l.take k) ≤ bytesSum l
  | [], k => by simp
  | x :: r, 0 => by simp [bytesSum]
  | x :: r, k + 1 => by have := bytesSum_take r k; simp [bytesSum]; omega
theorem txt_size {s : ByteArray} (h : txtOk s = true) : s.size ≤ 4096 := by
  unfold txtOk at h
  rw [Bool.and_eq_true, decide_eq_true_eq] at h
  exact h.1
theorem toList_app (a b : ByteArray) : (a ++ b).data.toList = a.data.toList ++ b.data.toList := app_list a b

set_option maxRecDepth 100000 in
set_option maxHeartbeats 2000000 in
theorem formList (N : Nat) (ih : FormTo N) (v : JV) (x : Value) (w : World) (hN : v.wt ≤ N + 1) (hM : N + 1 ≤ 4294967296) (hf : v.form true) (hR : Rep w 0 w.heap.size v x) (hk : v.kind = 4) :
    Calls Tryz.prog 103 #[x] w (FormPost v w) := by
  obtain ⟨an, cn, ai, ci, rfl, h1, h2, h3, h4⟩ := hR.parts
  obtain ⟨b1, b2, b3, b4⟩ := v.wt_bd
  have hwe := v.wt_eq
  have hfs := (JV.form_eq hf).2
  obtain ⟨W, hW⟩ : ∃ W, W = w.alloc (.cells #[.int .u8 v.kind, .int .i64 v.n, .string v.t, .slice an v.names.length cn, .slice ai v.items.length ci] 44) := ⟨_, rfl⟩
  have HBW := Lib.hid (show Below w.heap.size w W by rw [hW]; exact (Below.refl _ _).alloc (Nat.le_refl _) _)
  have hx : W.heap[w.heap.size]? = some (.cells #[.int .u8 v.kind, .int .i64 v.n, .string v.t, .slice an v.names.length cn, .slice ai v.items.length ci] 44 (0, 0)) := by rw [hW]; exact heap_alloc_new w _
  obtain ⟨ni, hni⟩ : ∃ ni, ni = v.items.length := ⟨_, rfl⟩
  obtain ⟨nn, hnn⟩ : ∃ nn, nn = v.names.length := ⟨_, rfl⟩
  rw [hk, ← hni, ← hnn] at hx
  have HS := Lib.hid (show ∀ w' : World, Below W.heap.size W w' → w'.cell? ⟨w.heap.size, 0, none⟩ = some (.int .u8 4) ∧ w'.cell? ⟨w.heap.size, 3, none⟩ = some (.slice an nn cn) ∧ w'.cell? ⟨w.heap.size, 4, none⟩ = some (.slice ai ni ci) from fun w' h => by
    have y0 := (h.block _ (heap_lt hx)).trans hx
    exact ⟨box_cell y0 rfl, box_cell y0 rfl, box_cell y0 rfl⟩)
  have HWT := Lib.hid (show ∀ w' : World, Below W.heap.size W w' → Below w.heap.size w w' from fun w' h => HBW.out.trans (h.mono HBW.out.size))
  have HNI := Lib.hid hni
  have HNN := Lib.hid hnn
  have HEQ := Lib.hid (show v.enc = 91 :: (JV.encI true v.items ++ [93]) by rw [v.enc_eq, hk]; rfl)
  have HFS := Lib.hid hfs
  have HBN := Lib.hid (And.intro b2 (And.intro b3 (And.intro b4 hwe)))
  have H3 := Lib.hid h3
  have H4 := Lib.hid h4
  have IH := Lib.hid ih
  have hnb : ni ≤ 4611686018427387904 := by omega
  have hnb2 : nn ≤ 4611686018427387904 := by omega
  have HNW := Lib.hid (show v.wt ≤ 4294967296 by omega)
  have HNW1 := Lib.hid hN
  have HNM := Lib.hid hM
  obtain ⟨R, hRR⟩ : ∃ R : ByteArray, R = ⟨v.enc.toArray⟩ := ⟨_, rfl⟩
  have HRR := Lib.hid (show R.data.toList = v.enc by rw [hRR])
  have HW := Lib.hid (show W = w.alloc (.cells #[.int .u8 4, .int .i64 v.n, .string v.t, .slice an nn cn, .slice ai ni ci] 44) by rw [hW, hk, hni, hnn])
  unfold FormPost
  rw [hk, ← hni, ← hnn, ← hRR]
  clear h1 h2 h3 h4 hR hf hfs ih hk hni hnn hx hW b1 b2 b3 b4 hN hM hRR hwe
  obtain ⟨q0, q3, q4⟩ := HS.out W (Below.refl _ _)
  go_enter Tryz.func103, Tryz.ntmps103
  go_upto_region 10 with fail
  rw [← HW.out]
  clear q0 q3 q4
  go_wp2_with fail
  go_loopw [3, 4] (fun s i wr => ∃ (k : Nat) (T : ByteArray), k ≤ ni ∧ i = .int .i64 k ∧ s = .string T ∧ T.data.toList = JV.encI true (v.items.take k) ∧ Below W.heap.size W wr) (fun _ i _ => ni - (intOf i).toNat)
  case atStart => exact ⟨0, _, Nat.zero_le _, rfl, rfl, rfl, Below.refl _ _⟩
  case round =>
    obtain ⟨k, T, hk, rfl, rfl, hT, hbw⟩ := hrel
    have HTT := Lib.hid hT
    have HB := Lib.hid hbw
    have hTz : T.size ≤ 300000000000 := by
      rw [← toList_length, hT]
      have h1 := JV.encI_length (v.items.take k) true (JV.forms_take _ _ HFS.out)
      have h2 := JV.wts_take v.items k
      have h3 := HBN.out
      have h4 := HNW.out
      omega
    clear hT hbw
    obtain ⟨q0, q3, q4⟩ := HS.out wr HB.out
    by_cases hlt : k < ni
    · have m1 : (k : Int) < (ni : Int) := by omega
      have m0 : (0 : Int) ≤ (k : Int) := by omega
      have hlt' : k < v.items.length := by rw [← HNI.out]; exact hlt
      obtain ⟨b, off, c0, c1, c2, c3, c4, ha, _, hb, e0, e1, e2, e3, e4, hrep⟩ := H4.out.at k hlt'
      subst ha
      have HIT := Lib.hid (show ∀ w' : World, Below W.heap.size W w' → w'.cell? ⟨b, off + k * 5, none⟩ = some c0 ∧ w'.cell? ⟨b, off + k * 5 + 1, none⟩ = some c1 ∧ w'.cell? ⟨b, off + k * 5 + 2, none⟩ = some c2 ∧ w'.cell? ⟨b, off + k * 5 + 3, none⟩ = some c3 ∧ w'.cell? ⟨b, off + k * 5 + 4, none⟩ = some c4 from fun w' h =>
        have hw := HWT.out w' h
        ⟨(World.cell?_of_block (w := w) (hw.block b hb)).trans e0, (World.cell?_of_block (w := w) (hw.block b hb)).trans e1, (World.cell?_of_block (w := w) (hw.block b hb)).trans e2, (World.cell?_of_block (w := w) (hw.block b hb)).trans e3, (World.cell?_of_block (w := w) (hw.block b hb)).trans e4⟩)
      have hwi := JV.wts_get v.items k hlt'
      have HFC := Lib.hid (show ∀ w' : World, Below W.heap.size W w' → Calls Tryz.prog 103 #[.agg #[c0, c1, c2, c3, c4]] w' (FormPost v.items[k] w') from fun w' h => by
        have hw := HWT.out w' h
        have h3 := HBN.out
        have h4 := HNW1.out
        have h5 := HNM.out
        exact IH.out v.items[k] _ w' (by omega) (by omega) (JV.forms_get v.items k hlt' HFS.out) (hrep.below hw (Nat.le_refl _) (Nat.le_refl _) hw.size))
      unfold FormPost at HFC
      obtain ⟨E, hE⟩ : ∃ E : ByteArray, E = ⟨v.items[k].enc.toArray⟩ := ⟨_, rfl⟩
      have HEE := Lib.hid (show E.data.toList = v.items[k].enc by rw [hE])
      have hEz : E.size ≤ 300000000000 := by
        rw [← toList_length, HEE.out]
        have h1 := JV.enc_length v.items[k] (JV.forms_get v.items k hlt' HFS.out)
        have h3 := HBN.out
        have h4 := HNW.out
        omega
      rw [← hE] at HFC
      clear e0 e1 e2 e3 e4 hrep hE hwi hb
      rcases Nat.eq_zero_or_pos k with hk0 | hk0
      case' inl =>
        have t0 : ¬ ((0 : Int) < (k : Int)) := by omega
        obtain ⟨T', hT'⟩ : ∃ T', T' = T := ⟨_, rfl⟩
        have HT2 := Lib.hid (show T'.data.toList = JV.encI true (v.items.take k) ++ sep (decide (k = 0)) by rw [hT', HTT.out, decide_eq_true hk0]; simp [sep])
        have hTz2 : T'.size ≤ 300000000001 := by rw [hT']; omega
        have hTE : T = T' := hT'.symm
        subst hTE
        clear hT' HTT hTz
      case' inr =>
        have t0 : (0 : Int) < (k : Int) := by omega
        obtain ⟨T', hT'⟩ : ∃ T', T' = T ++ ⟨#[44]⟩ := ⟨_, rfl⟩
        have HT2 := Lib.hid (show T'.data.toList = JV.encI true (v.items.take k) ++ sep (decide (k = 0)) by rw [hT', toList_app, HTT.out, decide_eq_false (by omega)]; rfl)
        have hTz2 : T'.size ≤ 300000000001 := by rw [hT', ByteArray.size_append]; show T.size + 1 ≤ _; omega
        have hTE : T ++ ⟨#[44]⟩ = T' := hT'.symm
        clear hT' HTT
      all_goals
        clear hk0
        go_upto_region 16 with fail
        obtain ⟨e0, e1, e2, e3, e4⟩ := HIT.out wr HB.out
        go_wp2_with fail
        refine (HFC.out wr HB.out).mono ?_
        clear HFC e0 e1 e2 e3 e4 q0 q3 q4
        rintro e w1 ⟨rfl, hb1⟩
        have HB2 := Lib.hid (HB.out.trans (hb1.mono HB.out.size))
        clear hb1
        obtain ⟨q0, q3, q4⟩ := HS.out w1 HB2.out
        have HFK := Lib.hid (JV.encI_take v.items k hlt')
        have HKI := Lib.hid hlt
        go_wp2
        go_roundw
        case rel => exact ⟨k + 1, _, by have := HKI.out; omega, by go_num, rfl, by rw [HFK.out]; simp only [toList_app, HT2.out, HEE.out, List.append_assoc], HB2.out⟩
        case measure => have := HKI.out; simp [intOf]; omega
    · have hke : k = ni := by omega
      have m1 : ¬ ((k : Int) < (ni : Int)) := by omega
      have HFE := Lib.hid (show (⟨#[91]⟩ : ByteArray) ++ T ++ ⟨#[93]⟩ = R from ba_ext (by
        rw [ByteArray.toList_eq, ByteArray.toList_eq, toList_app, toList_app, HTT.out, HRR.out, HEQ.out, hke, HNI.out, List.take_length]
        simp))
      clear hke hlt hk
      go_wp2
      go_ret
      exact ⟨congrArg (fun z => Ending.returned (.string z)) HFE.out, HWT.out _ HB.out⟩

set_option maxRecDepth 100000 in
set_option maxHeartbeats 2000000 in
theorem formObj (N : Nat) (ih : FormTo N) (v : JV) (x : Value) (w : World) (hN : v.wt ≤ N + 1) (hM : N + 1 ≤ 4294967296) (hf : v.form true) (hR : Rep w 0 w.heap.size v x) (hk : v.kind = 5) :
    Calls Tryz.prog 103 #[x] w (FormPost v w) := by
  obtain ⟨an, cn, ai, ci, rfl, h1, h2, h3, h4⟩ := hR.parts
  obtain ⟨b1, b2, b3, b4⟩ := v.wt_bd
  have hwe := v.wt_eq
  have hfs := (JV.form_eq hf).2
  obtain ⟨hnl, htx⟩ : v.names.length = v.items.length ∧ ∀ i (h : i < v.names.length), txtOk v.names[i] = true := by
    rcases (JV.form_eq hf).1 with e | ⟨e, _⟩ | ⟨e, _⟩ | e | ⟨_, e⟩ <;> first | (exact e) | omega
  have HNL := Lib.hid hnl
  have HTX := Lib.hid htx
  obtain ⟨W, hW⟩ : ∃ W, W = w.alloc (.cells #[.int .u8 v.kind, .int .i64 v.n, .string v.t, .slice an v.names.length cn, .slice ai v.items.length ci] 44) := ⟨_, rfl⟩
  have HBW := Lib.hid (show Below w.heap.size w W by rw [hW]; exact (Below.refl _ _).alloc (Nat.le_refl _) _)
  have hx : W.heap[w.heap.size]? = some (.cells #[.int .u8 v.kind, .int .i64 v.n, .string v.t, .slice an v.names.length cn, .slice ai v.items.length ci] 44 (0, 0)) := by rw [hW]; exact heap_alloc_new w _
  obtain ⟨ni, hni⟩ : ∃ ni, ni = v.items.length := ⟨_, rfl⟩
  obtain ⟨nn, hnn⟩ : ∃ nn, nn = v.names.length := ⟨_, rfl⟩
  rw [hk, ← hni, ← hnn] at hx
  have HS := Lib.hid (show ∀ w' : World, Below W.heap.size W w' → w'.cell? ⟨w.heap.size, 0, none⟩ = some (.int .u8 5) ∧ w'.cell? ⟨w.heap.size, 3, none⟩ = some (.slice an nn cn) ∧ w'.cell? ⟨w.heap.size, 4, none⟩ = some (.slice ai ni ci) from fun w' h => by
    have y0 := (h.block _ (heap_lt hx)).trans hx
    exact ⟨box_cell y0 rfl, box_cell y0 rfl, box_cell y0 rfl⟩)
  have HWT := Lib.hid (show ∀ w' : World, Below W.heap.size W w' → Below w.heap.size w w' from fun w' h => HBW.out.trans (h.mono HBW.out.size))
  have HNI := Lib.hid hni
  have HNN := Lib.hid hnn
  have HEQ := Lib.hid (show v.enc = 123 :: (JV.encO true v.names v.items ++ [125]) by rw [v.enc_eq, hk]; rfl)
  have HFS := Lib.hid hfs
  have HBN := Lib.hid (And.intro b2 (And.intro b3 (And.intro b4 hwe)))
  have H3 := Lib.hid h3
  have H4 := Lib.hid h4
  have IH := Lib.hid ih
  have hnb : ni ≤ 4611686018427387904 := by omega
  have hnb2 : nn ≤ 4611686018427387904 := by omega
  have HNW := Lib.hid (show v.wt ≤ 4294967296 by omega)
  have HNW1 := Lib.hid hN
  have HNM := Lib.hid hM
  obtain ⟨R, hRR⟩ : ∃ R : ByteArray, R = ⟨v.enc.toArray⟩ := ⟨_, rfl⟩
  have HRR := Lib.hid (show R.data.toList = v.enc by rw [hRR])
  have HW := Lib.hid (show W = w.alloc (.cells #[.int .u8 5, .int .i64 v.n, .string v.t, .slice an nn cn, .slice ai ni ci] 44) by rw [hW, hk, hni, hnn])
  unfold FormPost
  rw [hk, ← hni, ← hnn, ← hRR]
  clear h1 h2 h3 h4 hR hf hfs ih hk hni hnn hx hW b1 b2 b3 b4 hN hM hRR hwe hnl htx
  obtain ⟨q0, q3, q4⟩ := HS.out W (Below.refl _ _)
  go_enter Tryz.func103, Tryz.ntmps103
  go_upto_region 10 with fail
  rw [← HW.out]
  clear q0 q3 q4
  go_wp2_with fail
  go_loopw [3, 4] (fun s i wr => ∃ (k : Nat) (T : ByteArray), k ≤ ni ∧ i = .int .i64 k ∧ s = .string T ∧ T.data.toList = JV.encO true (v.names.take k) (v.items.take k) ∧ Below W.heap.size W wr) (fun _ i _ => ni - (intOf i).toNat)
  case atStart => exact ⟨0, _, Nat.zero_le _, rfl, rfl, rfl, Below.refl _ _⟩
  case round =>
    obtain ⟨k, T, hk, rfl, rfl, hT, hbw⟩ := hrel
    have HTT := Lib.hid hT
    have HB := Lib.hid hbw
    have hTz : T.size ≤ 300000000000 := by
      rw [← toList_length, hT]
      have h1 := JV.encO_length (v.names.take k) (v.items.take k) true (JV.forms_take _ _ HFS.out)
      have h2 := JV.wts_take v.items k
      have h3 := HBN.out
      have h4 := HNW.out
      have h5 := bytesSum_take v.names k
      omega
    clear hT hbw
    obtain ⟨q0, q3, q4⟩ := HS.out wr HB.out
    by_cases hlt : k < ni
    · have m1 : (k : Int) < (ni : Int) := by omega
      have m0 : (0 : Int) ≤ (k : Int) := by omega
      have hlt' : k < v.items.length := by rw [← HNI.out]; exact hlt
      obtain ⟨b, off, c0, c1, c2, c3, c4, ha, _, hb, e0, e1, e2, e3, e4, hrep⟩ := H4.out.at k hlt'
      subst ha
      have HIT := Lib.hid (show ∀ w' : World, Below W.heap.size W w' → w'.cell? ⟨b, off + k * 5, none⟩ = some c0 ∧ w'.cell? ⟨b, off + k * 5 + 1, none⟩ = some c1 ∧ w'.cell? ⟨b, off + k * 5 + 2, none⟩ = some c2 ∧ w'.cell? ⟨b, off + k * 5 + 3, none⟩ = some c3 ∧ w'.cell? ⟨b, off + k * 5 + 4, none⟩ = some c4 from fun w' h =>
        have hw := HWT.out w' h
        ⟨(World.cell?_of_block (w := w) (hw.block b hb)).trans e0, (World.cell?_of_block (w := w) (hw.block b hb)).trans e1, (World.cell?_of_block (w := w) (hw.block b hb)).trans e2, (World.cell?_of_block (w := w) (hw.block b hb)).trans e3, (World.cell?_of_block (w := w) (hw.block b hb)).trans e4⟩)
      have hwi := JV.wts_get v.items k hlt'
      have HFC := Lib.hid (show ∀ w' : World, Below W.heap.size W w' → Calls Tryz.prog 103 #[.agg #[c0, c1, c2, c3, c4]] w' (FormPost v.items[k] w') from fun w' h => by
        have hw := HWT.out w' h
        have h3 := HBN.out
        have h4 := HNW1.out
        have h5 := HNM.out
        exact IH.out v.items[k] _ w' (by omega) (by omega) (JV.forms_get v.items k hlt' HFS.out) (hrep.below hw (Nat.le_refl _) (Nat.le_refl _) hw.size))
      unfold FormPost at HFC
      obtain ⟨E, hE⟩ : ∃ E : ByteArray, E = ⟨v.items[k].enc.toArray⟩ := ⟨_, rfl⟩
      have HEE := Lib.hid (show E.data.toList = v.items[k].enc by rw [hE])
      have hEz : E.size ≤ 300000000000 := by
        rw [← toList_length, HEE.out]
        have h1 := JV.enc_length v.items[k] (JV.forms_get v.items k hlt' HFS.out)
        have h3 := HBN.out
        have h4 := HNW.out
        omega
      rw [← hE] at HFC
      have hltn : k < v.names.length := by rw [HNL.out]; exact hlt'
      obtain ⟨nb, noff, han, _, hnb', yn⟩ := H3.out.at k hltn
      subst han
      obtain ⟨nm, hnm⟩ : ∃ nm, nm = v.names[k] := ⟨_, rfl⟩
      rw [← hnm] at yn
      have HNT := Lib.hid (show ∀ w' : World, Below W.heap.size W w' → w'.cell? ⟨nb, noff + k, none⟩ = some (.string nm) from fun w' h => (World.cell?_of_block (w := w) ((HWT.out w' h).block nb hnb')).trans yn)
      have hnz : nm.size ≤ 4096 := by
        have := HTX.out k hltn
        rw [← hnm] at this
        exact txt_size this
      have HTC := Lib.hid (fun w' => ref10Text nm w' (by omega))
      obtain ⟨QN, hQN⟩ : ∃ QN : ByteArray, QN = ⟨(quoteL nm.data.toList).toArray⟩ := ⟨_, rfl⟩
      have HQN := Lib.hid (show QN.data.toList = quoteL nm.data.toList by rw [hQN])
      have hQz : QN.size ≤ 10000 := by rw [← toList_length, HQN.out]; have := quoteL_length nm; omega
      rw [← hQN] at HTC
      have HNMQ := Lib.hid hnm
      have m5 : (k : Int) < (nn : Int) := by have := HNN.out; omega
      clear yn hQN hnm hnb' hnz
      clear e0 e1 e2 e3 e4 hrep hE hwi hb
      rcases Nat.eq_zero_or_pos k with hk0 | hk0
      case' inl =>
        have t0 : ¬ ((0 : Int) < (k : Int)) := by omega
        obtain ⟨T', hT'⟩ : ∃ T', T' = T := ⟨_, rfl⟩
        have HT2 := Lib.hid (show T'.data.toList = JV.encO true (v.names.take k) (v.items.take k) ++ sep (decide (k = 0)) by rw [hT', HTT.out, decide_eq_true hk0]; simp [sep])
        have hTz2 : T'.size ≤ 300000000001 := by rw [hT']; omega
        have hTE : T = T' := hT'.symm
        subst hTE
        clear hT' HTT hTz
      case' inr =>
        have t0 : (0 : Int) < (k : Int) := by omega
        obtain ⟨T', hT'⟩ : ∃ T', T' = T ++ ⟨#[44]⟩ := ⟨_, rfl⟩
        have HT2 := Lib.hid (show T'.data.toList = JV.encO true (v.names.take k) (v.items.take k) ++ sep (decide (k = 0)) by rw [hT', toList_app, HTT.out, decide_eq_false (by omega)]; rfl)
        have hTz2 : T'.size ≤ 300000000001 := by rw [hT', ByteArray.size_append]; show T.size + 1 ≤ _; omega
        have hTE : T ++ ⟨#[44]⟩ = T' := hT'.symm
        clear hT' HTT
      all_goals
        clear hk0
        go_upto_region 16 with fail
        have yn := HNT.out wr HB.out
        go_wp2_with fail
        refine (HTC.out wr).mono ?_
        clear HTC yn q0 q3 q4
        rintro e w0 ⟨rfl, hb0⟩
        have HB1 := Lib.hid (HB.out.trans (hb0.mono HB.out.size))
        clear hb0
        obtain ⟨q0, q3, q4⟩ := HS.out w0 HB1.out
        obtain ⟨e0, e1, e2, e3, e4⟩ := HIT.out w0 HB1.out
        go_wp2_with fail
        refine (HFC.out w0 HB1.out).mono ?_
        clear HFC e0 e1 e2 e3 e4 q0 q3 q4
        rintro e w1 ⟨rfl, hb1⟩
        have HB2 := Lib.hid (HB1.out.trans (hb1.mono HB1.out.size))
        clear hb1
        obtain ⟨q0, q3, q4⟩ := HS.out w1 HB2.out
        have HFK := Lib.hid (JV.encO_take v.names v.items k hlt' hltn)
        have HKI := Lib.hid hlt
        go_wp2
        go_roundw
        case rel => exact ⟨k + 1, _, by have := HKI.out; omega, by go_num, rfl, by rw [HFK.out]; simp only [toList_app, HT2.out, HEE.out, HQN.out, HNMQ.out, List.append_assoc]; simp, HB2.out⟩
        case measure => have := HKI.out; simp [intOf]; omega
    · have hke : k = ni := by omega
      have m1 : ¬ ((k : Int) < (ni : Int)) := by omega
      have HFE := Lib.hid (show (⟨#[123]⟩ : ByteArray) ++ T ++ ⟨#[125]⟩ = R from ba_ext (by
        rw [ByteArray.toList_eq, ByteArray.toList_eq, toList_app, toList_app, HTT.out, HRR.out, HEQ.out, hke, HNI.out, List.take_length, show v.names.take v.items.length = v.names from by rw [← HNL.out, List.take_length]]
        simp))
      clear hke hlt hk
      go_wp2
      go_ret
      exact ⟨congrArg (fun z => Ending.returned (.string z)) HFE.out, HWT.out _ HB.out⟩

theorem ref10Form (N : Nat) : FormTo N := by
  induction N with
  | zero => intro v x w h; have := v.wt_pos; omega
  | succ N ih =>
    intro v x w hN hM hf hR
    rcases (JV.form_eq hf).1 with e | ⟨e, _⟩ | ⟨e, _⟩ | e | ⟨e, _⟩
    · exact formLeaf v x w (by omega) hf hR (.inl e)
    · exact formLeaf v x w (by omega) hf hR (.inr (.inl e))
    · exact formLeaf v x w (by omega) hf hR (.inr (.inr e))
    · exact formList N ih v x w hN hM hf hR e
    · exact formObj N ih v x w hN hM hf hR e

set_option maxRecDepth 100000 in
set_option maxHeartbeats 1000000 in
theorem ref10Encode (v : JV) (x : Value) (w : World) (hv : v.wt ≤ 4294967296) (hn : v.num) (hR : Rep w 0 w.heap.size v x) :
    Calls Tryz.prog 77 #[x] w fun e w' => e = .returned (.tuple #[.string ⟨(if v.mayB then v.enc else []).toArray⟩, .int .i64 (if v.mayB then 0 else 3)]) ∧ Below w.heap.size w w' := by
  obtain ⟨an, cn, ai, ci, rfl, h1, h2, h3, h4⟩ := hR.parts
  obtain ⟨W, hW⟩ : ∃ W, W = w.alloc (.cells #[.int .u8 v.kind, .int .i64 v.n, .string v.t, .slice an v.names.length cn, .slice ai v.items.length ci] 44) := ⟨_, rfl⟩
  have HBW := Lib.hid (show Below w.heap.size w W by rw [hW]; exact (Below.refl _ _).alloc (Nat.le_refl _) _)
  have hx : W.heap[w.heap.size]? = some (.cells #[.int .u8 v.kind, .int .i64 v.n, .string v.t, .slice an v.names.length cn, .slice ai v.items.length ci] 44 (0, 0)) := by rw [hW]; exact heap_alloc_new w _
  have HS := Lib.hid (show ∀ w' : World, Below W.heap.size W w' → w'.cell? ⟨w.heap.size, 0, none⟩ = some (.int .u8 v.kind) ∧ w'.cell? ⟨w.heap.size, 1, none⟩ = some (.int .i64 v.n) ∧ w'.cell? ⟨w.heap.size, 2, none⟩ = some (.string v.t) ∧ w'.cell? ⟨w.heap.size, 3, none⟩ = some (.slice an v.names.length cn) ∧ w'.cell? ⟨w.heap.size, 4, none⟩ = some (.slice ai v.items.length ci) from fun w' h => by
    have y0 := (h.block _ (heap_lt hx)).trans hx
    exact ⟨box_cell y0 rfl, box_cell y0 rfl, box_cell y0 rfl, box_cell y0 rfl, box_cell y0 rfl⟩)
  have hRW := hR.below HBW.out (Nat.le_refl _) (Nat.le_refl _) HBW.out.size
  have HRW := Lib.hid hRW
  have HM := Lib.hid (refMay v _ W hv hRW)
  obtain ⟨mb, hmb⟩ : ∃ mb, mb = v.mayB := ⟨_, rfl⟩
  have HFM := Lib.hid (show mb = true → v.form true from fun h => JV.form_of_may v _ _ hn (by rw [← h, hmb]; rfl))
  rw [← hmb] at HM ⊢
  have HFC := Lib.hid (show ∀ w' : World, Below W.heap.size W w' → mb = true → Calls Tryz.prog 103 #[.agg #[.int .u8 v.kind, .int .i64 v.n, .string v.t, .slice an v.names.length cn, .slice ai v.items.length ci]] w' (FormPost v w') from fun w' h hm => ref10Form _ v _ w' (Nat.le_refl _) hv (HFM.out hm) (hRW.below h (Nat.le_refl _) (Nat.le_refl _) h.size))
  unfold FormPost at HFC
  obtain ⟨R, hRR⟩ : ∃ R : ByteArray, R = ⟨v.enc.toArray⟩ := ⟨_, rfl⟩
  rw [← hRR] at HFC
  have HRR := Lib.hid hRR
  have HW := Lib.hid hW
  clear hW hx hRW hR h1 h2 h3 h4 hmb hRR
  obtain ⟨q0, q1, q2, q3, q4⟩ := HS.out W (Below.refl _ _)
  go_enter Tryz.func77, Tryz.ntmps77
  go_wp2_with fail
  rw [← HW.out]
  refine HM.out.mono ?_
  clear HM q0 q1 q2 q3 q4
  rintro e w1 ⟨rfl, hb1⟩
  have HB1 := Lib.hid hb1
  clear hb1
  cases mb
  · go_wp2
    go_ret2
    exact ⟨rfl, HBW.out.trans (HB1.out.mono HBW.out.size)⟩
  · obtain ⟨q0, q1, q2, q3, q4⟩ := HS.out w1 HB1.out
    go_wp2_with fail
    refine (HFC.out w1 HB1.out (by first | rfl | trivial)).mono ?_
    rintro e w2 ⟨rfl, hb2⟩
    have HB2 := Lib.hid (HB1.out.trans (hb2.mono HB1.out.size))
    clear hb2
    go_wp2
    go_ret2
    exact ⟨by rw [HRR.out] <;> rfl, HBW.out.trans (HB2.out.mono HBW.out.size)⟩

end Go.Proofs.YtaekmmnpdbmoeaaGreatDoor
