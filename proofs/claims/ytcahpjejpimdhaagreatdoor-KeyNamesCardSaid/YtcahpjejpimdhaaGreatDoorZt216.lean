/- The contract of pick.Of for any value that came in; what is picked does not hang on what value.Copy may have made zero. The contract of key.Of for any value that came in. -/
import Derived.Test.YtcahpjejpimdhaaGreatDoorZt215
import Derived.Test.YtcahpjejpimdhaaGreatDoorZt209
import Derived.Test.YtcahpjejpimdhaaGreatDoorZt213

namespace Go.Proofs.YtcahpjejpimdhaaGreatDoor
open Go.RowKit Go.WideMaps Go.Maps

theorem wts_pt : ∀ (l l' : List JV), l'.length = l.length → (∀ j (h : j < l'.length) (h' : j < l.length), l'[j].wt ≤ l[j].wt) → JV.wts l' ≤ JV.wts l
  | [], [], _, _ => Nat.le_refl _
  | x :: r, y :: s, h, hp => by
    have h0 := hp 0 (by simp) (by simp)
    have h1 := wts_pt r s (by simpa using h) (fun j h1 h2 => by have := hp (j + 1) (by simpa using h1) (by simpa using h2); simpa using this)
    simp only [List.getElem_cons_zero] at h0
    rw [JV.wts, JV.wts]; omega
  | [], _ :: _, h, _ => by simp at h
  | _ :: _, [], h, _ => by simp at h
theorem WeakCopy.wt {v v' : JV} (h : WeakCopy v v') : v'.wt ≤ v.wt := by
  have := wts_pt v.items v'.items h.len (fun j h1 h2 => by
    rcases h.items j h1 h2 with e | ⟨e, _⟩
    · rw [e]; exact Nat.le_refl _
    · rw [e]; exact JV.wt_pos _)
  rw [JV.wt_eq, JV.wt_eq, h.t, h.names]; omega

theorem look_weak : ∀ (ns : List ByteArray) (l l' : List JV) (y : ByteArray), l'.length = l.length → (∀ j (h : j < l'.length) (h' : j < l.length), WeakItem l[j] l'[j]) →
    (lookL ns l y = none ∧ lookL ns l' y = none) ∨ ∃ j, ∃ h : j < l.length, ∃ h' : j < l'.length, lookL ns l y = some l[j] ∧ lookL ns l' y = some l'[j] ∧ WeakItem l[j] l'[j]
  | [], l, l', y, _, _ => .inl ⟨by simp [lookL], by simp [lookL]⟩
  | n :: ns, [], [], y, _, _ => .inl ⟨by simp [lookL], by simp [lookL]⟩
  | n :: ns, x :: r, x' :: r', y, h, hw => by
    by_cases e : n = y
    · exact .inr ⟨0, by simp, by simp, by simp [lookL, e], by simp [lookL, e], hw 0 (by simp) (by simp)⟩
    · rcases look_weak ns r r' y (by simpa using h) (fun j h1 h2 => by have := hw (j + 1) (by simpa using h1) (by simpa using h2); simpa using this) with ⟨h1, h2⟩ | ⟨j, h1, h2, h3, h4, h5⟩
      · exact .inl ⟨by rw [lookL, if_neg e, h1], by rw [lookL, if_neg e, h2]⟩
      · exact .inr ⟨j + 1, by simpa using h1, by simpa using h2, by rw [lookL, if_neg e, h3]; rfl, by rw [lookL, if_neg e, h4]; rfl, by simpa using h5⟩
  | _ :: _, [], _ :: _, _, h, _ => by simp at h
  | _ :: _, _ :: _, [], _, h, _ => by simp at h

theorem partsB_get (l : List JV) (j : Nat) (h : j < l.length) (hp : JV.partsB l = true) : l[j].partB = true := by
  cases hb : l[j].partB
  · rw [JV.partsB_bad l j h hb] at hp; cases hp
  · rfl
theorem pickText_weak {v v' : JV} (hw : WeakCopy v v') (hm : v.mayB = true) (y : ByteArray) (st : PS) : pickText v' y st = pickText v y st := by
  unfold pickText JV.look
  rw [hw.names]
  split
  · rfl
  rcases look_weak v.names v.items v'.items y hw.len (fun j h h' => hw.items j h h') with ⟨h1, h2⟩ | ⟨j, h1, h2, h3, h4, h5⟩
  · rw [h1, h2]
  · rw [h3, h4]
    rcases h5 with e | ⟨e, hns⟩
    · rw [e]
    · rw [e]
      by_cases hk : v.items[j].kind = 3
      · exfalso
        have hp : v.partB = true := by rw [JV.mayB_iff] at hm; simp at hm; exact hm.1.1
        rw [JV.partB_eq] at hp
        have hpp := partsB_get v.items j h1 (by simp at hp; exact hp.2)
        rw [JV.partB_eq] at hpp
        have h0 := JV.proper_leaf (v := v.items[j]) (by simp at hpp; exact hpp.1) (by rw [hk]; decide) (by rw [hk]; decide)
        exact hns (.inr fun k hk' => by rw [h0] at hk'; simp at hk')
      · show (if zeroJ.kind = 3 then _ else _) = (if v.items[j].kind = 3 then _ else _)
        rw [if_neg hk, if_neg (by decide)]
theorem pickDone_weak {v v' : JV} (hw : WeakCopy v v') (st : PS) : pickDone v' st = pickDone v st := by unfold pickDone; rw [hw.names]

def OfWPost (v : JV) (w : World) (e : Ending) (w' : World) : Prop := ∃ v', WeakCopy v v' ∧ OfPost v' w e w'

set_option maxHeartbeats 400000 in
set_option maxRecDepth 100000 in
theorem pickOf_goodW (v : JV) (x : Value) (w : World) (hi : Nat) (hN : v.wt ≤ 4294967296) (hhi : hi ≤ w.heap.size) (hR : Rep w 0 hi v x) (hk : v.kind = 5) (hr : rises v.names = true) (hl : v.names.length = v.items.length) :
    Calls Tryz.prog 52 #[x] w (OfWPost v w) := by
  obtain ⟨an, cn, ai, ci, rfl, h1, h2, h3, h4⟩ := hR.parts
  obtain ⟨b1, b2, b3, b4⟩ := v.wt_bd
  rw [hl, hk]
  rw [hl, hk] at hR
  obtain ⟨nn, hnn⟩ : ∃ nn, nn = v.items.length := ⟨_, rfl⟩
  rw [← hnn] at hR b3 ⊢
  have HNN := Lib.hid hnn
  have H3 := Lib.hid h3
  have HR := Lib.hid hR
  have HRS := Lib.hid hr
  have HK := Lib.hid hk
  have HL := Lib.hid hl
  clear h1 h2 h3 h4 hR hr hk hnn hl
  have hmm := @run_makeMap Tryz.prog
  have HB0 := Lib.hid (show Below w.heap.size w (w.alloc (.cells #[.int .u8 5, .int .i64 v.n, .string v.t, .slice an nn cn, .slice ai nn ci] 29)) from (Below.refl _ _).alloc (Nat.le_refl _) _)
  have HX0 := Lib.hid (heap_alloc_new w (.cells #[.int .u8 5, .int .i64 v.n, .string v.t, .slice an nn cn, .slice ai nn ci] 29))
  go_enter Tryz.func52, Tryz.ntmps52
  go_wp2
  go_loopw [3] (fun i wr => ∃ k : Nat, 1 ≤ k ∧ (k ≤ nn ∨ k = 1) ∧ i = .int .i64 k ∧ Below (w.heap.size + 1) (w.alloc (.cells #[.int .u8 5, .int .i64 v.n, .string v.t, .slice an nn cn, .slice ai nn ci] 29)) wr) (fun i _ => nn - (intOf i).toNat)
  case atStart => exact ⟨1, by omega, .inr rfl, rfl, Below.refl _ _⟩
  case round =>
    obtain ⟨k, hk1, hk2, rfl, hbel⟩ := hrel
    have hz : w.heap.size + 1 ≤ wr.heap.size := by have := hbel.size; simpa using this
    have hx1 : wr.heap[w.heap.size]? = some (.cells #[.int .u8 5, .int .i64 v.n, .string v.t, .slice an nn cn, .slice ai nn ci] 29 (0, 0)) := by rw [hbel.block _ (by omega)]; exact HX0.out
    have HX1 := Lib.hid hx1
    have HBW := Lib.hid (show Below w.heap.size w wr from HB0.out.trans (hbel.mono (by omega)))
    have c3 : wr.cell? ⟨w.heap.size, 3, none⟩ = some (.slice an nn cn) := box_cell hx1 rfl
    have HB := Lib.hid hbel
    clear hx1 hbel
    by_cases hlt : k < nn
    · have hltn : k < v.names.length := by rw [HL.out, ← HNN.out]; exact hlt
      obtain ⟨b, off, rfl, _, hb, y1⟩ := (H3.out.below HBW.out hhi (Nat.le_refl _) (Nat.le_refl _)).at k hltn
      obtain ⟨b', off', hbb, _, _, y0⟩ := (H3.out.below HBW.out hhi (Nat.le_refl _) (Nat.le_refl _)).at (k - 1) (by omega)
      obtain ⟨rfl, rfl⟩ : b = b' ∧ off = off' := by simpa using hbb
      clear hbb
      have hless := rises_lt HRS.out (k - 1) k (by omega) hltn (by omega)
      unfold bl at hless
      generalize v.names[k - 1] = na at hless y0
      generalize v.names[k] = nb at hless y1
      have i0 : IntKind.i64.wrap ((k : Int) - 1) = (k : Int) - 1 := IntWalk.i64_in _ (by omega)
      have j0 : 0 ≤ (k : Int) - 1 := by omega
      have j1 : 1 ≤ (k : Int) := by omega
      have j2 : (k : Int) - 1 < (nn : Int) := by omega
      have j3 : (k : Int) < (nn : Int) := by omega
      have t0 : ((k : Int) - 1).toNat = k - 1 := by omega
      go_wp2_with fail
      go_quiet (fail)
      go_wp2
      go_roundw
      case rel => exact ⟨k + 1, by omega, by omega, by go_num, Below.drewN HB.out _⟩
      case measure => simp [intOf]; omega
    · have c0 : wr.cell? ⟨w.heap.size, 0, none⟩ = some (.int .u8 5) := box_cell HX1.out rfl
      have c1 : wr.cell? ⟨w.heap.size, 1, none⟩ = some (.int .i64 v.n) := box_cell HX1.out rfl
      have c2 : wr.cell? ⟨w.heap.size, 2, none⟩ = some (.string v.t) := box_cell HX1.out rfl
      have c4 : wr.cell? ⟨w.heap.size, 4, none⟩ = some (.slice ai nn ci) := box_cell HX1.out rfl
      have HC := Lib.hid (valueCopyW v _ wr hi hN (by omega) (HR.out.below HBW.out hhi (Nat.le_refl _) (Nat.le_refl _)))
      go_wp2_with fail
      refine HC.out.mono ?_
      clear HC c0 c1 c2 c3 c4
      rintro e w2 ⟨v', an2, cn2, ai2, ci2, hwc, rfl, hr2, hb2⟩
      have HWC := Lib.hid hwc
      clear hwc
      have hz2 := hb2.size
      have HR2 := Lib.hid hr2
      have HB2 := Lib.hid (HBW.out.trans (hb2.mono (by omega)))
      clear hr2 hb2
      go_wp2
      go_ret
      refine ⟨v', HWC.out, w2.heap.size + 1, w2.heap.size, wr.heap.size, w2.heap.size, an2, ai2, cn2, ci2, rfl, ?_, by omega, by omega, (HB2.out.alloc (by omega) _).alloc (by simp; omega) _⟩
      have hbb : Below w2.heap.size w2 ((w2.alloc (.map #[] 0)).alloc (.cells #[.int .u8 v'.kind, .int .i64 v'.n, .string v'.t, .slice an2 v'.names.length cn2, .slice ai2 v'.items.length ci2, .map (some w2.heap.size), .int .i64 0] 118)) := ((Below.refl _ _).alloc (Nat.le_refl _) _).alloc (by simp) _
      exact { obj := by
                have := heap_alloc_new (w2.alloc (.map #[] 0)) (.cells #[.int .u8 v'.kind, .int .i64 v'.n, .string v'.t, .slice an2 v'.names.length cn2, .slice ai2 v'.items.length ci2, .map (some w2.heap.size), .int .i64 0] 118)
                rw [show (w2.alloc (.map #[] 0)).heap.size = w2.heap.size + 1 by simp] at this
                exact this
              map := ⟨_, 0, (World.ownsMap_made w2 _ _ _).alloc _, by omega, AskD.nil⟩
              rep := HR2.out.below hbb (Nat.le_refl _) (Nat.le_refl _) (Nat.le_refl _)
              pos := by omega
              out := ⟨by omega, by omega⟩
              le := hbb.size
              kind := HWC.out.kind.trans HK.out
              rise := by rw [HWC.out.names]; exact HRS.out
              len := by rw [HWC.out.names, HWC.out.len]; exact HL.out
              wt := Nat.le_trans HWC.out.wt hN }

end Go.Proofs.YtcahpjejpimdhaaGreatDoor

namespace Go.Proofs.YtcahpjejpimdhaaGreatDoor
open Go.RowKit Go.WideMaps Go.Maps

set_option maxHeartbeats 1000000 in
set_option maxRecDepth 100000 in
theorem keyOfW (v : JV) (x : Value) (w : World) (hi : Nat) (hN : v.wt ≤ 4294967296) (hhi : hi ≤ w.heap.size) (hR : Rep w 0 hi v x) :
    Calls Tryz.prog 23 #[x] w (KeyOfPost v w) := by
  obtain ⟨an, cn, ai, ci, hx, h1, h2, h3, h4⟩ := hR.parts
  have HR := Lib.hid hR
  clear h1 h2 h3 h4 hR
  subst hx
  have HB0 := Lib.hid (show Below w.heap.size w ((w.alloc (.cells #[.int .u8 v.kind, .int .i64 v.n, .string v.t, .slice an v.names.length cn, .slice ai v.items.length ci] 29)).alloc (.cells #[.string { data := #[] }, .string { data := #[] }] 23)) from ((Below.refl _ _).alloc (Nat.le_refl _) _).alloc (by simp) _)
  have HX0 := Lib.hid (show ((w.alloc (.cells #[.int .u8 v.kind, .int .i64 v.n, .string v.t, .slice an v.names.length cn, .slice ai v.items.length ci] 29)).alloc (.cells #[.string { data := #[] }, .string { data := #[] }] 23)).heap[w.heap.size]? = some (.cells #[.int .u8 v.kind, .int .i64 v.n, .string v.t, .slice an v.names.length cn, .slice ai v.items.length ci] 29 (0, 0)) by rw [Below.heap_alloc _ _ _ (by simp)]; exact heap_alloc_new w _)
  have hr0 := rowIs_box2 (w.alloc (.cells #[.int .u8 v.kind, .int .i64 v.n, .string v.t, .slice an v.names.length cn, .slice ai v.items.length ci] 29)) (.string { data := #[] }) (.string { data := #[] }) 23
  rw [show (w.alloc (.cells #[.int .u8 v.kind, .int .i64 v.n, .string v.t, .slice an v.names.length cn, .slice ai v.items.length ci] 29)).heap.size = w.heap.size + 1 by simp] at hr0
  have HR0 := Lib.hid hr0
  clear hr0
  have HM := Lib.hid (valueMay v _ ((w.alloc (.cells #[.int .u8 v.kind, .int .i64 v.n, .string v.t, .slice an v.names.length cn, .slice ai v.items.length ci] 29)).alloc (.cells #[.string { data := #[] }, .string { data := #[] }] 23)) hN (HR.out.below HB0.out hhi (Nat.zero_le _) (by simp; omega)))
  cases hm : v.mayB
  · have HX := Lib.hid (show keyOfJ v = (({ data := #[] }, { data := #[] }), 3) by unfold keyOfJ; rw [if_pos hm])
    rw [hm] at HM
    clear hm
    go_enter Tryz.func23, Tryz.ntmps23
    go_wp2_with fail
    refine HM.out.mono ?_
    rintro e w1 ⟨rfl, hb1⟩
    have hres := below_row hb1 HR0.out (by simp)
    have HRS := Lib.hid hres
    have HB1 := Lib.hid (HB0.out.trans (hb1.mono (by simp; omega)))
    have t0 := hres.cell (i := 0) (by decide); have t1 := hres.cell (i := 1) (by decide)
    have s0 := hres.frozen 0; have s1 := hres.frozen 1
    simp only [pick2] at t0 t1
    clear hres hb1
    go_wp2
    refine bodyPost_ret (results_row_tmp Tryz.results23 _ _ (w.heap.size + 1) 23 _ (0, 0) _ rfl (row2_heap (set2 _ _ HRS.out)) Tryz.underlying23 rfl (by kernel_rfl) _ rfl) rfl ⟨?_, below2 _ _ HB1.out (by omega)⟩
    rw [HX.out]; rfl
  · rw [hm] at HM
    have HMB := Lib.hid hm
    clear hm
    by_cases hk : v.kind = 5
    · obtain ⟨hri, hle, htx⟩ := may_obj HMB.out hk
      obtain ⟨st1, hst1⟩ : ∃ r, r = pickText v pubN ⟨[], 0⟩ := ⟨_, rfl⟩
      obtain ⟨st2, hst2⟩ : ∃ r, r = pickText v schN st1.2 := ⟨_, rfl⟩
      obtain ⟨dn, hdn⟩ : ∃ r, r = pickDone v st2.2 := ⟨_, rfl⟩
      have HX := Lib.hid (show keyOfJ v = if dn ≠ 0 then (({ data := #[] }, { data := #[] }), dn) else if keyOk st2.1.data.toList st1.1.data.toList then ((st2.1, st1.1), 0) else (({ data := #[] }, { data := #[] }), 3) by
        unfold keyOfJ; rw [if_neg (by rw [HMB.out]; simp), if_neg (by simp [hk]), hdn, hst2, hst1])
      obtain ⟨z1, z2⟩ := text_size (y := pubN) (st := ⟨[], 0⟩) hN
      obtain ⟨z3, z4⟩ := text_size (y := schN) (st := st1.2) hN
      rw [← hst1] at z1 z2
      rw [← hst2] at z3 z4
      simp only [List.length_nil] at z2
      have HST1 := Lib.hid hst1
      have HST2 := Lib.hid hst2
      have HDN := Lib.hid hdn
      have HRI := Lib.hid hri
      have HLE := Lib.hid hle
      have HTX := Lib.hid htx
      have HK := Lib.hid hk
      clear hst1 hst2 hdn hri hle htx hk
      go_enter Tryz.func23, Tryz.ntmps23
      go_wp2_with fail
      refine HM.out.mono ?_
      clear HM
      rintro e w1 ⟨rfl, hb1⟩
      have hz1 : w.heap.size + 2 ≤ w1.heap.size := by have := hb1.size; simp at this; omega
      have HB1 := Lib.hid (HB0.out.trans (hb1.mono (by simp; omega)))
      have HR1 := Lib.hid (below_row hb1 HR0.out (by simp))
      have hx1 : w1.heap[w.heap.size]? = some (.cells #[.int .u8 v.kind, .int .i64 v.n, .string v.t, .slice an v.names.length cn, .slice ai v.items.length ci] 29 (0, 0)) := by rw [hb1.block _ (by simp; omega)]; exact HX0.out
      have c0 : w1.cell? ⟨w.heap.size, 0, none⟩ = some (.int .u8 v.kind) := box_cell hx1 rfl
      have c1 : w1.cell? ⟨w.heap.size, 1, none⟩ = some (.int .i64 v.n) := box_cell hx1 rfl
      have c2 : w1.cell? ⟨w.heap.size, 2, none⟩ = some (.string v.t) := box_cell hx1 rfl
      have c3 : w1.cell? ⟨w.heap.size, 3, none⟩ = some (.slice an v.names.length cn) := box_cell hx1 rfl
      have c4 : w1.cell? ⟨w.heap.size, 4, none⟩ = some (.slice ai v.items.length ci) := box_cell hx1 rfl
      have HOF := Lib.hid (pickOf_goodW v _ w1 hi hN (by omega) (HR.out.below HB1.out hhi (Nat.le_refl _) (Nat.le_refl _)) HK.out HRI.out HLE.out)
      clear hb1 hx1
      go_wp2_with fail
      refine HOF.out.mono ?_
      clear HOF c0 c1 c2 c3 c4 HR HX0 HB0 HR0
      rintro e w2 ⟨v', hwc, o, m, lo2, hi2, an2, ai2, cn2, ci2, rfl, hp2, ho2, hm2, hb2⟩
      have HPW := Lib.hid (pickText_weak hwc HMB.out)
      have HPD := Lib.hid (pickDone_weak hwc)
      have hwv : v'.wt ≤ v.wt := hwc.wt
      clear hwc
      have HT1 := Lib.hid (pickTextF o m lo2 hi2 v' an2 ai2 cn2 ci2 pubN ⟨[], 0⟩ w2 hp2 (by decide) (by simp))
      have HR2 := Lib.hid (below_row hb2 HR1.out (by omega))
      have hz2 := hb2.size
      have HB2 := Lib.hid (HB1.out.trans (hb2.mono (by omega)))
      clear hp2 hb2 HR1 HB1
      go_wp2_with fail
      refine HT1.out.mono ?_
      clear HT1
      rintro e w3 ⟨rfl, hp3, ht3⟩
      rw [HPW.out, ← HST1.out] at hp3 ⊢
      have HT2 := Lib.hid (pickTextF o m lo2 hi2 v' an2 ai2 cn2 ci2 schN st1.2 w3 hp3 (by decide) (by omega))
      have hz3 := ht3.size
      have HR3 := Lib.hid (ht3.row HR2.out (by omega))
      have HB3 := Lib.hid (HB2.out.trans (ht3.below (by omega) fun k hk e => by omega))
      clear hp3 ht3 HR2 HB2
      go_wp2_with fail
      refine HT2.out.mono ?_
      clear HT2
      rintro e w4 ⟨rfl, hp4, ht4⟩
      rw [HPW.out, ← HST2.out] at hp4 ⊢
      have hz4 := ht4.size
      have HR4 := Lib.hid (ht4.row HR3.out (by omega))
      have HB4 := Lib.hid (HB3.out.trans (ht4.below (by omega) fun k hk e => by omega))
      have HDO := Lib.hid (pickDoneF o m lo2 hi2 v' an2 ai2 cn2 ci2 st2.2 (w4.alloc (.cells #[.string st2.1, .string st1.1] 23)) (hp4.below ((Below.refl _ _).alloc (Nat.le_refl _) _)) (fun i hi => by have h1 := bytesSum_get v'.names i hi; have h2 := v'.wt_eq; omega))
      rw [HPD.out, ← HDN.out] at HDO
      clear hp4 ht4 HR3 HB3
      go_wp2_with fail
      refine HDO.out.mono ?_
      clear HDO
      rintro e w5 ⟨rfl, rfl⟩
      have HR5 := Lib.hid (HR4.out.alloc (.cells #[.string st2.1, .string st1.1] 23))
      have HB5 := Lib.hid (HB4.out.alloc HB4.out.size (.cells #[.string st2.1, .string st1.1] 23))
      clear HR4 HB4
      by_cases hd : dn = 0
      · rw [hd] at HX ⊢
        simp only [ne_eq, not_true_eq_false, if_false] at HX
        clear hd HDN
        have HKM := Lib.hid (keyMay st2.1 st1.1 (w4.alloc (.cells #[.string st2.1, .string st1.1] 23)) (by omega) (by omega))
        cases hko : keyOk st2.1.data.toList st1.1.data.toList
        · rw [hko] at HKM HX
          clear hko
          go_wp2_with fail
          refine HKM.out.mono ?_
          rintro e w6 ⟨rfl, hb6⟩
          have hres := below_row hb6 HR5.out (by simp; omega)
          have HRS := Lib.hid hres
          have HB6 := Lib.hid (HB5.out.trans (hb6.mono (by simp; omega)))
          have t0 := hres.cell (i := 0) (by decide); have t1 := hres.cell (i := 1) (by decide)
          have s0 := hres.frozen 0; have s1 := hres.frozen 1
          simp only [pick2] at t0 t1
          clear hres hb6
          go_wp2
          refine bodyPost_ret (results_row_tmp Tryz.results23 _ _ (w.heap.size + 1) 23 _ (0, 0) _ rfl (row2_heap (set2 _ _ HRS.out)) Tryz.underlying23 rfl (by kernel_rfl) _ rfl) rfl ⟨?_, below2 _ _ HB6.out (by omega)⟩
          rw [HX.out]; rfl
        · rw [hko] at HKM HX
          clear hko
          go_wp2_with fail
          refine HKM.out.mono ?_
          rintro e w6 ⟨rfl, hb6⟩
          have hres := below_row hb6 HR5.out (by simp; omega)
          have hx6 : w6.heap[w4.heap.size]? = some (.cells #[.string st2.1, .string st1.1] 23 (0, 0)) := by rw [hb6.block _ (by simp)]; exact heap_alloc_new _ _
          have d0 : w6.cell? ⟨w4.heap.size, 0, none⟩ = some (.string st2.1) := box_cell hx6 rfl
          have d1 : w6.cell? ⟨w4.heap.size, 1, none⟩ = some (.string st1.1) := box_cell hx6 rfl
          have HRS := Lib.hid hres
          have HB6 := Lib.hid (HB5.out.trans (hb6.mono (by simp; omega)))
          have t0 := hres.cell (i := 0) (by decide); have t1 := hres.cell (i := 1) (by decide)
          have s0 := hres.frozen 0; have s1 := hres.frozen 1
          simp only [pick2] at t0 t1
          clear hres hb6 hx6
          go_wp2
          refine bodyPost_ret (results_row_tmp Tryz.results23 _ _ (w.heap.size + 1) 23 _ (0, 0) _ rfl (row2_heap (set2 _ _ HRS.out)) Tryz.underlying23 rfl (by kernel_rfl) _ rfl) rfl ⟨?_, below2 _ _ HB6.out (by omega)⟩
          rw [HX.out]; rfl
      · rw [if_pos hd] at HX
        have hd1 : (dn == 0) = false := by simpa using hd
        have hd2 : (dn != 0) = true := by simpa using hd
        have hres := HR5.out
        have t0 := hres.cell (i := 0) (by decide); have t1 := hres.cell (i := 1) (by decide)
        have s0 := hres.frozen 0; have s1 := hres.frozen 1
        simp only [pick2] at t0 t1
        clear hres hd HDN
        go_wp2
        refine bodyPost_ret (results_row_tmp Tryz.results23 _ _ (w.heap.size + 1) 23 _ (0, 0) _ rfl (row2_heap (set2 _ _ HR5.out)) Tryz.underlying23 rfl (by kernel_rfl) _ rfl) rfl ⟨?_, below2 _ _ HB5.out (by omega)⟩
        rw [HX.out]; rfl
    · have HX := Lib.hid (show keyOfJ v = (({ data := #[] }, { data := #[] }), 10) by unfold keyOfJ; rw [if_neg (by rw [HMB.out]; simp), if_pos hk])
      have HK := Lib.hid hk
      clear hk
      go_enter Tryz.func23, Tryz.ntmps23
      go_wp2_with fail
      refine HM.out.mono ?_
      clear HM
      rintro e w1 ⟨rfl, hb1⟩
      have hz1 : w.heap.size + 2 ≤ w1.heap.size := by have := hb1.size; simp at this; omega
      have HB1 := Lib.hid (HB0.out.trans (hb1.mono (by simp; omega)))
      have HR1 := Lib.hid (below_row hb1 HR0.out (by simp))
      have hx1 : w1.heap[w.heap.size]? = some (.cells #[.int .u8 v.kind, .int .i64 v.n, .string v.t, .slice an v.names.length cn, .slice ai v.items.length ci] 29 (0, 0)) := by rw [hb1.block _ (by simp; omega)]; exact HX0.out
      have c0 : w1.cell? ⟨w.heap.size, 0, none⟩ = some (.int .u8 v.kind) := box_cell hx1 rfl
      have c1 : w1.cell? ⟨w.heap.size, 1, none⟩ = some (.int .i64 v.n) := box_cell hx1 rfl
      have c2 : w1.cell? ⟨w.heap.size, 2, none⟩ = some (.string v.t) := box_cell hx1 rfl
      have c3 : w1.cell? ⟨w.heap.size, 3, none⟩ = some (.slice an v.names.length cn) := box_cell hx1 rfl
      have c4 : w1.cell? ⟨w.heap.size, 4, none⟩ = some (.slice ai v.items.length ci) := box_cell hx1 rfl
      clear hb1 hx1
      go_wp2_with fail
      refine (pickOf_bad v.kind v.n v.t _ _ w1 HK.out).mono ?_
      clear c0 c1 c2 c3 c4
      rintro e w2 ⟨o, rfl, ho1, ho2, hp2, hb2⟩
      have HP2 := Lib.hid hp2
      have HR2 := Lib.hid (below_row hb2 HR1.out (by omega))
      have HB2 := Lib.hid (HB1.out.trans (hb2.mono (by omega)))
      clear hp2 hb2
      go_wp2_with fail
      refine (textBad o 10 _ w2 HP2.out).mono ?_
      rintro e w3 ⟨rfl, rfl⟩
      go_wp2_with fail
      refine (textBad o 10 _ w2 HP2.out).mono ?_
      rintro e w3 ⟨rfl, rfl⟩
      have HP3 := Lib.hid (HP2.out.below ((Below.refl _ _).alloc (Nat.le_refl _) (.cells #[.string { data := #[] }, .string { data := #[] }] 23)) ho2)
      obtain ⟨p1, p2, kk, p3⟩ := HP3.out
      have HD := Lib.hid (doneErr o 10 kk _ p1 p2 p3)
      clear p1 p2 p3
      go_wp2_with fail
      refine HD.out.mono ?_
      rintro e w3 ⟨rfl, rfl⟩
      have hres := HR2.out.alloc (.cells #[.string { data := #[] }, .string { data := #[] }] 23)
      have HRS := Lib.hid hres
      have HB3 := Lib.hid (HB2.out.alloc HB2.out.size (.cells #[.string { data := #[] }, .string { data := #[] }] 23))
      have t0 := hres.cell (i := 0) (by decide); have t1 := hres.cell (i := 1) (by decide)
      have s0 := hres.frozen 0; have s1 := hres.frozen 1
      simp only [pick2] at t0 t1
      clear hres
      go_wp2
      refine bodyPost_ret (results_row_tmp Tryz.results23 _ _ (w.heap.size + 1) 23 _ (0, 0) _ rfl (row2_heap (set2 _ _ HRS.out)) Tryz.underlying23 rfl (by kernel_rfl) _ rfl) rfl ⟨?_, below2 _ _ HB3.out (by omega)⟩
      rw [HX.out]; rfl

end Go.Proofs.YtcahpjejpimdhaaGreatDoor
