/- The contract of pick.Of for any value that came in; what is picked does not hang on what value.Copy may have made zero. Plain: the object of which a pin, or a snapshot, was read without an error, is the object of that pin, or snapshot. No program in sight. The contract of snap.Of, of what is no value that may be, or no object. Printed by gensnapofn.py. What snap.PinOf tells of a value that came in; what snap.PinValue tells of a pin that may not be. -/
import Derived.Test.YtgghgcilpfdbjaaGreatDoorSk12
import Derived.Test.YtgghgcilpfdbjaaGreatDoorSk31
import Derived.Test.YtgghgcilpfdbjaaGreatDoorSk18
import Derived.Test.YtgghgcilpfdbjaaGreatDoorSk28
import Derived.Test.YtgghgcilpfdbjaaGreatDoorSk02

namespace Go.Proofs.YtgghgcilpfdbjaaGreatDoor
open Go.RowKit Go.WideMaps Go.Maps

theorem wts_pt : ∀ (l l' : List JV), l'.length = l.length → (∀ j (h : j < l'.length) (h' : j < l.length), l'[j].wt ≤ l[j].wt) → JV.wts l' ≤ JV.wts l
  | [], [], _, _ => Nat.le_refl _
  | x :: r, y :: s, h, hp => by
    have h0 := hp 0 (by simp) (by simp)
    have h1 := wts_pt r s (by simpa using h) (fun j h1 h2 => by have := hp (j + 1) (by simpa using h1) (by simpa using h2); simpa using this)
    simp only [List.getElem_cons_zero] at h0
    rw [JV.wts, JV.wts]; omega
  | [], _ :: _, h, _ => by simp at h
  | _ :: _, [], h, _ => by simp at h
theorem WeakCopy.wt {v v' : JV} (h : WeakCopy v v') : v'.wt ≤ v.wt := by
  have := wts_pt v.items v'.items h.len (fun j h1 h2 => by
    rcases h.items j h1 h2 with e | ⟨e, _⟩
    · rw [e]; exact Nat.le_refl _
    · rw [e]; exact JV.wt_pos _)
  rw [JV.wt_eq, JV.wt_eq, h.t, h.names]; omega

theorem look_weak : ∀ (ns : List ByteArray) (l l' : List JV) (y : ByteArray), l'.length = l.length → (∀ j (h : j < l'.length) (h' : j < l.length), WeakItem l[j] l'[j]) →
    (lookL ns l y = none ∧ lookL ns l' y = none) ∨ ∃ j, ∃ h : j < l.length, ∃ h' : j < l'.length, lookL ns l y = some l[j] ∧ lookL ns l' y = some l'[j] ∧ WeakItem l[j] l'[j]
  | [], l, l', y, _, _ => .inl ⟨by simp [lookL], by simp [lookL]⟩
  | n :: ns, [], [], y, _, _ => .inl ⟨by simp [lookL], by simp [lookL]⟩
  | n :: ns, x :: r, x' :: r', y, h, hw => by
    by_cases e : n = y
    · exact .inr ⟨0, by simp, by simp, by simp [lookL, e], by simp [lookL, e], hw 0 (by simp) (by simp)⟩
    · rcases look_weak ns r r' y (by simpa using h) (fun j h1 h2 => by have := hw (j + 1) (by simpa using h1) (by simpa using h2); simpa using this) with ⟨h1, h2⟩ | ⟨j, h1, h2, h3, h4, h5⟩
      · exact .inl ⟨by rw [lookL, if_neg e, h1], by rw [lookL, if_neg e, h2]⟩
      · exact .inr ⟨j + 1, by simpa using h1, by simpa using h2, by rw [lookL, if_neg e, h3]; rfl, by rw [lookL, if_neg e, h4]; rfl, by simpa using h5⟩
  | _ :: _, [], _ :: _, _, h, _ => by simp at h
  | _ :: _, _ :: _, [], _, h, _ => by simp at h

theorem partsB_get (l : List JV) (j : Nat) (h : j < l.length) (hp : JV.partsB l = true) : l[j].partB = true := by
  cases hb : l[j].partB
  · rw [JV.partsB_bad l j h hb] at hp; cases hp
  · rfl
theorem pickText_weak {v v' : JV} (hw : WeakCopy v v') (hm : v.mayB = true) (y : ByteArray) (st : PS) : pickText v' y st = pickText v y st := by
  unfold pickText JV.look
  rw [hw.names]
  split
  · rfl
  rcases look_weak v.names v.items v'.items y hw.len (fun j h h' => hw.items j h h') with ⟨h1, h2⟩ | ⟨j, h1, h2, h3, h4, h5⟩
  · rw [h1, h2]
  · rw [h3, h4]
    rcases h5 with e | ⟨e, hns⟩
    · rw [e]
    · rw [e]
      by_cases hk : v.items[j].kind = 3
      · exfalso
        have hp : v.partB = true := by rw [JV.mayB_iff] at hm; simp at hm; exact hm.1.1
        rw [JV.partB_eq] at hp
        have hpp := partsB_get v.items j h1 (by simp at hp; exact hp.2)
        rw [JV.partB_eq] at hpp
        have h0 := JV.proper_leaf (v := v.items[j]) (by simp at hpp; exact hpp.1) (by rw [hk]; decide) (by rw [hk]; decide)
        exact hns (.inr fun k hk' => by rw [h0] at hk'; simp at hk')
      · show (if zeroJ.kind = 3 then _ else _) = (if v.items[j].kind = 3 then _ else _)
        rw [if_neg hk, if_neg (by decide)]
theorem pickDone_weak {v v' : JV} (hw : WeakCopy v v') (st : PS) : pickDone v' st = pickDone v st := by unfold pickDone; rw [hw.names]

def OfWPost (v : JV) (w : World) (e : Ending) (w' : World) : Prop := ∃ v', WeakCopy v v' ∧ OfPost v' w e w'

set_option maxHeartbeats 400000 in
set_option maxRecDepth 100000 in
theorem pickOf_goodW (v : JV) (x : Value) (w : World) (hi : Nat) (hN : v.wt ≤ 4294967296) (hhi : hi ≤ w.heap.size) (hR : Rep w 0 hi v x) (hk : v.kind = 5) (hr : rises v.names = true) (hl : v.names.length = v.items.length) :
    Calls Tryz.prog 61 #[x] w (OfWPost v w) := by
  obtain ⟨an, cn, ai, ci, rfl, h1, h2, h3, h4⟩ := hR.parts
  obtain ⟨b1, b2, b3, b4⟩ := v.wt_bd
  rw [hl, hk]
  rw [hl, hk] at hR
  obtain ⟨nn, hnn⟩ : ∃ nn, nn = v.items.length := ⟨_, rfl⟩
  rw [← hnn] at hR b3 ⊢
  have HNN := Lib.hid hnn
  have H3 := Lib.hid h3
  have HR := Lib.hid hR
  have HRS := Lib.hid hr
  have HK := Lib.hid hk
  have HL := Lib.hid hl
  clear h1 h2 h3 h4 hR hr hk hnn hl
  have hmm := @run_makeMap Tryz.prog
  have HB0 := Lib.hid (show Below w.heap.size w (w.alloc (.cells #[.int .u8 5, .int .i64 v.n, .string v.t, .slice an nn cn, .slice ai nn ci] 30)) from (Below.refl _ _).alloc (Nat.le_refl _) _)
  have HX0 := Lib.hid (heap_alloc_new w (.cells #[.int .u8 5, .int .i64 v.n, .string v.t, .slice an nn cn, .slice ai nn ci] 30))
  go_enter Tryz.func61, Tryz.ntmps61
  go_wp2
  go_loopw [3] (fun i wr => ∃ k : Nat, 1 ≤ k ∧ (k ≤ nn ∨ k = 1) ∧ i = .int .i64 k ∧ Below (w.heap.size + 1) (w.alloc (.cells #[.int .u8 5, .int .i64 v.n, .string v.t, .slice an nn cn, .slice ai nn ci] 30)) wr) (fun i _ => nn - (intOf i).toNat)
  case atStart => exact ⟨1, by omega, .inr rfl, rfl, Below.refl _ _⟩
  case round =>
    obtain ⟨k, hk1, hk2, rfl, hbel⟩ := hrel
    have hz : w.heap.size + 1 ≤ wr.heap.size := by have := hbel.size; simpa using this
    have hx1 : wr.heap[w.heap.size]? = some (.cells #[.int .u8 5, .int .i64 v.n, .string v.t, .slice an nn cn, .slice ai nn ci] 30 (0, 0)) := by rw [hbel.block _ (by omega)]; exact HX0.out
    have HX1 := Lib.hid hx1
    have HBW := Lib.hid (show Below w.heap.size w wr from HB0.out.trans (hbel.mono (by omega)))
    have c3 : wr.cell? ⟨w.heap.size, 3, none⟩ = some (.slice an nn cn) := box_cell hx1 rfl
    have HB := Lib.hid hbel
    clear hx1 hbel
    by_cases hlt : k < nn
    · have hltn : k < v.names.length := by rw [HL.out, ← HNN.out]; exact hlt
      obtain ⟨b, off, rfl, _, hb, y1⟩ := (H3.out.below HBW.out hhi (Nat.le_refl _) (Nat.le_refl _)).at k hltn
      obtain ⟨b', off', hbb, _, _, y0⟩ := (H3.out.below HBW.out hhi (Nat.le_refl _) (Nat.le_refl _)).at (k - 1) (by omega)
      obtain ⟨rfl, rfl⟩ : b = b' ∧ off = off' := by simpa using hbb
      clear hbb
      have hless := rises_lt HRS.out (k - 1) k (by omega) hltn (by omega)
      unfold bl at hless
      generalize v.names[k - 1] = na at hless y0
      generalize v.names[k] = nb at hless y1
      have i0 : IntKind.i64.wrap ((k : Int) - 1) = (k : Int) - 1 := IntWalk.i64_in _ (by omega)
      have j0 : 0 ≤ (k : Int) - 1 := by omega
      have j1 : 1 ≤ (k : Int) := by omega
      have j2 : (k : Int) - 1 < (nn : Int) := by omega
      have j3 : (k : Int) < (nn : Int) := by omega
      have t0 : ((k : Int) - 1).toNat = k - 1 := by omega
      go_wp2_with fail
      go_quiet (fail)
      go_wp2
      go_roundw
      case rel => exact ⟨k + 1, by omega, by omega, by go_num, Below.drewN HB.out _⟩
      case measure => simp [intOf]; omega
    · have c0 : wr.cell? ⟨w.heap.size, 0, none⟩ = some (.int .u8 5) := box_cell HX1.out rfl
      have c1 : wr.cell? ⟨w.heap.size, 1, none⟩ = some (.int .i64 v.n) := box_cell HX1.out rfl
      have c2 : wr.cell? ⟨w.heap.size, 2, none⟩ = some (.string v.t) := box_cell HX1.out rfl
      have c4 : wr.cell? ⟨w.heap.size, 4, none⟩ = some (.slice ai nn ci) := box_cell HX1.out rfl
      have HC := Lib.hid (valueCopyW v _ wr hi hN (by omega) (HR.out.below HBW.out hhi (Nat.le_refl _) (Nat.le_refl _)))
      go_wp2_with fail
      refine HC.out.mono ?_
      clear HC c0 c1 c2 c3 c4
      rintro e w2 ⟨v', an2, cn2, ai2, ci2, hwc, rfl, hr2, hb2⟩
      have HWC := Lib.hid hwc
      clear hwc
      have hz2 := hb2.size
      have HR2 := Lib.hid hr2
      have HB2 := Lib.hid (HBW.out.trans (hb2.mono (by omega)))
      clear hr2 hb2
      go_wp2
      go_ret
      refine ⟨v', HWC.out, w2.heap.size + 1, w2.heap.size, wr.heap.size, w2.heap.size, an2, ai2, cn2, ci2, rfl, ?_, by omega, by omega, (HB2.out.alloc (by omega) _).alloc (by simp; omega) _⟩
      have hbb : Below w2.heap.size w2 ((w2.alloc (.map #[] 0)).alloc (.cells #[.int .u8 v'.kind, .int .i64 v'.n, .string v'.t, .slice an2 v'.names.length cn2, .slice ai2 v'.items.length ci2, .map (some w2.heap.size), .int .i64 0] 128)) := ((Below.refl _ _).alloc (Nat.le_refl _) _).alloc (by simp) _
      exact { obj := by
                have := heap_alloc_new (w2.alloc (.map #[] 0)) (.cells #[.int .u8 v'.kind, .int .i64 v'.n, .string v'.t, .slice an2 v'.names.length cn2, .slice ai2 v'.items.length ci2, .map (some w2.heap.size), .int .i64 0] 128)
                rw [show (w2.alloc (.map #[] 0)).heap.size = w2.heap.size + 1 by simp] at this
                exact this
              map := ⟨_, 0, (World.ownsMap_made w2 _ _ _).alloc _, by omega, AskD.nil⟩
              rep := HR2.out.below hbb (Nat.le_refl _) (Nat.le_refl _) (Nat.le_refl _)
              pos := by omega
              out := ⟨by omega, by omega⟩
              le := hbb.size
              kind := HWC.out.kind.trans HK.out
              rise := by rw [HWC.out.names]; exact HRS.out
              len := by rw [HWC.out.names, HWC.out.len]; exact HL.out
              wt := Nat.le_trans HWC.out.wt hN }

end Go.Proofs.YtgghgcilpfdbjaaGreatDoor

namespace Go.Proofs.YtgghgcilpfdbjaaGreatDoor
open Go.RowKit

theorem nil_bytes {t : ByteArray} (h : t.toList = []) : t = { data := #[] } := by
  rw [ByteArray.toList_eq] at h
  exact bytes_ext (by simpa using h)
theorem part_num {x : JV} (h : x.partB = true) (hk : x.kind = 2) : x = numJ x.n := by
  rw [JV.partB_eq, Bool.and_eq_true] at h
  obtain ⟨h1, -⟩ := h
  obtain ⟨k, n, t, ns, xs⟩ := x
  simp only [JV.kind, JV.n, JV.t, JV.names, JV.items] at h1 hk ⊢
  subst hk
  unfold properB at h1
  rw [if_neg (by decide), if_pos rfl, decide_eq_true_eq] at h1
  obtain ⟨a, b, c⟩ := h1
  rw [nil_bytes a, List.eq_nil_of_length_eq_zero b, List.eq_nil_of_length_eq_zero c]
  rfl
theorem part_txt {x : JV} (h : x.partB = true) (hk : x.kind = 3) : x = txtJ x.t := by
  rw [JV.partB_eq, Bool.and_eq_true] at h
  obtain ⟨h1, -⟩ := h
  obtain ⟨k, n, t, ns, xs⟩ := x
  simp only [JV.kind, JV.n, JV.t, JV.names, JV.items] at h1 hk ⊢
  subst hk
  unfold properB at h1
  rw [if_neg (by decide), if_neg (by decide), if_pos rfl, Bool.and_eq_true, decide_eq_true_eq] at h1
  obtain ⟨⟨a, b, c⟩, -⟩ := h1
  rw [a, List.eq_nil_of_length_eq_zero b, List.eq_nil_of_length_eq_zero c]
  rfl
theorem part_obj {x : JV} (h : x.partB = true) (hk : x.kind = 5) : (x.n = 0 ∧ x.t = { data := #[] }) ∧ x.names.length = x.items.length ∧ rises x.names = true ∧ ∀ y ∈ x.items, y.partB = true := by
  rw [JV.partB_eq, Bool.and_eq_true] at h
  obtain ⟨h1, h2⟩ := h
  rw [hk] at h1
  unfold properB at h1
  rw [if_neg (by decide), if_neg (by decide), if_neg (by decide), if_neg (by decide), if_pos rfl, Bool.and_eq_true, Bool.and_eq_true, decide_eq_true_eq] at h1
  obtain ⟨⟨⟨a, b, c⟩, d⟩, -⟩ := h1
  refine ⟨⟨a, nil_bytes b⟩, c, d, fun y hy => ?_⟩
  obtain ⟨i, hi, rfl⟩ := List.getElem_of_mem hy
  exact partsB_get _ i hi h2
theorem names_eq : ∀ (a b : List ByteArray), rises a = true → rises b = true → (∀ x, x ∈ a ↔ x ∈ b) → a = b
  | [], [], _, _, _ => rfl
  | [], y :: b, _, _, h => by have := (h y).2 (List.mem_cons_self ..); cases this
  | x :: a, [], _, _, h => by have := (h x).1 (List.mem_cons_self ..); cases this
  | x :: a, y :: b, ha, hb, h => by
    have hx : ∀ z ∈ a, bl x z = true := fun z hz => by
      obtain ⟨i, hi, rfl⟩ := List.getElem_of_mem hz
      exact rises_head ha i hi
    have hy : ∀ z ∈ b, bl y z = true := fun z hz => by
      obtain ⟨i, hi, rfl⟩ := List.getElem_of_mem hz
      exact rises_head hb i hi
    have e : x = y := by
      rcases List.mem_cons.1 ((h x).1 (List.mem_cons_self ..)) with e | hxb
      · exact e
      · rcases List.mem_cons.1 ((h y).2 (List.mem_cons_self ..)) with e | hya
        · exact e.symm
        · have h1 := hy x hxb
          have h2 := hx y hya
          rw [bl_asymm h1] at h2; cases h2
    subst e
    rw [names_eq a b (rises_tail ha) (rises_tail hb) fun z => ?_]
    constructor
    · intro hz
      rcases List.mem_cons.1 ((h z).1 (List.mem_cons_of_mem _ hz)) with e | hzb
      · have := hx z hz; rw [e, bl_irrefl] at this; cases this
      · exact hzb
    · intro hz
      rcases List.mem_cons.1 ((h z).2 (List.mem_cons_of_mem _ hz)) with e | hza
      · have := hy z hz; rw [e, bl_irrefl] at this; cases this
      · exact hza
theorem lookL_mem : ∀ {ns : List ByteArray} {xs : List JV} {y : ByteArray} {x : JV}, lookL ns xs y = some x → y ∈ ns ∧ x ∈ xs
  | n :: ns, z :: xs, y, x, h => by
    rw [lookL] at h
    split at h
    · rename_i e
      injection h with h
      subst h; subst e
      exact ⟨List.mem_cons_self .., List.mem_cons_self ..⟩
    · have := lookL_mem h
      exact ⟨List.mem_cons_of_mem _ this.1, List.mem_cons_of_mem _ this.2⟩
/-- An object whose names are those of a row, and by each name what the row has, is that row's. -/
theorem obj_of {v : JV} {N : List NJ} (hk : v.kind = 5) (hp : v.n = 0 ∧ v.t = { data := #[] }) (hr : rises v.names = true) (hl : v.names.length = v.items.length) (hN : rises (N.map (·.1)) = true) (h1 : ∀ x ∈ v.names, x ∈ N.map (·.1)) (h2 : ∀ p ∈ N, v.look p.1 = some p.2) : v = objJ N := by
  have hn : v.names = N.map (·.1) := names_eq _ _ hr hN fun x => ⟨h1 x, fun hx => by
    obtain ⟨p, hpN, rfl⟩ := List.mem_map.1 hx
    exact (lookL_mem (h2 p hpN)).1⟩
  have hi : v.items = N.map (·.2) := by
    apply List.ext_getElem
    · rw [← hl, hn]; simp
    · intro i ha hb
      have hi : i < N.length := by simpa using hb
      have e := h2 N[i] (List.getElem_mem hi)
      have e2 : v.names[i]'(by omega) = N[i].1 := by
        have := List.getElem_of_eq hn (i := i) (by omega)
        simpa using this
      rw [look_some hr i (by omega) ha e2] at e
      simpa using Option.some.inj e
  obtain ⟨k, n, t, ns, xs⟩ := v
  simp only [JV.kind, JV.n, JV.t, JV.names, JV.items] at *
  rw [hk, hp.1, hp.2, hn, hi]; rfl
/-- Each item is a value that may be, or it was made zero. -/
def PartW (v : JV) : Prop := v.kind = 5 ∧ (v.n = 0 ∧ v.t = { data := #[] }) ∧ rises v.names = true ∧ v.names.length = v.items.length ∧ ∀ x ∈ v.items, x.partB = true ∨ x = zeroJ
theorem partW_of {v : JV} (h : v.mayB = true) (hk : v.kind = 5) : PartW v := by
  rw [JV.mayB_iff] at h
  simp only [Bool.and_eq_true] at h
  obtain ⟨a, b, c, d⟩ := part_obj h.1.1 hk
  exact ⟨hk, a, c, b, fun x hx => .inl (d x hx)⟩
theorem partW_weak {v v' : JV} (hw : WeakCopy v v') (h : v.mayB = true) (hk : v.kind = 5) : PartW v' := by
  obtain ⟨_, a, b, c, d⟩ := partW_of h hk
  refine ⟨hw.kind.trans hk, ⟨hw.n.trans a.1, hw.t.trans a.2⟩, by rw [hw.names]; exact b, by rw [hw.names, hw.len]; exact c, fun x hx => ?_⟩
  obtain ⟨i, hi, rfl⟩ := List.getElem_of_mem hx
  have hi' : i < v.items.length := by rw [← hw.len]; exact hi
  rcases hw.items i hi hi' with e | ⟨e, _⟩
  · rw [e]
    rw [JV.mayB_iff] at h
    simp only [Bool.and_eq_true] at h
    exact .inl ((part_obj h.1.1 hk).2.2.2 _ (List.getElem_mem hi'))
  · exact .inr e
/-- Where no item is zero, the weak copy is the value. -/
theorem weak_eq {v v' : JV} (hw : WeakCopy v v') (h : ∀ x ∈ v'.items, x.kind ≠ 0) : v' = v := by
  have hi : v'.items = v.items := by
    apply List.ext_getElem hw.len
    intro i ha hb
    rcases hw.items i ha hb with e | ⟨e, _⟩
    · exact e
    · exact absurd (by rw [e]; rfl) (h _ (List.getElem_mem ha))
  have h1 := hw.kind; have h2 := hw.n; have h3 := hw.t; have h4 := hw.names
  obtain ⟨k, n, t, ns, xs⟩ := v
  obtain ⟨k', n', t', ns', xs'⟩ := v'
  simp only [JV.kind, JV.n, JV.t, JV.names, JV.items] at *
  rw [h1, h2, h3, h4, hi]
theorem fail_zero {st : PS} {e : Int} (h : (st.fail e).err = 0) : st.err = 0 ∧ e = 0 ∧ st.fail e = ⟨st.asked, 0⟩ := by
  unfold PS.fail at h ⊢
  split at h
  · rename_i h0
    have he : e = 0 := h
    rw [if_pos h0, he]
    exact ⟨h0, rfl, rfl⟩
  · rename_i h0
    exact absurd h h0
theorem pickNum_inv {v : JV} {y : ByteArray} {lo hi : Int} {st : PS} (h : (pickNum v y lo hi st).2.err = 0) : st.err = 0 ∧ ∃ it, v.look y = some it ∧ it.kind = 2 ∧ (lo ≤ it.n ∧ it.n ≤ hi) ∧ pickNum v y lo hi st = (it.n, ⟨y :: st.asked, 0⟩) := by
  unfold pickNum at h ⊢
  split at h
  · rename_i h0; exact absurd h h0
  rename_i h0
  rw [if_neg h0]
  split at h
  · simp at h
  rename_i it hit
  split at h
  · simp at h
  rename_i h1
  split at h
  · simp at h
  rename_i h2
  exact ⟨by simpa using h0, it, hit, by simpa using h1, by omega, (if_neg h1).trans (if_neg h2)⟩
theorem pickText_inv {v : JV} {y : ByteArray} {st : PS} (h : (pickText v y st).2.err = 0) : st.err = 0 ∧ ∃ it, v.look y = some it ∧ it.kind = 3 ∧ pickText v y st = (it.t, ⟨y :: st.asked, 0⟩) := by
  unfold pickText at h ⊢
  split at h
  · rename_i h0; exact absurd h h0
  rename_i h0
  rw [if_neg h0]
  split at h
  · simp at h
  rename_i it hit
  split at h
  · rename_i h1
    exact ⟨by simpa using h0, it, hit, h1, if_pos h1⟩
  · simp at h
theorem pickObj_inv {v : JV} {y : ByteArray} {most : Nat} {st : PS} (h : (pickObj v y most st).2.err = 0) : st.err = 0 ∧ ∃ it, v.look y = some it ∧ it.kind = 5 ∧ it.items.length ≤ most ∧ pickObj v y most st = (it, ⟨y :: st.asked, 0⟩) := by
  unfold pickObj at h ⊢
  split at h
  · rename_i h0; exact absurd h h0
  rename_i h0
  rw [if_neg h0]
  split at h
  · simp at h
  rename_i it hit
  split at h
  · simp at h
  rename_i h1
  split at h
  · simp at h
  rename_i h2
  exact ⟨by simpa using h0, it, hit, by simpa using h1, by omega, (if_neg h1).trans (if_neg h2)⟩
theorem pickDone_inv {v : JV} {st : PS} (h : pickDone v st = 0) : st.err = 0 ∧ ∀ n ∈ v.names, n ∈ st.asked := by
  unfold pickDone at h
  split at h
  · rename_i h0; exact absurd h h0
  rename_i h0
  split at h
  · rename_i h1
    refine ⟨by simpa using h0, fun n hn => ?_⟩
    have := List.all_eq_true.1 h1 n hn
    obtain ⟨a, ha, e⟩ := List.any_eq_true.1 this
    simp only [decide_eq_true_eq] at e
    rw [← e]; exact ha
  · cases h
theorem lookW {v : JV} (h : PartW v) {y : ByteArray} {it : JV} (e : v.look y = some it) (hk : it.kind ≠ 0) : it.partB = true := by
  rcases h.2.2.2.2 it (lookL_mem e).2 with h | h
  · exact h
  · exact absurd (by rw [h]; rfl) hk
theorem hashLoop_inv : ∀ (ns : List ByteArray) (xs : List JV) (acc l : List Key2), ns.length = xs.length → (∀ x ∈ xs, x.partB = true) → hashLoop ns xs acc = (l, 0) → ∃ l', l = acc ++ l' ∧ ns = l'.map (·.1) ∧ xs = l'.map (fun k => txtJ k.2) ∧ ∀ k ∈ l', hashOk k = true
  | [], [], acc, l, _, _, h => by
    simp only [hashLoop, Prod.mk.injEq, and_true] at h
    exact ⟨[], by simp [h], rfl, rfl, fun k hk => by cases hk⟩
  | [], _ :: _, _, _, h, _, _ => by simp at h
  | _ :: _, [], _, _, h, _, _ => by simp at h
  | n :: ns, x :: xs, acc, l, hl, hp, h => by
    simp only [hashLoop] at h
    split at h
    · simp at h
    rename_i h1
    split at h
    · simp at h
    rename_i h2
    split at h
    · simp at h
    rename_i h3
    obtain ⟨l', e, e1, e2, e3⟩ := hashLoop_inv ns xs _ l (by simpa using hl) (fun y hy => hp y (List.mem_cons_of_mem _ hy)) h
    have hx := part_txt (hp x (List.mem_cons_self ..)) (by simpa using h2)
    refine ⟨(n, x.t) :: l', by simp [e], by simp [e1], ?_, fun k hk => ?_⟩
    · rw [List.map_cons, ← e2]
      show x :: xs = txtJ x.t :: xs
      rw [← hx]
    · rcases List.mem_cons.1 hk with rfl | hk
      · unfold hashOk
        simp only [Bool.and_eq_true]
        exact ⟨by simpa using h1, by simpa using h3⟩
      · exact e3 k hk
theorem hashes_conv {v : JV} {l : List Key2} (h : hashesOfJ v = (l, 0)) : v = hashJ l ∧ mayHashes l = true := by
  unfold hashesOfJ at h
  split at h
  · simp at h
  rename_i h1
  split at h
  · simp at h
  rename_i h2
  split at h
  · simp at h
  rename_i h3
  split at h
  · simp at h
  rename_i h4
  have hm : v.mayB = true := by simpa using h1
  have hk : v.kind = 5 := by simpa using h2
  rw [JV.mayB_iff] at hm
  simp only [Bool.and_eq_true] at hm
  obtain ⟨a, b, c, d⟩ := part_obj hm.1.1 hk
  obtain ⟨l', e, e1, e2, e3⟩ := hashLoop_inv _ _ _ _ b d h
  rw [List.nil_append] at e
  subst e
  have hlen : v.names.length = l.length := by rw [e1]; simp
  refine ⟨?_, ?_⟩
  · obtain ⟨k, n, t, ns, xs⟩ := v
    simp only [JV.kind, JV.n, JV.t, JV.names, JV.items] at *
    rw [hk, a.1, a.2, e1, e2]; rfl
  · unfold mayHashes
    rw [← e1, c, decide_eq_true (by omega), List.all_eq_true.2 e3]; rfl
theorem lenSt_inv {v : JV} {st : PS} (h : (lenSt v st).2.err = 0) : st.err = 0 ∧ ((v.look lenN = none ∧ lenSt v st = (-1, st)) ∨ ∃ it, v.look lenN = some it ∧ it.kind = 2 ∧ (0 ≤ it.n ∧ it.n ≤ 1099511627776) ∧ lenSt v st = (it.n, ⟨lenN :: st.asked, 0⟩)) := by
  unfold lenSt at h ⊢
  cases hb : pickHas v lenN st
  · rw [hb] at h
    rw [if_neg (by decide)] at h ⊢
    have h0 : st.err = 0 := h
    refine ⟨h0, .inl ⟨?_, rfl⟩⟩
    unfold pickHas at hb
    rw [h0] at hb
    simpa using hb
  · rw [hb] at h
    rw [if_pos rfl] at h ⊢
    obtain ⟨a, b⟩ := pickNum_inv h
    exact ⟨a, .inr b⟩
theorem hasSt_inv {v : JV} {st : PS} (h : (hasSt v st).2.err = 0) : st.err = 0 ∧ ((v.look hasN = none ∧ hasSt v st = ([], st)) ∨ ∃ it l, v.look hasN = some it ∧ it.kind = 5 ∧ hashesOfJ it = (l, 0) ∧ hasSt v st = (l, ⟨hasN :: st.asked, 0⟩)) := by
  unfold hasSt at h ⊢
  cases hb : pickHas v hasN st
  · rw [hb] at h
    rw [if_neg (by decide)] at h ⊢
    have h0 : st.err = 0 := h
    refine ⟨h0, .inl ⟨?_, rfl⟩⟩
    unfold pickHas at hb
    rw [h0] at hb
    simpa using hb
  · rw [hb] at h
    rw [if_pos rfl] at h ⊢
    obtain ⟨a, b, c⟩ := fail_zero h
    obtain ⟨h0, it, e, hk, hl, hp⟩ := pickObj_inv a
    refine ⟨h0, .inr ⟨it, (hashesOfJ it).1, e, hk, ?_, ?_⟩⟩
    · rw [hp] at b
      exact Prod.ext rfl b
    · rw [c, hp]
/-- A pin that was read, and the object of which it was. -/
theorem pin_conv {f : ByteArray} {v : JV} {p : PinV} (hW : PartW v) (hf : (roleOf f).isSome = true) (h : pinOfK f v = (p, 0)) : v = pinJ p ∧ mayPin p = true ∧ p.name = f := by
  rw [pinOfK_eq] at h
  split at h
  · rename_i h0
    simp only [Prod.mk.injEq] at h
    exact absurd h.2 h0
  rename_i h0
  simp only [Prod.mk.injEq, and_true] at h
  obtain ⟨hc, hasked⟩ := pickDone_inv (by simpa using h0)
  clear h0
  obtain ⟨hb, hcc⟩ := hasSt_inv hc
  obtain ⟨ha, hbb⟩ := lenSt_inv hb
  obtain ⟨_, iv, ev, kv, rv, pv⟩ := pickNum_inv ha
  have hiv := part_num (lookW hW ev (by rw [kv]; decide)) kv
  rw [pv] at hbb hcc hasked h
  dsimp only at hbb hcc hasked h
  have hN : (p.hs = [] ∧ v.look hasN = none ∨ v.look hasN = some (hashJ p.hs) ∧ mayHashes p.hs = true) ∧ (p.len = -1 ∧ v.look lenN = none ∨ v.look lenN = some (numJ p.len) ∧ 0 ≤ p.len ∧ p.len ≤ 1099511627776) ∧ p.ver = iv.n ∧ p.name = f ∧
      ∀ x ∈ v.names, (x = hasN ∧ p.hs ≠ []) ∨ (x = lenN ∧ p.len ≠ -1) ∨ x = verN := by
    rcases hbb with ⟨nb, eb⟩ | ⟨ib, nb, kb, rb, eb⟩
    · rw [eb] at hcc hasked h
      dsimp only at hcc hasked h
      rcases hcc with ⟨nc, ec⟩ | ⟨ic, l, nc, kc, oc, ec⟩
      · rw [ec] at hasked h
        subst h
        exact ⟨.inl ⟨rfl, nc⟩, .inl ⟨rfl, nb⟩, rfl, rfl, fun x hx => .inr (.inr (by simpa using hasked x hx))⟩
      · rw [ec] at hasked h
        subst h
        obtain ⟨o1, o2⟩ := hashes_conv oc
        have o3 := (mayHashes_parts o2).1.1
        refine ⟨.inr ⟨by rw [nc, o1], o2⟩, .inl ⟨rfl, nb⟩, rfl, rfl, fun x hx => ?_⟩
        have := hasked x hx
        simp only [List.mem_cons, List.not_mem_nil, or_false] at this
        rcases this with rfl | rfl
        · exact .inl ⟨rfl, fun e => by rw [show l = [] from e] at o3; simp at o3⟩
        · exact .inr (.inr rfl)
    · have hib := part_num (lookW hW nb (by rw [kb]; decide)) kb
      rw [eb] at hcc hasked h
      dsimp only at hcc hasked h
      rcases hcc with ⟨nc, ec⟩ | ⟨ic, l, nc, kc, oc, ec⟩
      · rw [ec] at hasked h
        subst h
        refine ⟨.inl ⟨rfl, nc⟩, .inr ⟨by rw [nb]; exact congrArg some hib, rb⟩, rfl, rfl, fun x hx => ?_⟩
        have := hasked x hx
        simp only [List.mem_cons, List.not_mem_nil, or_false] at this
        rcases this with rfl | rfl
        · exact .inr (.inl ⟨rfl, by show ib.n ≠ -1; omega⟩)
        · exact .inr (.inr rfl)
      · rw [ec] at hasked h
        subst h
        obtain ⟨o1, o2⟩ := hashes_conv oc
        have o3 := (mayHashes_parts o2).1.1
        refine ⟨.inr ⟨by rw [nc, o1], o2⟩, .inr ⟨by rw [nb]; exact congrArg some hib, rb⟩, rfl, rfl, fun x hx => ?_⟩
        have := hasked x hx
        simp only [List.mem_cons, List.not_mem_nil, or_false] at this
        rcases this with rfl | rfl | rfl
        · exact .inl ⟨rfl, fun e => by rw [show l = [] from e] at o3; simp at o3⟩
        · exact .inr (.inl ⟨rfl, by show ib.n ≠ -1; omega⟩)
        · exact .inr (.inr rfl)
  obtain ⟨h1, h2, h3, h4, h5⟩ := hN
  have hver : v.look verN = some (numJ p.ver) := by rw [ev, h3, ← hiv]
  refine ⟨?_, ?_, h4⟩
  · rw [pinJ_obj]
    refine obj_of hW.1 hW.2.1 hW.2.2.1 hW.2.2.2.1 (pinM_rises p).1 (fun x hx => ?_) (fun q hq => ?_)
    · rw [List.mem_map]
      rcases h5 x hx with ⟨rfl, hn⟩ | ⟨rfl, hn⟩ | rfl
      · refine ⟨(hasN, hashJ p.hs), ?_, rfl⟩
        unfold pinM
        cases hp : p.hs with
        | nil => exact absurd hp hn
        | cons a r => simp
      · refine ⟨(lenN, numJ p.len), ?_, rfl⟩
        unfold pinM
        rw [if_neg hn]; simp
      · exact ⟨(verN, numJ p.ver), by unfold pinM; simp, rfl⟩
    · rcases pinM_mem hq with ⟨rfl, hn⟩ | ⟨rfl, hn⟩ | rfl
      · rcases h1 with ⟨e, _⟩ | ⟨e, _⟩
        · exact absurd e hn
        · exact e
      · rcases h2 with ⟨e, _⟩ | ⟨e, _⟩
        · exact absurd e hn
        · exact e
      · exact hver
  · unfold mayPin
    rw [h4, hf, h3, decide_eq_true rv, decide_eq_true (show -1 ≤ p.len ∧ p.len ≤ 1099511627776 by rcases h2 with ⟨e, _⟩ | ⟨_, e⟩ <;> omega)]
    rcases h1 with ⟨e, _⟩ | ⟨_, e⟩
    · rw [e]; rfl
    · rw [e]; simp
/-- The pins that were read, and the objects of which they were. -/
theorem meta_conv : ∀ (ns : List ByteArray) (xs : List JV) (st : PS) (acc l : List PinV) (st' : PS), ns.length = xs.length → metaG ns xs st acc = (l, st') → st.err = 0 → st'.err = 0 → ∃ l', l = acc ++ l' ∧ st' = st ∧ ns = l'.map (·.name) ∧ xs = l'.map pinJ ∧ l'.all mayPin = true
  | [], [], st, acc, l, st', _, h, _, _ => by
    simp only [metaG, Prod.mk.injEq] at h
    exact ⟨[], by simp [h.1], h.2.symm, rfl, rfl, rfl⟩
  | [], _ :: _, _, _, _, _, h, _, _, _ => by simp at h
  | _ :: _, [], _, _, _, _, h, _, _, _ => by simp at h
  | n :: ns, x :: xs, st, acc, l, st', hl, h, h0, h1 => by
    simp only [metaG] at h
    split at h
    · rename_i hb
      simp only [Prod.mk.injEq] at h
      rw [← h.2] at h1
      exact absurd (fail_zero h1).2.1 hb
    · rename_i hb
      obtain ⟨l', e, e0, e1, e2, e3⟩ := meta_conv ns xs st _ l st' (by simpa using hl) h h0 h1
      have hz : (pinOfA n x).2 = 0 := by simpa using hb
      have hp : x = pinJ (pinOfA n x).1 ∧ mayPin (pinOfA n x).1 = true ∧ (pinOfA n x).1.name = n := by
        have hq : pinOfA n x = ((pinOfA n x).1, 0) := Prod.ext rfl hz
        generalize (pinOfA n x).1 = p at hq ⊢
        unfold pinOfA at hq
        split at hq
        · simp at hq
        rename_i hm
        split at hq
        · simp at hq
        rename_i hk
        simp only [Bool.or_eq_true, not_or, Bool.not_eq_true', Bool.not_eq_true] at hm
        have hf : (roleOf n).isSome = true := by
          cases hr : roleOf n with
          | none => rw [hr] at hm; simp at hm
          | some _ => rfl
        exact pin_conv (partW_of (by simpa using hm.2) (by simpa using hk)) hf hq
      refine ⟨(pinOfA n x).1 :: l', by simp [e], e0, ?_, ?_, ?_⟩
      · rw [List.map_cons, hp.2.2, ← e1]
      · rw [List.map_cons, ← hp.1, ← e2]
      · rw [List.all_cons, hp.2.1, e3]; rfl
/-- A snapshot that was read, and the object of which it was. -/
theorem snap_conv {v : JV} {s : SnapV} (hW : PartW v) (h : snapOfK v = (s, 0)) : v = snapJ s ∧ maySnap s = true := by
  unfold snapOfK at h
  split at h
  · rename_i h0
    simp only [Prod.mk.injEq] at h
    exact absurd h.2 h0
  rename_i h0
  simp only [Prod.mk.injEq, and_true] at h
  obtain ⟨hg, hasked⟩ := pickDone_inv (by simpa using h0)
  clear h0
  have hgf : (stM v).2.err = 0 := by
    unfold stG at hg
    generalize (stM v).1.names = ns at hg
    generalize (stM v).1.items = xs at hg
    generalize (stM v).2 = st at hg ⊢
    have : ∀ (ns : List ByteArray) (xs : List JV) (acc : List PinV), (metaG ns xs st acc).2.err = 0 → st.err = 0 := by
      intro ns
      induction ns with
      | nil => intro xs acc h; simpa [metaG] using h
      | cons n r ih =>
        intro xs acc h
        cases xs with
        | nil => simpa [metaG] using h
        | cons x xs =>
          simp only [metaG] at h
          split at h
          · exact (fail_zero h).1
          · exact ih _ _ h
    exact this _ _ _ hg
  obtain ⟨hc, im, em, km, lm, pm⟩ := pickObj_inv hgf
  obtain ⟨hc1, hr0, pc⟩ := fail_zero hc
  obtain ⟨hb, ie, ee, ke, pe⟩ := pickText_inv hc1
  obtain ⟨ht, iv, ev, kv, rv, pv⟩ := pickNum_inv hb
  have hty : (pickText v typN ⟨[], 0⟩).2.err = 0 ∧ (pickText v typN ⟨[], 0⟩).1 = snpN := by
    unfold tyS at ht
    split at ht
    · exact absurd (fail_zero ht).2.1 (by decide)
    · rename_i e
      exact ⟨ht, by simpa using e⟩
  obtain ⟨_, it, et, kt, pt⟩ := pickText_inv hty.1
  have e0 : tyS v ⟨[], 0⟩ = ⟨[typN], 0⟩ := by
    unfold tyS
    rw [if_neg (by simp [hty.2]), pt]
  have hst : it.t = snpN := by have := hty.2; rw [pt] at this; exact this
  have e1 : stB v = (iv.n, ⟨[verN, typN], 0⟩) := by unfold stB; rw [pv, e0]
  have e2 : stC v = (ie.t, ⟨[expN, verN, typN], 0⟩) := by unfold stC; rw [pe, e1]
  have e3 : stM v = (im, ⟨[metN, expN, verN, typN], 0⟩) := by unfold stM; rw [pm, pc, e2]
  have hit := part_txt (lookW hW et (by rw [kt]; decide)) kt
  have hie := part_txt (lookW hW ee (by rw [ke]; decide)) ke
  have hiv := part_num (lookW hW ev (by rw [kv]; decide)) kv
  have him := part_obj (lookW hW em (by rw [km]; decide)) km
  have hrd : readD ie.t.data.toList = ((stR v).1, 0) := by
    have : stR v = readD ie.t.data.toList := by unfold stR; rw [e2]
    rw [← this]
    exact Prod.ext rfl hr0
  obtain ⟨d1, d2, d3⟩ := date_read _ _ hrd
  have hgg : metaG im.names im.items ⟨[metN, expN, verN, typN], 0⟩ [] = ((stG v).1, (stG v).2) := by unfold stG; rw [e3]
  obtain ⟨l', g1, g2, g3, g4, g5⟩ := meta_conv _ _ _ _ _ _ him.2.1 hgg rfl hg
  rw [List.nil_append] at g1
  rw [e1] at h
  rw [g2] at hasked
  subst h
  dsimp only
  rw [g1]
  have hexp : txtJ (dateB (stR v).1) = ie := by
    have e : (dateB (stR v).1).data.toList = dateL (stR v).1.toNat := rfl
    exact (congrArg txtJ (bytes_ext (e.trans d3))).trans hie.symm
  have hmet : metaJ l' = im := by
    obtain ⟨k, n, t, ns, xs⟩ := im
    simp only [JV.kind, JV.n, JV.t, JV.names, JV.items] at *
    rw [km, him.1.1, him.1.2, g3, g4]; rfl
  have hty2 : txtJ snpN = it := by rw [hit, hst]
  refine ⟨?_, ?_⟩
  · rw [snapJ_obj]
    refine obj_of hW.1 hW.2.1 hW.2.2.1 hW.2.2.2.1 names_4 (fun x hx => ?_) (fun q hq => ?_)
    · have := hasked x hx
      simp only [List.mem_cons, List.not_mem_nil, or_false] at this
      simp only [snapM, List.map_cons, List.map_nil, List.mem_cons, List.not_mem_nil, or_false]
      rcases this with h | h | h | h
      · exact .inr (.inr (.inl h))
      · exact .inr (.inl h)
      · exact .inr (.inr (.inr h))
      · exact .inl h
    · simp only [snapM, List.mem_cons, List.not_mem_nil, or_false] at hq
      rcases hq with rfl | rfl | rfl | rfl
      · show v.look typN = some (txtJ snpN); rw [et, hty2]
      · show v.look expN = some (txtJ (dateB (stR v).1)); rw [ee, hexp]
      · show v.look metN = some (metaJ l'); rw [em, hmet]
      · show v.look verN = some (numJ iv.n); rw [ev, ← hiv]
  · refine maySnap_parts.2 ⟨rv, ⟨d1, d2⟩, ?_, g5, ?_⟩
    · have : im.items.length = l'.length := by rw [g4]; simp
      show l'.length ≤ 256
      omega
    · show rises (l'.map (·.name)) = true
      rw [← g3]; exact him.2.2.1
end Go.Proofs.YtgghgcilpfdbjaaGreatDoor

namespace Go.Proofs.YtgghgcilpfdbjaaGreatDoor
open Go.RowKit Go.WideMaps Go.Maps

def OfNPost (er : Int) (w : World) (e : Ending) (w' : World) : Prop := e = .returned (.tuple #[.agg #[.int .i64 0, .int .i64 0, .slice none 0 0], .int .i64 er]) ∧ Below w.heap.size w w'
set_option maxHeartbeats 4000000 in
set_option maxRecDepth 100000 in
theorem snapOfN' (v : JV) (x : Value) (er : Int) (her : er = if v.mayB then 10 else 3) (w : World) (hN : v.wt ≤ 4294967296) (hR : Rep w 0 w.heap.size v x) (hm : v.mayB = false ∨ v.kind ≠ 5) (hT : TabW w) :
    Calls Tryz.prog 34 #[x] w (OfNPost er w) := by
  obtain ⟨mb, hmb0⟩ : ∃ mb, mb = v.mayB := ⟨_, rfl⟩
  rw [← hmb0] at her hm
  have HER := Lib.hid her
  clear her
  obtain ⟨an, cn, ai, ci, hx, h1, h2, h3, h4⟩ := hR.parts
  clear h1 h2 h3 h4
  subst hx
  obtain ⟨W2, hW2⟩ : ∃ W2, W2 = (w.alloc (.cells #[.int .u8 v.kind, .int .i64 v.n, .string v.t, .slice an v.names.length cn, .slice ai v.items.length ci] 30)).alloc (.cells #[.int .i64 0, .int .i64 0, .slice none 0 0] 24) := ⟨_, rfl⟩
  have hz1 : (w.alloc (.cells #[.int .u8 v.kind, .int .i64 v.n, .string v.t, .slice an v.names.length cn, .slice ai v.items.length ci] 30)).heap.size = w.heap.size + 1 := by simp
  have hz2 : W2.heap.size = w.heap.size + 2 := by rw [hW2]; simp
  have hb2 : Below w.heap.size w W2 := by rw [hW2]; exact ((Below.refl _ _).alloc (Nat.le_refl _) _).alloc (by simp) _
  have hx0 : W2.heap[w.heap.size]? = some (.cells #[.int .u8 v.kind, .int .i64 v.n, .string v.t, .slice an v.names.length cn, .slice ai v.items.length ci] 30 (0, 0)) := by rw [hW2, Below.heap_alloc _ _ _ (by simp)]; exact heap_alloc_new w _
  have hr0 : W2.rowIs (w.heap.size + 1) 24 3 (pick3 (.int .i64 0) (.int .i64 0) (.slice none 0 0)) := by
    have := rowIs_box3 (w.alloc (.cells #[.int .u8 v.kind, .int .i64 v.n, .string v.t, .slice an v.names.length cn, .slice ai v.items.length ci] 30)) (.int .i64 0) (.int .i64 0) (.slice none 0 0) 24
    rw [hz1, ← hW2] at this
    exact this
  have HMY := Lib.hid (valueMay v _ W2 hN (hR.below hb2 (Nat.le_refl _) (Nat.zero_le _) hb2.size))
  rw [← hmb0] at HMY
  clear hmb0
  have HW := Lib.hid hW2
  have HB2 := Lib.hid hb2
  have HX0 := Lib.hid hx0
  have HR0 := Lib.hid hr0
  have HZ2 := Lib.hid hz2
  have HTW := Lib.hid hT
  clear hR hW2 hb2 hx0 hr0 hz1 hz2 hT
  have c0 : W2.cell? ⟨w.heap.size, 0, none⟩ = some (.int .u8 v.kind) := box_cell HX0.out rfl
  have c1 : W2.cell? ⟨w.heap.size, 1, none⟩ = some (.int .i64 v.n) := box_cell HX0.out rfl
  have c2 : W2.cell? ⟨w.heap.size, 2, none⟩ = some (.string v.t) := box_cell HX0.out rfl
  have c3 : W2.cell? ⟨w.heap.size, 3, none⟩ = some (.slice an v.names.length cn) := box_cell HX0.out rfl
  have c4 : W2.cell? ⟨w.heap.size, 4, none⟩ = some (.slice ai v.items.length ci) := box_cell HX0.out rfl
  go_enter Tryz.func34, Tryz.ntmps34
  go_upto_region 1 with fail
  rw [← HW.out]
  go_wp2_with fail
  refine HMY.out.mono ?_
  clear HMY c0 c1 c2 c3 c4
  rintro e w1 ⟨rfl, hb1⟩
  have hx1 := (hb1.block _ (heap_lt HX0.out)).trans HX0.out
  have HB1 := Lib.hid (HB2.out.trans (hb1.mono HB2.out.size))
  have HR1 := Lib.hid (below_row hb1 HR0.out HR0.out.lt)
  have HZ1 := Lib.hid (show w.heap.size + 2 ≤ w1.heap.size from by have := hb1.size; have := HZ2.out; omega)
  cases mb with
  | false =>
    obtain rfl : er = 3 := HER.out
    have hr := HR1.out
    have t0 := hr.cell (i := 0) (by decide); have t1 := hr.cell (i := 1) (by decide); have t2 := hr.cell (i := 2) (by decide)
    have s0 := hr.frozen 0; have s1 := hr.frozen 1; have s2 := hr.frozen 2
    simp only [pick3] at t0 t1 t2
    clear hr hb1 hx1 hm
    go_wp2
    refine bodyPost_ret (results_row_tmp Tryz.results34 _ _ (w.heap.size + 1) 24 _ (0, 0) _ rfl (row3_heap (set3 _ _ _ HR1.out)) Tryz.underlying24 rfl (by kernel_rfl) _ rfl) rfl ?_
    exact ⟨rfl, below3 _ _ _ HB1.out (by omega)⟩
  | true =>
    obtain rfl : er = 10 := HER.out
    have hk : v.kind ≠ 5 := hm.resolve_left (by decide)
    have c0 : w1.cell? ⟨w.heap.size, 0, none⟩ = some (.int .u8 v.kind) := box_cell hx1 rfl
    have c1 : w1.cell? ⟨w.heap.size, 1, none⟩ = some (.int .i64 v.n) := box_cell hx1 rfl
    have c2 : w1.cell? ⟨w.heap.size, 2, none⟩ = some (.string v.t) := box_cell hx1 rfl
    have c3 : w1.cell? ⟨w.heap.size, 3, none⟩ = some (.slice an v.names.length cn) := box_cell hx1 rfl
    have c4 : w1.cell? ⟨w.heap.size, 4, none⟩ = some (.slice ai v.items.length ci) := box_cell hx1 rfl
    have HOF1 := Lib.hid (pickOf_bad v.kind v.n v.t (.slice an v.names.length cn) (.slice ai v.items.length ci) w1 hk)
    clear hb1 hx1 hm hk
    go_wp2_with fail
    refine HOF1.out.mono ?_
    clear HOF1 c0 c1 c2 c3 c4
    rintro e w2 ⟨o, rfl, ho1, ho2, hpb, hb2⟩
    obtain ⟨p, hp⟩ : ∃ p, p = w2.heap.size := ⟨_, rfl⟩
    obtain ⟨W3, hW3⟩ : ∃ W3, W3 = w2.alloc (.cells #[.int .i64 0, .int .i64 0, .slice none 0 0] 24) := ⟨_, rfl⟩
    have hb3 : Below w2.heap.size w2 W3 := by rw [hW3]; exact (Below.refl _ _).alloc (Nat.le_refl _) _
    have hq3 : W3.rowIs p 24 3 (pick3 (.int .i64 0) (.int .i64 0) (.slice none 0 0)) := by rw [hW3, hp]; exact rowIs_box3 _ _ _ _ _
    have HNE := Lib.hid (show o ≠ p from by omega)
    have HP3 := Lib.hid (hpb.below hb3 ho2)
    have HR3 := Lib.hid (below_row (hb2.trans (hb3.mono hb2.size)) HR1.out HR1.out.lt)
    have HB3 := Lib.hid (HB1.out.trans ((hb2.trans (hb3.mono hb2.size)).mono (by have := HZ1.out; omega)))
    have HQ3 := Lib.hid hq3
    have HW3 := Lib.hid hW3
    have HPE := Lib.hid hp
    have HZ3 := Lib.hid (show w.heap.size + 2 ≤ o ∧ w.heap.size + 2 ≤ p ∧ o < W3.heap.size ∧ p < W3.heap.size from ⟨by have := HZ1.out; omega, by have := HZ1.out; have := hb2.size; omega, Nat.lt_of_lt_of_le ho2 hb3.size, hq3.lt⟩)
    clear ho1 ho2 hpb hb2 hW3 hb3 hq3 hp
    go_upto_region 5 with fail
    rw [← HW3.out, ← HPE.out]
    go_wp2_with fail
    refine (snapParts W3).mono ?_
    rintro e w4 ⟨bp, rfl, hbp, hbz, hb4⟩
    have HP4 := Lib.hid (HP3.out.below hb4 HZ3.out.2.2.1)
    have HR4 := Lib.hid (below_row hb4 HR3.out HR3.out.lt)
    have HQ4 := Lib.hid (below_row hb4 HQ3.out HQ3.out.lt)
    have HBW4 := Lib.hid (HB3.out.trans (hb4.mono HB3.out.size))
    have HBP := Lib.hid hbp
    have HZ := Lib.hid (show w.heap.size + 2 ≤ o ∧ w.heap.size + 2 ≤ p ∧ o < bp ∧ p < bp ∧ bp < w4.heap.size ∧ w.heap.size ≤ w4.heap.size ∧ o < w4.heap.size from by have := HZ3.out; have := heap_lt hbp; have := HBW4.out.size; omega)
    clear hbp hbz hb4 HP3 HR3 HQ3 HB3
    go_wp2
    go_loopw [7, 17] (fun _ i wr => Touch (fun b => b = p) w4 wr ∧ PickBad o 10 wr ∧ wr.rowIs p 24 3 (pick3 (.int .i64 0) (.int .i64 0) (.slice none 0 0)) ∧ (i = .int .i64 0 ∨ i = .int .i64 1 ∨ i = .int .i64 2 ∨ i = .int .i64 3 ∨ i = .int .i64 4)) (fun _ i _ => 4 - (intOf i).toNat)
    case atStart => exact ⟨Touch.refl _ _, HP4.out, HQ4.out, .inl rfl⟩
    case round =>
      obtain ⟨ht, hp, hrw, hcase⟩ := hrel
      have HTr := Lib.hid ht
      have HBr := Lib.hid ((ht.block bp (by have := HZ.out; omega) (fun h => by have := HZ.out; omega)).trans HBP.out)
      clear ht
      rcases hcase with rfl | rfl | rfl | rfl | rfl
      · have HPr := Lib.hid hp
        have HRr := Lib.hid hrw
        obtain ⟨W7, hW7⟩ : ∃ W7, W7 = wr.alloc (.cells #[.func (.func 113) #[] #[]] 105) := ⟨_, rfl⟩
        have hb7 : Below wr.heap.size wr W7 := by rw [hW7]; exact (Below.refl _ _).alloc (Nat.le_refl _) _
        have hx7 : W7.heap[wr.heap.size]? = some (.cells #[.func (.func 113) #[] #[]] 105 (0, 0)) := by rw [hW7]; exact heap_alloc_new wr _
        have hoz : o < wr.heap.size := Nat.lt_of_lt_of_le (show o < w4.heap.size by have := HZ.out; omega) HTr.out.size
        have HP7 := Lib.hid (hp.below hb7 hoz)
        have HR7 := Lib.hid (below_row hb7 hrw hrw.lt)
        have HB7 := Lib.hid hb7
        have y0 : W7.cell? ⟨wr.heap.size, 0, none⟩ = some (.func (.func 113) #[] #[]) := box_cell hx7 rfl
        have HW7 := Lib.hid hW7
        have z0 : wr.cell? ⟨bp, 0, none⟩ = some (.func (.func 113) #[] #[]) := box_cell HBr.out rfl
        have HC := Lib.hid (parseTypeBad o p W7 HP7.out HR7.out)
        clear hb7 hx7 hW7 hp hrw hoz
        go_upto_region 8 with fail
        rw [← HW7.out]
        clear z0
        go_wp2_with fail
        refine HC.out.mono ?_
        clear HC y0
        rintro r w8 ⟨rfl, h8, hr8, ht8⟩
        have HT8 := Lib.hid (show Touch (fun b => b = p) w4 w8 from HTr.out.trans ((Touch.of_below HB7.out (Nat.le_refl _)).trans ht8))
        have H8 := Lib.hid h8
        have HR8 := Lib.hid hr8
        clear h8 ht8 hr8
        go_wp2
        go_roundw
        case rel => exact ⟨HT8.out, H8.out, HR8.out, .inr (.inl rfl)⟩
        case measure => simp [intOf]
      · have HPr := Lib.hid hp
        have HRr := Lib.hid hrw
        obtain ⟨W7, hW7⟩ : ∃ W7, W7 = wr.alloc (.cells #[.func (.func 114) #[] #[]] 105) := ⟨_, rfl⟩
        have hb7 : Below wr.heap.size wr W7 := by rw [hW7]; exact (Below.refl _ _).alloc (Nat.le_refl _) _
        have hx7 : W7.heap[wr.heap.size]? = some (.cells #[.func (.func 114) #[] #[]] 105 (0, 0)) := by rw [hW7]; exact heap_alloc_new wr _
        have hoz : o < wr.heap.size := Nat.lt_of_lt_of_le (show o < w4.heap.size by have := HZ.out; omega) HTr.out.size
        have HP7 := Lib.hid (hp.below hb7 hoz)
        have HR7 := Lib.hid (below_row hb7 hrw hrw.lt)
        have HB7 := Lib.hid hb7
        have y0 : W7.cell? ⟨wr.heap.size, 0, none⟩ = some (.func (.func 114) #[] #[]) := box_cell hx7 rfl
        have HW7 := Lib.hid hW7
        have z0 : wr.cell? ⟨bp, 1, none⟩ = some (.func (.func 114) #[] #[]) := box_cell HBr.out rfl
        have HC := Lib.hid (parseVersionBad o p W7 HP7.out (Nat.lt_of_lt_of_le hoz hb7.size) HNE.out HR7.out)
        clear hb7 hx7 hW7 hp hrw hoz
        go_upto_region 8 with fail
        rw [← HW7.out]
        clear z0
        go_wp2_with fail
        refine HC.out.mono ?_
        clear HC y0
        rintro r w8 ⟨rfl, h8, hr8, ht8⟩
        have HT8 := Lib.hid (show Touch (fun b => b = p) w4 w8 from HTr.out.trans ((Touch.of_below HB7.out (Nat.le_refl _)).trans ht8))
        have H8 := Lib.hid h8
        have HR8 := Lib.hid hr8
        clear h8 ht8 hr8
        go_wp2
        go_roundw
        case rel => exact ⟨HT8.out, H8.out, HR8.out, .inr (.inr (.inl rfl))⟩
        case measure => simp [intOf]
      · have HPr := Lib.hid hp
        have HRr := Lib.hid hrw
        obtain ⟨W7, hW7⟩ : ∃ W7, W7 = wr.alloc (.cells #[.func (.func 115) #[] #[]] 105) := ⟨_, rfl⟩
        have hb7 : Below wr.heap.size wr W7 := by rw [hW7]; exact (Below.refl _ _).alloc (Nat.le_refl _) _
        have hx7 : W7.heap[wr.heap.size]? = some (.cells #[.func (.func 115) #[] #[]] 105 (0, 0)) := by rw [hW7]; exact heap_alloc_new wr _
        have hoz : o < wr.heap.size := Nat.lt_of_lt_of_le (show o < w4.heap.size by have := HZ.out; omega) HTr.out.size
        have HP7 := Lib.hid (hp.below hb7 hoz)
        have HR7 := Lib.hid (below_row hb7 hrw hrw.lt)
        have HB7 := Lib.hid hb7
        have y0 : W7.cell? ⟨wr.heap.size, 0, none⟩ = some (.func (.func 115) #[] #[]) := box_cell hx7 rfl
        have HW7 := Lib.hid hW7
        have z0 : wr.cell? ⟨bp, 2, none⟩ = some (.func (.func 115) #[] #[]) := box_cell HBr.out rfl
        have HC := Lib.hid (parseExpiresBad o p W7 HP7.out (Nat.lt_of_lt_of_le hoz hb7.size) HNE.out HR7.out (HTW.out.below (HBW4.out.trans ((HTr.out.below (B := w.heap.size) (by have := HZ.out; omega) (fun k hk e => by have := HZ.out; omega)).trans (hb7.mono (by have := HZ.out; have := HTr.out.size; omega))))))
        clear hb7 hx7 hW7 hp hrw hoz
        go_upto_region 8 with fail
        rw [← HW7.out]
        clear z0
        go_wp2_with fail
        refine HC.out.mono ?_
        clear HC y0
        rintro r w8 ⟨rfl, h8, hr8, ht8⟩
        have HT8 := Lib.hid (show Touch (fun b => b = p) w4 w8 from HTr.out.trans ((Touch.of_below HB7.out (Nat.le_refl _)).trans ht8))
        have H8 := Lib.hid h8
        have HR8 := Lib.hid hr8
        clear h8 ht8 hr8
        go_wp2
        go_roundw
        case rel => exact ⟨HT8.out, H8.out, HR8.out, .inr (.inr (.inr (.inl rfl)))⟩
        case measure => simp [intOf]
      · have HPr := Lib.hid hp
        have HRr := Lib.hid hrw
        obtain ⟨W7, hW7⟩ : ∃ W7, W7 = wr.alloc (.cells #[.func (.func 116) #[] #[]] 105) := ⟨_, rfl⟩
        have hb7 : Below wr.heap.size wr W7 := by rw [hW7]; exact (Below.refl _ _).alloc (Nat.le_refl _) _
        have hx7 : W7.heap[wr.heap.size]? = some (.cells #[.func (.func 116) #[] #[]] 105 (0, 0)) := by rw [hW7]; exact heap_alloc_new wr _
        have hoz : o < wr.heap.size := Nat.lt_of_lt_of_le (show o < w4.heap.size by have := HZ.out; omega) HTr.out.size
        have HP7 := Lib.hid (hp.below hb7 hoz)
        have HR7 := Lib.hid (below_row hb7 hrw hrw.lt)
        have HB7 := Lib.hid hb7
        have y0 : W7.cell? ⟨wr.heap.size, 0, none⟩ = some (.func (.func 116) #[] #[]) := box_cell hx7 rfl
        have HW7 := Lib.hid hW7
        have z0 : wr.cell? ⟨bp, 3, none⟩ = some (.func (.func 116) #[] #[]) := box_cell HBr.out rfl
        have HC := Lib.hid (parseMetaBad o p W7 HP7.out (Nat.lt_of_lt_of_le hoz hb7.size) HR7.out)
        clear hb7 hx7 hW7 hp hrw hoz
        go_upto_region 8 with fail
        rw [← HW7.out]
        clear z0
        go_wp2_with fail
        refine HC.out.mono ?_
        clear HC y0
        rintro r w8 ⟨rfl, h8, hr8, ht8⟩
        have HT8 := Lib.hid (show Touch (fun b => b = p) w4 w8 from HTr.out.trans ((Touch.of_below HB7.out (Nat.le_refl _)).trans ht8))
        have H8 := Lib.hid h8
        have HR8 := Lib.hid hr8
        clear h8 ht8 hr8
        go_wp2
        go_roundw
        case rel => exact ⟨HT8.out, H8.out, HR8.out, .inr (.inr (.inr (.inr rfl)))⟩
        case measure => simp [intOf]
      · obtain ⟨h0, h6, k, h60⟩ := hp
        have HDO := Lib.hid (doneErr o 10 k wr h0 h6 h60)
        have hr := HTr.out.row HR4.out (by have := HZ.out; omega)
        have HRR := Lib.hid hr
        have HBE := Lib.hid (HBW4.out.trans (HTr.out.below (B := w.heap.size) (by have := HZ.out; omega) (fun k hk e => by have := HZ.out; omega)))
        have t0 := hr.cell (i := 0) (by decide); have t1 := hr.cell (i := 1) (by decide); have t2 := hr.cell (i := 2) (by decide)
        have s0 := hr.frozen 0; have s1 := hr.frozen 1; have s2 := hr.frozen 2
        simp only [pick3] at t0 t1 t2
        clear hrw hr h0 h6 h60
        go_wp2_with fail
        refine HDO.out.mono ?_
        clear HDO
        rintro e w' ⟨rfl, h'⟩
        subst h'
        go_wp2
        refine bodyPost_ret (results_row_tmp Tryz.results34 _ _ (w.heap.size + 1) 24 _ (0, 0) _ rfl (row3_heap (set3 _ _ _ HRR.out)) Tryz.underlying24 rfl (by kernel_rfl) _ rfl) rfl ?_
        exact ⟨rfl, below3 _ _ _ HBE.out (by omega)⟩
theorem snapOfN (v : JV) (x : Value) (w : World) (hN : v.wt ≤ 4294967296) (hR : Rep w 0 w.heap.size v x) (hm : v.mayB = false ∨ v.kind ≠ 5) (hT : TabW w) :
    Calls Tryz.prog 34 #[x] w (OfNPost (if v.mayB then 10 else 3) w) := snapOfN' v x _ rfl w hN hR hm hT
/-- The snapshot that any value is, and the error. -/
def snapOfA (v : JV) : SnapV × Int := if v.mayB = false then (snapZ, 3) else if v.kind ≠ 5 then (snapZ, 10) else snapOfK v
/-- What Of tells of a value that came in. -/
def OfInPost (v : JV) (w : World) (e : Ending) (w' : World) : Prop :=
  ∃ s er qs a c, e = .returned (.tuple #[.agg #[.int .i64 s.ver, .int .i64 s.exp, .slice a s.pins.length c], .int .i64 er]) ∧ PinsOwn w.heap.size w' (.slice a s.pins.length c) qs ∧ qs.map (·.1) = s.pins ∧ Below w.heap.size w w' ∧ (er = 0 → v = snapJ s ∧ maySnap s = true) ∧ (er ≠ 0 → s = snapZ)
theorem metaJ_kinds (l : List PinV) : ∀ x ∈ (metaJ l).items, x.kind ≠ 0 := fun x hx => by
  obtain ⟨p, _, rfl⟩ := List.mem_map.1 hx
  simp [pinJ, JV.kind]
theorem snapJ_kinds (s : SnapV) : ∀ x ∈ (snapJ s).items, x.kind ≠ 0 := fun x hx => by
  have hx : x ∈ [txtJ snpN, txtJ (dateB s.exp), metaJ s.pins, numJ s.ver] := hx
  simp only [List.mem_cons, List.not_mem_nil, or_false] at hx
  rcases hx with rfl | rfl | rfl | rfl <;> simp [txtJ, metaJ, numJ, JV.kind]
theorem pinJ_kinds (p : PinV) : ∀ x ∈ (pinJ p).items, x.kind ≠ 0 := fun x hx => by
  obtain ⟨q, hq, rfl⟩ := List.mem_map.1 (show x ∈ (pinM p).map (·.2) from hx)
  rcases pinM_mem hq with ⟨rfl, _⟩ | ⟨rfl, _⟩ | rfl <;> simp [hashJ, numJ, JV.kind]
theorem stM_names {u : JV} (h : PartW u) : (stM u).1.names.length = (stM u).1.items.length := by
  unfold stM pickObj
  split
  · rfl
  · split
    · rfl
    · rename_i it hit
      split
      · rfl
      · split
        · rfl
        · rename_i hk _
          have hk5 : it.kind = 5 := by simpa using hk
          exact (part_obj (lookW h hit (by rw [hk5]; decide)) hk5).2.1
theorem snapOfIn (v : JV) (x : Value) (w : World) (hN : v.wt ≤ 4294967296) (hR : Rep w 0 w.heap.size v x) (hT : TabW w) :
    Calls Tryz.prog 34 #[x] w (OfInPost v w) := by
  by_cases hm : v.mayB = false ∨ v.kind ≠ 5
  · refine (snapOfN v x w hN hR hm hT).mono ?_
    rintro e w' ⟨rfl, hb⟩
    refine ⟨snapZ, _, [], none, 0, rfl, PinsOwn.nil _ _, rfl, hb, fun h => ?_, fun _ => rfl⟩
    exfalso
    revert h
    split <;> decide
  · have hmb : v.mayB = true := by cases h : v.mayB with | true => rfl | false => exact absurd (.inl h) hm
    have hk : v.kind = 5 := Classical.byContradiction fun h => hm (.inr h)
    have hp := partW_of hmb hk
    refine (snapOfG (fun u => WeakCopy v u) v x w hN hR hmb hk hT (fun u hu => stM_names (partW_weak hu hmb hk)) (fun w1 hb => (pickOf_goodW v x w1 w.heap.size hN hb.size (hR.below hb (Nat.le_refl _) (Nat.le_refl _) (Nat.le_refl _)) hk hp.2.2.1 hp.2.2.2.1).mono fun e w' ⟨u, h1, h2⟩ => ⟨u, h1, h2⟩)).mono ?_
    rintro e w' ⟨u, qs, a, c, hu, rfl, ho, hq, hb⟩
    refine ⟨(snapOfK u).1, (snapOfK u).2, qs, a, c, rfl, ho, hq, hb, fun h => ?_, fun h => ?_⟩
    · have hW := partW_weak hu hmb hk
      obtain ⟨h1, h2⟩ := snap_conv hW (show snapOfK u = ((snapOfK u).1, 0) from Prod.ext rfl h)
      have := weak_eq hu (by rw [h1]; exact snapJ_kinds _)
      exact ⟨by rw [← this]; exact h1, h2⟩
    · unfold snapOfK at h ⊢
      split at h
      · rename_i h0; rw [if_pos h0]
      · exact absurd rfl h
/-- Of a value of the call's own. -/
theorem snapOfOwn (v : JV) (x : Value) (w : World) (lo : Nat) (hlo : 0 < lo) (hN : v.wt ≤ 4294967296) (hR : Rep w lo w.heap.size v x) (hT : TabW w) :
    Calls Tryz.prog 34 #[x] w (fun e w' => ∃ qs a c, e = .returned (.tuple #[.agg #[.int .i64 (snapOfA v).1.ver, .int .i64 (snapOfA v).1.exp, .slice a (snapOfA v).1.pins.length c], .int .i64 (snapOfA v).2]) ∧ PinsOwn w.heap.size w' (.slice a (snapOfA v).1.pins.length c) qs ∧ qs.map (·.1) = (snapOfA v).1.pins ∧ Below w.heap.size w w') := by
  have hR0 := hR.carry (lo' := 0) (hi' := w.heap.size) (Nat.zero_le _) (Nat.le_refl _) (fun _ _ _ => rfl)
  by_cases hm : v.mayB = false ∨ v.kind ≠ 5
  · refine (snapOfN v x w hN hR0 hm hT).mono ?_
    rintro e w' ⟨rfl, hb⟩
    have e1 : snapOfA v = (snapZ, if v.mayB then 10 else 3) := by
      unfold snapOfA
      cases h : v.mayB with
      | false => rfl
      | true => rw [if_neg (by decide), if_pos (hm.resolve_left (by rw [h]; decide))]; rfl
    rw [e1]
    exact ⟨[], none, 0, rfl, PinsOwn.nil _ _, rfl, hb⟩
  · have hmb : v.mayB = true := by cases h : v.mayB with | true => rfl | false => exact absurd (.inl h) hm
    have hk : v.kind = 5 := Classical.byContradiction fun h => hm (.inr h)
    have hp := partW_of hmb hk
    refine (snapOfG (fun u => u = v) v x w hN hR0 hmb hk hT (fun u hu => by rw [hu]; exact stM_names hp) (fun w1 hb => (pickOf_good v x w1 lo w.heap.size hN hb.size (hR.below hb (Nat.le_refl _) (Nat.le_refl _) (Nat.le_refl _)) hk hp.2.2.1 hp.2.2.2.1 (fun _ _ => .inl hlo)).mono fun e w' h => ⟨v, rfl, h⟩)).mono ?_
    rintro e w' ⟨u, qs, a, c, rfl, rfl, ho, hq, hb⟩
    have e1 : snapOfA u = snapOfK u := by unfold snapOfA; rw [if_neg (by rw [hmb]; decide), if_neg (by simp [hk])]
    rw [e1]
    exact ⟨qs, a, c, rfl, ho, hq, hb⟩
end Go.Proofs.YtgghgcilpfdbjaaGreatDoor

namespace Go.Proofs.YtgghgcilpfdbjaaGreatDoor
open Go.RowKit

def PinInPost (f : ByteArray) (v : JV) (w : World) (e : Ending) (w' : World) : Prop :=
  ∃ p er ha hc, e = .returned (.tuple #[.agg #[.string p.name, .int .i64 p.ver, .int .i64 p.len, .slice ha p.hs.length hc], .int .i64 er]) ∧ KeysAt w' 0 w'.heap.size ha p.hs ∧ Below w.heap.size w w' ∧ (er = 0 → v = pinJ p ∧ mayPin p = true ∧ p.name = f) ∧ (er ≠ 0 → p = pinZ)
theorem pinOfIn (f : ByteArray) (v : JV) (x : Value) (w : World) (hN : v.wt ≤ 4294967296) (hR : Rep w 0 w.heap.size v x) (hf : f.size ≤ 9223372036854775807) :
    Calls Tryz.prog 29 #[.string f, x] w (PinInPost f v w) := by
  by_cases hk : v.kind = 5
  · refine (snapPinOfG (fun u => WeakCopy v u) f v x w hN hR hk hf (fun hmb w1 hb => by
      have hp := partW_of hmb hk
      exact (pickOf_goodW v x w1 w.heap.size hN hb.size (hR.below hb (Nat.le_refl _) (Nat.le_refl _) (Nat.le_refl _)) hk hp.2.2.1 hp.2.2.2.1).mono fun e w' ⟨u, h1, h2⟩ => ⟨u, h1, h2⟩)).mono ?_
    rintro e w' ⟨r, ha, hc, hr, rfl, hkk, _, hb⟩
    refine ⟨r.1, r.2, ha, hc, rfl, hkk.1.carry (Nat.zero_le _) (Nat.le_refl _) (fun _ _ _ => rfl), hb, fun h => ?_, fun h => ?_⟩
    · rcases hr with ⟨_, e⟩ | ⟨hb2, u, hu, e⟩
      · rw [e] at h; cases h
      · simp only [Bool.or_eq_false_iff, Bool.not_eq_false'] at hb2
        have hW := partW_weak hu hb2.2 hk
        have hfs : (roleOf f).isSome = true := by
          cases h2 : roleOf f with
          | none => rw [h2] at hb2; simp at hb2
          | some _ => rfl
        obtain ⟨h1, h2, h3⟩ := pin_conv hW hfs (show pinOfK f u = (r.1, 0) from by rw [← e]; exact Prod.ext rfl h)
        have := weak_eq hu (by rw [h1]; exact pinJ_kinds _)
        exact ⟨by rw [← this]; exact h1, h2, h3⟩
    · rcases hr with ⟨_, e⟩ | ⟨_, u, _, e⟩
      · rw [e]
      · rw [e] at h ⊢
        rw [pinOfK_eq] at h ⊢
        split at h
        · rename_i h0; rw [if_pos h0]
        · exact absurd rfl h
  · refine (snapPinOfN f v x w hN hR hk hf).mono ?_
    rintro e w' ⟨ha, hc, rfl, hkk, _, hb⟩
    have e1 : (pinOfA f v).1 = pinZ ∧ (pinOfA f v).2 ≠ 0 := by
      unfold pinOfA
      split
      · exact ⟨rfl, by decide⟩
      · first | exact ⟨rfl, by decide⟩ | (rw [if_pos hk]; exact ⟨rfl, by decide⟩)
    exact ⟨_, _, ha, hc, rfl, hkk.1.carry (Nat.zero_le _) (Nat.le_refl _) (fun _ _ _ => rfl), hb, fun h => absurd h e1.2, fun _ => e1.1⟩

set_option maxHeartbeats 1000000 in
set_option maxRecDepth 100000 in
theorem snapPinValueBad (nm : ByteArray) (vr ln : Int) (hs : List Key2) (ha : Option Addr) (hc : Nat) (w : World) (hK : KeysAt w 0 w.heap.size ha hs) (hn : nm.size ≤ 9223372036854775807) (hl : hs.length ≤ 9223372036854775807) (hz : ∀ k ∈ hs, k.1.size ≤ 9223372036854775807 ∧ k.2.size ≤ 9223372036854775807) (hm : mayPin ⟨nm, vr, ln, hs⟩ = false) :
    Calls Tryz.prog 27 #[.agg #[.string nm, .int .i64 vr, .int .i64 ln, .slice ha hs.length hc]] w fun r w' => r = .returned (.tuple #[.agg #[.int .u8 0, .int .i64 0, .string { data := #[] }, .slice none 0 0, .slice none 0 0], .int .i64 3]) ∧ Below w.heap.size w w' := by
  obtain ⟨W2, hW2⟩ : ∃ W2, W2 = (w.alloc (.cells #[.string nm, .int .i64 vr, .int .i64 ln, .slice ha hs.length hc] 36)).alloc (.cells #[.int .u8 0, .int .i64 0, .string { data := #[] }, .slice none 0 0, .slice none 0 0] 30) := ⟨_, rfl⟩
  have hz1 : (w.alloc (.cells #[.string nm, .int .i64 vr, .int .i64 ln, .slice ha hs.length hc] 36)).heap.size = w.heap.size + 1 := by simp
  have hb2 : Below w.heap.size w W2 := by rw [hW2]; exact ((Below.refl _ _).alloc (Nat.le_refl _) _).alloc (by simp) _
  have hx0 : W2.heap[w.heap.size]? = some (.cells #[.string nm, .int .i64 vr, .int .i64 ln, .slice ha hs.length hc] 36 (0, 0)) := by rw [hW2, Below.heap_alloc _ _ _ (by simp)]; exact heap_alloc_new w _
  have hr0 : W2.rowIs (w.heap.size + 1) 30 5 (pick5 (.int .u8 0) (.int .i64 0) (.string { data := #[] }) (.slice none 0 0) (.slice none 0 0)) := by
    have := rowIs_box5 (w.alloc (.cells #[.string nm, .int .i64 vr, .int .i64 ln, .slice ha hs.length hc] 36)) (.int .u8 0) (.int .i64 0) (.string { data := #[] }) (.slice none 0 0) (.slice none 0 0) 30
    rw [hz1, ← hW2] at this
    exact this
  have HMY := Lib.hid (snapMayPin nm vr ln hs ha hc W2 (hK.below hb2 (Nat.le_refl _) (Nat.le_refl _) hb2.size) hn hl hz)
  rw [hm] at HMY
  have v0 : W2.cell? ⟨w.heap.size, 0, none⟩ = some (.string nm) := box_cell hx0 rfl
  have v1 : W2.cell? ⟨w.heap.size, 1, none⟩ = some (.int .i64 vr) := box_cell hx0 rfl
  have v2 : W2.cell? ⟨w.heap.size, 2, none⟩ = some (.int .i64 ln) := box_cell hx0 rfl
  have v3 : W2.cell? ⟨w.heap.size, 3, none⟩ = some (.slice ha hs.length hc) := box_cell hx0 rfl
  have HR0 := Lib.hid hr0
  have HB2 := Lib.hid hb2
  have HW := Lib.hid hW2
  have HZ := Lib.hid (show W2.heap.size = w.heap.size + 2 by rw [hW2]; simp)
  clear hK hm hb2 hx0 hr0 hW2 hz1 hz
  go_enter Tryz.func27, Tryz.ntmps27
  go_upto_region 1 with fail
  rw [← HW.out]
  go_wp2_with fail
  refine HMY.out.mono ?_
  clear HMY
  rintro r w3 ⟨rfl, hb3⟩
  have HB3 := Lib.hid (HB2.out.trans (hb3.mono HB2.out.size))
  have hq := below_row hb3 HR0.out HR0.out.lt
  have HRr := Lib.hid hq
  have t0 := hq.cell (i := 0) (by decide); have t1 := hq.cell (i := 1) (by decide); have t2 := hq.cell (i := 2) (by decide); have t3 := hq.cell (i := 3) (by decide); have t4 := hq.cell (i := 4) (by decide)
  have s0 := hq.frozen 0; have s1 := hq.frozen 1; have s2 := hq.frozen 2; have s3 := hq.frozen 3; have s4 := hq.frozen 4
  simp only [pick5] at t0 t1 t2 t3 t4
  clear hq hb3 v0 v1 v2 v3
  go_wp2
  refine bodyPost_ret (results_row_tmp Tryz.results27 _ _ (w.heap.size + 1) 30 _ (0, 0) _ rfl (row5_heap (set5 _ _ _ _ _ HRr.out)) Tryz.underlying30 rfl (by kernel_rfl) _ rfl) rfl ?_
  exact ⟨rfl, below5 _ _ _ _ _ HB3.out (by omega)⟩
end Go.Proofs.YtgghgcilpfdbjaaGreatDoor
