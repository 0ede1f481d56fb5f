/- Values of which value.Copy makes an exact copy: of the call's own memory, or flat ones. -/
import Derived.Test.YtnlgmcapbbgelaaGreatDoorRb12
import Derived.Test.YtnlgmcapbbgelaaGreatDoorRb18
import Derived.Test.YtnlgmcapbbgelaaGreatDoorRb16
import Derived.Test.YtnlgmcapbbgelaaGreatDoorRb01
import Derived.Test.YtnlgmcapbbgelaaGreatDoorRb14
import Derived.Test.YtnlgmcapbbgelaaGreatDoorRb09
import Derived.Laws.RangeString
import Derived.Test.YtnlgmcapbbgelaaGreatDoorRb17

namespace Go.Proofs.YtnlgmcapbbgelaaGreatDoor
open Go.RowKit Go.WideMaps Go.Maps
theorem wts_pt : ∀ (l l' : List JV), l'.length = l.length → (∀ j (h : j < l'.length) (h' : j < l.length), l'[j].wt ≤ l[j].wt) → JV.wts l' ≤ JV.wts l
 | [], [], _, _ => Nat.le_refl _
 | x :: r, y :: s, h, hp => by
   have h0 := hp 0 (by simp) (by simp)
   have h1 := wts_pt r s (by simpa using h) (fun j h1 h2 => by have := hp (j + 1) (by simpa using h1) (by simpa using h2); simpa using this)
   simp only [List.getElem_cons_zero] at h0
   rw [JV.wts, JV.wts]; omega
 | [], _ :: _, h, _ => by simp at h
 | _ :: _, [], h, _ => by simp at h
theorem WeakCopy.wt {v v' : JV} (h : WeakCopy v v') : v'.wt ≤ v.wt := by
 have := wts_pt v.items v'.items h.len (fun j h1 h2 => by
   rcases h.items j h1 h2 with e | ⟨e, _⟩
   · rw [e]; exact Nat.le_refl _
   · rw [e]; exact JV.wt_pos _)
 rw [JV.wt_eq, JV.wt_eq, h.t, h.names]; omega
theorem look_weak : ∀ (ns : List ByteArray) (l l' : List JV) (y : ByteArray), l'.length = l.length → (∀ j (h : j < l'.length) (h' : j < l.length), WeakItem l[j] l'[j]) →
   (lookL ns l y = none ∧ lookL ns l' y = none) ∨ ∃ j, ∃ h : j < l.length, ∃ h' : j < l'.length, lookL ns l y = some l[j] ∧ lookL ns l' y = some l'[j] ∧ WeakItem l[j] l'[j]
 | [], l, l', y, _, _ => .inl ⟨by simp [lookL], by simp [lookL]⟩
 | n :: ns, [], [], y, _, _ => .inl ⟨by simp [lookL], by simp [lookL]⟩
 | n :: ns, x :: r, x' :: r', y, h, hw => by
   by_cases e : n = y
   · exact .inr ⟨0, by simp, by simp, by simp [lookL, e], by simp [lookL, e], hw 0 (by simp) (by simp)⟩
   · rcases look_weak ns r r' y (by simpa using h) (fun j h1 h2 => by have := hw (j + 1) (by simpa using h1) (by simpa using h2); simpa using this) with ⟨h1, h2⟩ | ⟨j, h1, h2, h3, h4, h5⟩
     · exact .inl ⟨by rw [lookL, if_neg e, h1], by rw [lookL, if_neg e, h2]⟩
     · exact .inr ⟨j + 1, by simpa using h1, by simpa using h2, by rw [lookL, if_neg e, h3]; rfl, by rw [lookL, if_neg e, h4]; rfl, by simpa using h5⟩
 | _ :: _, [], _ :: _, _, h, _ => by simp at h
 | _ :: _, _ :: _, [], _, h, _ => by simp at h
theorem partsB_get (l : List JV) (j : Nat) (h : j < l.length) (hp : JV.partsB l = true) : l[j].partB = true := by
 cases hb : l[j].partB
 · rw [JV.partsB_bad l j h hb] at hp; cases hp
 · rfl
theorem pickText_weak {v v' : JV} (hw : WeakCopy v v') (hm : v.mayB = true) (y : ByteArray) (st : PS) : pickText v' y st = pickText v y st := by
 unfold pickText JV.look
 rw [hw.names]
 split
 · rfl
 rcases look_weak v.names v.items v'.items y hw.len (fun j h h' => hw.items j h h') with ⟨h1, h2⟩ | ⟨j, h1, h2, h3, h4, h5⟩
 · rw [h1, h2]
 · rw [h3, h4]
   rcases h5 with e | ⟨e, hns⟩
   · rw [e]
   · rw [e]
     by_cases hk : v.items[j].kind = 3
     · exfalso
       have hp : v.partB = true := by rw [JV.mayB_iff] at hm; simp at hm; exact hm.1.1
       rw [JV.partB_eq] at hp
       have hpp := partsB_get v.items j h1 (by simp at hp; exact hp.2)
       rw [JV.partB_eq] at hpp
       have h0 := JV.proper_leaf (v := v.items[j]) (by simp at hpp; exact hpp.1) (by rw [hk]; decide) (by rw [hk]; decide)
       exact hns (.inr fun k hk' => by rw [h0] at hk'; simp at hk')
     · show (if zeroJ.kind = 3 then _ else _) = (if v.items[j].kind = 3 then _ else _)
       rw [if_neg hk, if_neg (by decide)]
theorem pickDone_weak {v v' : JV} (hw : WeakCopy v v') (st : PS) : pickDone v' st = pickDone v st := by unfold pickDone; rw [hw.names]
def OfWPost (v : JV) (w : World) (e : Ending) (w' : World) : Prop := ∃ v', WeakCopy v v' ∧ OfPost v' w e w'
set_option maxHeartbeats 400000 in
set_option maxRecDepth 100000 in
theorem pickOf_goodW (v : JV) (x : Value) (w : World) (hi : Nat) (hN : v.wt ≤ 4294967296) (hhi : hi ≤ w.heap.size) (hR : Rep w 0 hi v x) (hk : v.kind = 5) (hr : rises v.names = true) (hl : v.names.length = v.items.length) :
   Calls Tryz.prog 52 #[x] w (OfWPost v w) := by
 obtain ⟨an, cn, ai, ci, rfl, h1, h2, h3, h4⟩ := hR.parts
 obtain ⟨b1, b2, b3, b4⟩ := v.wt_bd
 rw [hl, hk]
 rw [hl, hk] at hR
 obtain ⟨nn, hnn⟩ : ∃ nn, nn = v.items.length := ⟨_, rfl⟩
 rw [← hnn] at hR b3 ⊢
 have HNN := Lib.hid hnn
 have H3 := Lib.hid h3
 have HR := Lib.hid hR
 have HRS := Lib.hid hr
 have HK := Lib.hid hk
 have HL := Lib.hid hl
 clear h1 h2 h3 h4 hR hr hk hnn hl
 have hmm := @run_makeMap Tryz.prog
 have HB0 := Lib.hid (show Below w.heap.size w (w.alloc (.cells #[.int .u8 5, .int .i64 v.n, .string v.t, .slice an nn cn, .slice ai nn ci] 25)) from (Below.refl _ _).alloc (Nat.le_refl _) _)
 have HX0 := Lib.hid (heap_alloc_new w (.cells #[.int .u8 5, .int .i64 v.n, .string v.t, .slice an nn cn, .slice ai nn ci] 25))
 go_enter Tryz.func52, Tryz.ntmps52
 go_wp2
 go_loopw [3] (fun i wr => ∃ k : Nat, 1 ≤ k ∧ (k ≤ nn ∨ k = 1) ∧ i = .int .i64 k ∧ Below (w.heap.size + 1) (w.alloc (.cells #[.int .u8 5, .int .i64 v.n, .string v.t, .slice an nn cn, .slice ai nn ci] 25)) wr) (fun i _ => nn - (intOf i).toNat)
 case atStart => exact ⟨1, by omega, .inr rfl, rfl, Below.refl _ _⟩
 case round =>
   obtain ⟨k, hk1, hk2, rfl, hbel⟩ := hrel
   have hz : w.heap.size + 1 ≤ wr.heap.size := by have := hbel.size; simpa using this
   have hx1 : wr.heap[w.heap.size]? = some (.cells #[.int .u8 5, .int .i64 v.n, .string v.t, .slice an nn cn, .slice ai nn ci] 25 (0, 0)) := by rw [hbel.block _ (by omega)]; exact HX0.out
   have HX1 := Lib.hid hx1
   have HBW := Lib.hid (show Below w.heap.size w wr from HB0.out.trans (hbel.mono (by omega)))
   have c3 : wr.cell? ⟨w.heap.size, 3, none⟩ = some (.slice an nn cn) := box_cell hx1 rfl
   have HB := Lib.hid hbel
   clear hx1 hbel
   by_cases hlt : k < nn
   · have hltn : k < v.names.length := by rw [HL.out, ← HNN.out]; exact hlt
     obtain ⟨b, off, rfl, _, hb, y1⟩ := (H3.out.below HBW.out hhi (Nat.le_refl _) (Nat.le_refl _)).at k hltn
     obtain ⟨b', off', hbb, _, _, y0⟩ := (H3.out.below HBW.out hhi (Nat.le_refl _) (Nat.le_refl _)).at (k - 1) (by omega)
     obtain ⟨rfl, rfl⟩ : b = b' ∧ off = off' := by simpa using hbb
     clear hbb
     have hless := rises_lt HRS.out (k - 1) k (by omega) hltn (by omega)
     unfold bl at hless
     generalize v.names[k - 1] = na at hless y0
     generalize v.names[k] = nb at hless y1
     have i0 : IntKind.i64.wrap ((k : Int) - 1) = (k : Int) - 1 := IntWalk.i64_in _ (by omega)
     have j0 : 0 ≤ (k : Int) - 1 := by omega
     have j1 : 1 ≤ (k : Int) := by omega
     have j2 : (k : Int) - 1 < (nn : Int) := by omega
     have j3 : (k : Int) < (nn : Int) := by omega
     have t0 : ((k : Int) - 1).toNat = k - 1 := by omega
     go_wp2_with fail
     go_quiet (fail)
     go_wp2
     go_roundw
     case rel => exact ⟨k + 1, by omega, by omega, by go_num, Below.drewN HB.out _⟩
     case measure => simp [intOf]; omega
   · have c0 : wr.cell? ⟨w.heap.size, 0, none⟩ = some (.int .u8 5) := box_cell HX1.out rfl
     have c1 : wr.cell? ⟨w.heap.size, 1, none⟩ = some (.int .i64 v.n) := box_cell HX1.out rfl
     have c2 : wr.cell? ⟨w.heap.size, 2, none⟩ = some (.string v.t) := box_cell HX1.out rfl
     have c4 : wr.cell? ⟨w.heap.size, 4, none⟩ = some (.slice ai nn ci) := box_cell HX1.out rfl
     have HC := Lib.hid (valueCopyW v _ wr hi hN (by omega) (HR.out.below HBW.out hhi (Nat.le_refl _) (Nat.le_refl _)))
     go_wp2_with fail
     refine HC.out.mono ?_
     clear HC c0 c1 c2 c3 c4
     rintro e w2 ⟨v', an2, cn2, ai2, ci2, hwc, rfl, hr2, hb2⟩
     have HWC := Lib.hid hwc
     clear hwc
     have hz2 := hb2.size
     have HR2 := Lib.hid hr2
     have HB2 := Lib.hid (HBW.out.trans (hb2.mono (by omega)))
     clear hr2 hb2
     go_wp2
     go_ret
     refine ⟨v', HWC.out, w2.heap.size + 1, w2.heap.size, wr.heap.size, w2.heap.size, an2, ai2, cn2, ci2, rfl, ?_, by omega, by omega, (HB2.out.alloc (by omega) _).alloc (by simp; omega) _⟩
     have hbb : Below w2.heap.size w2 ((w2.alloc (.map #[] 0)).alloc (.cells #[.int .u8 v'.kind, .int .i64 v'.n, .string v'.t, .slice an2 v'.names.length cn2, .slice ai2 v'.items.length ci2, .map (some w2.heap.size), .int .i64 0] 126)) := ((Below.refl _ _).alloc (Nat.le_refl _) _).alloc (by simp) _
     exact { obj := by
               have := heap_alloc_new (w2.alloc (.map #[] 0)) (.cells #[.int .u8 v'.kind, .int .i64 v'.n, .string v'.t, .slice an2 v'.names.length cn2, .slice ai2 v'.items.length ci2, .map (some w2.heap.size), .int .i64 0] 126)
               rw [show (w2.alloc (.map #[] 0)).heap.size = w2.heap.size + 1 by simp] at this
               exact this
             map := ⟨_, 0, (World.ownsMap_made w2 _ _ _).alloc _, by omega, AskD.nil⟩
             rep := HR2.out.below hbb (Nat.le_refl _) (Nat.le_refl _) (Nat.le_refl _)
             pos := by omega
             out := ⟨by omega, by omega⟩
             le := hbb.size
             kind := HWC.out.kind.trans HK.out
             rise := by rw [HWC.out.names]; exact HRS.out
             len := by rw [HWC.out.names, HWC.out.len]; exact HL.out
             wt := Nat.le_trans HWC.out.wt hN }
end Go.Proofs.YtnlgmcapbbgelaaGreatDoor

namespace Go.Proofs.YtnlgmcapbbgelaaGreatDoor
open Go.RowKit
theorem nil_bytes {t : ByteArray} (h : t.toList = []) : t = { data := #[] } := by
 rw [ByteArray.toList_eq] at h
 exact bytes_ext (by simpa using h)
theorem part_num {x : JV} (h : x.partB = true) (hk : x.kind = 2) : x = numJ x.n := by
 rw [JV.partB_eq, Bool.and_eq_true] at h
 obtain ⟨h1, -⟩ := h
 obtain ⟨k, n, t, ns, xs⟩ := x
 simp only [JV.kind, JV.n, JV.t, JV.names, JV.items] at h1 hk ⊢
 subst hk
 unfold properB at h1
 rw [if_neg (by decide), if_pos rfl, decide_eq_true_eq] at h1
 obtain ⟨a, b, c⟩ := h1
 rw [nil_bytes a, List.eq_nil_of_length_eq_zero b, List.eq_nil_of_length_eq_zero c]
 rfl
theorem part_txt {x : JV} (h : x.partB = true) (hk : x.kind = 3) : x = txtJ x.t := by
 rw [JV.partB_eq, Bool.and_eq_true] at h
 obtain ⟨h1, -⟩ := h
 obtain ⟨k, n, t, ns, xs⟩ := x
 simp only [JV.kind, JV.n, JV.t, JV.names, JV.items] at h1 hk ⊢
 subst hk
 unfold properB at h1
 rw [if_neg (by decide), if_neg (by decide), if_pos rfl, Bool.and_eq_true, decide_eq_true_eq] at h1
 obtain ⟨⟨a, b, c⟩, -⟩ := h1
 rw [a, List.eq_nil_of_length_eq_zero b, List.eq_nil_of_length_eq_zero c]
 rfl
theorem part_obj {x : JV} (h : x.partB = true) (hk : x.kind = 5) : (x.n = 0 ∧ x.t = { data := #[] }) ∧ x.names.length = x.items.length ∧ rises x.names = true ∧ ∀ y ∈ x.items, y.partB = true := by
 rw [JV.partB_eq, Bool.and_eq_true] at h
 obtain ⟨h1, h2⟩ := h
 rw [hk] at h1
 unfold properB at h1
 rw [if_neg (by decide), if_neg (by decide), if_neg (by decide), if_neg (by decide), if_pos rfl, Bool.and_eq_true, Bool.and_eq_true, decide_eq_true_eq] at h1
 obtain ⟨⟨⟨a, b, c⟩, d⟩, -⟩ := h1
 refine ⟨⟨a, nil_bytes b⟩, c, d, fun y hy => ?_⟩
 obtain ⟨i, hi, rfl⟩ := List.getElem_of_mem hy
 exact partsB_get _ i hi h2
theorem names_eq : ∀ (a b : List ByteArray), rises a = true → rises b = true → (∀ x, x ∈ a ↔ x ∈ b) → a = b
 | [], [], _, _, _ => rfl
 | [], y :: b, _, _, h => by have := (h y).2 (List.mem_cons_self ..); cases this
 | x :: a, [], _, _, h => by have := (h x).1 (List.mem_cons_self ..); cases this
 | x :: a, y :: b, ha, hb, h => by
   have hx : ∀ z ∈ a, bl x z = true := fun z hz => by
     obtain ⟨i, hi, rfl⟩ := List.getElem_of_mem hz
     exact rises_head ha i hi
   have hy : ∀ z ∈ b, bl y z = true := fun z hz => by
     obtain ⟨i, hi, rfl⟩ := List.getElem_of_mem hz
     exact rises_head hb i hi
   have e : x = y := by
     rcases List.mem_cons.1 ((h x).1 (List.mem_cons_self ..)) with e | hxb
     · exact e
     · rcases List.mem_cons.1 ((h y).2 (List.mem_cons_self ..)) with e | hya
       · exact e.symm
       · have h1 := hy x hxb
         have h2 := hx y hya
         rw [bl_asymm h1] at h2; cases h2
   subst e
   rw [names_eq a b (rises_tail ha) (rises_tail hb) fun z => ?_]
   constructor
   · intro hz
     rcases List.mem_cons.1 ((h z).1 (List.mem_cons_of_mem _ hz)) with e | hzb
     · have := hx z hz; rw [e, bl_irrefl] at this; cases this
     · exact hzb
   · intro hz
     rcases List.mem_cons.1 ((h z).2 (List.mem_cons_of_mem _ hz)) with e | hza
     · have := hy z hz; rw [e, bl_irrefl] at this; cases this
     · exact hza
theorem lookL_mem : ∀ {ns : List ByteArray} {xs : List JV} {y : ByteArray} {x : JV}, lookL ns xs y = some x → y ∈ ns ∧ x ∈ xs
 | n :: ns, z :: xs, y, x, h => by
   rw [lookL] at h
   split at h
   · rename_i e
     injection h with h
     subst h; subst e
     exact ⟨List.mem_cons_self .., List.mem_cons_self ..⟩
   · have := lookL_mem h
     exact ⟨List.mem_cons_of_mem _ this.1, List.mem_cons_of_mem _ this.2⟩
theorem obj_of {v : JV} {N : List NJ} (hk : v.kind = 5) (hp : v.n = 0 ∧ v.t = { data := #[] }) (hr : rises v.names = true) (hl : v.names.length = v.items.length) (hN : rises (N.map (·.1)) = true) (h1 : ∀ x ∈ v.names, x ∈ N.map (·.1)) (h2 : ∀ p ∈ N, v.look p.1 = some p.2) : v = objJ N := by
 have hn : v.names = N.map (·.1) := names_eq _ _ hr hN fun x => ⟨h1 x, fun hx => by
   obtain ⟨p, hpN, rfl⟩ := List.mem_map.1 hx
   exact (lookL_mem (h2 p hpN)).1⟩
 have hi : v.items = N.map (·.2) := by
   apply List.ext_getElem
   · rw [← hl, hn]; simp
   · intro i ha hb
     have hi : i < N.length := by simpa using hb
     have e := h2 N[i] (List.getElem_mem hi)
     have e2 : v.names[i]'(by omega) = N[i].1 := by
       have := List.getElem_of_eq hn (i := i) (by omega)
       simpa using this
     rw [look_some hr i (by omega) ha e2] at e
     simpa using Option.some.inj e
 obtain ⟨k, n, t, ns, xs⟩ := v
 simp only [JV.kind, JV.n, JV.t, JV.names, JV.items] at *
 rw [hk, hp.1, hp.2, hn, hi]; rfl
def PartW (v : JV) : Prop := v.kind = 5 ∧ (v.n = 0 ∧ v.t = { data := #[] }) ∧ rises v.names = true ∧ v.names.length = v.items.length ∧ ∀ x ∈ v.items, x.partB = true ∨ x = zeroJ
theorem partW_of {v : JV} (h : v.mayB = true) (hk : v.kind = 5) : PartW v := by
 rw [JV.mayB_iff] at h
 simp only [Bool.and_eq_true] at h
 obtain ⟨a, b, c, d⟩ := part_obj h.1.1 hk
 exact ⟨hk, a, c, b, fun x hx => .inl (d x hx)⟩
theorem partW_weak {v v' : JV} (hw : WeakCopy v v') (h : v.mayB = true) (hk : v.kind = 5) : PartW v' := by
 obtain ⟨_, a, b, c, d⟩ := partW_of h hk
 refine ⟨hw.kind.trans hk, ⟨hw.n.trans a.1, hw.t.trans a.2⟩, by rw [hw.names]; exact b, by rw [hw.names, hw.len]; exact c, fun x hx => ?_⟩
 obtain ⟨i, hi, rfl⟩ := List.getElem_of_mem hx
 have hi' : i < v.items.length := by rw [← hw.len]; exact hi
 rcases hw.items i hi hi' with e | ⟨e, _⟩
 · rw [e]
   rw [JV.mayB_iff] at h
   simp only [Bool.and_eq_true] at h
   exact .inl ((part_obj h.1.1 hk).2.2.2 _ (List.getElem_mem hi'))
 · exact .inr e
theorem weak_eq {v v' : JV} (hw : WeakCopy v v') (h : ∀ x ∈ v'.items, x.kind ≠ 0) : v' = v := by
 have hi : v'.items = v.items := by
   apply List.ext_getElem hw.len
   intro i ha hb
   rcases hw.items i ha hb with e | ⟨e, _⟩
   · exact e
   · exact absurd (by rw [e]; rfl) (h _ (List.getElem_mem ha))
 have h1 := hw.kind; have h2 := hw.n; have h3 := hw.t; have h4 := hw.names
 obtain ⟨k, n, t, ns, xs⟩ := v
 obtain ⟨k', n', t', ns', xs'⟩ := v'
 simp only [JV.kind, JV.n, JV.t, JV.names, JV.items] at *
 rw [h1, h2, h3, h4, hi]
theorem fail_zero {st : PS} {e : Int} (h : (st.fail e).err = 0) : st.err = 0 ∧ e = 0 ∧ st.fail e = ⟨st.asked, 0⟩ := by
 unfold PS.fail at h ⊢
 split at h
 · rename_i h0
   have he : e = 0 := h
   rw [if_pos h0, he]
   exact ⟨h0, rfl, rfl⟩
 · rename_i h0
   exact absurd h h0
theorem pickNum_inv {v : JV} {y : ByteArray} {lo hi : Int} {st : PS} (h : (pickNum v y lo hi st).2.err = 0) : st.err = 0 ∧ ∃ it, v.look y = some it ∧ it.kind = 2 ∧ (lo ≤ it.n ∧ it.n ≤ hi) ∧ pickNum v y lo hi st = (it.n, ⟨y :: st.asked, 0⟩) := by
 unfold pickNum at h ⊢
 split at h
 · rename_i h0; exact absurd h h0
 rename_i h0
 rw [if_neg h0]
 split at h
 · simp at h
 rename_i it hit
 split at h
 · simp at h
 rename_i h1
 split at h
 · simp at h
 rename_i h2
 exact ⟨by simpa using h0, it, hit, by simpa using h1, by omega, (if_neg h1).trans (if_neg h2)⟩
theorem pickText_inv {v : JV} {y : ByteArray} {st : PS} (h : (pickText v y st).2.err = 0) : st.err = 0 ∧ ∃ it, v.look y = some it ∧ it.kind = 3 ∧ pickText v y st = (it.t, ⟨y :: st.asked, 0⟩) := by
 unfold pickText at h ⊢
 split at h
 · rename_i h0; exact absurd h h0
 rename_i h0
 rw [if_neg h0]
 split at h
 · simp at h
 rename_i it hit
 split at h
 · rename_i h1
   exact ⟨by simpa using h0, it, hit, h1, if_pos h1⟩
 · simp at h
theorem pickObj_inv {v : JV} {y : ByteArray} {most : Nat} {st : PS} (h : (pickObj v y most st).2.err = 0) : st.err = 0 ∧ ∃ it, v.look y = some it ∧ it.kind = 5 ∧ it.items.length ≤ most ∧ pickObj v y most st = (it, ⟨y :: st.asked, 0⟩) := by
 unfold pickObj at h ⊢
 split at h
 · rename_i h0; exact absurd h h0
 rename_i h0
 rw [if_neg h0]
 split at h
 · simp at h
 rename_i it hit
 split at h
 · simp at h
 rename_i h1
 split at h
 · simp at h
 rename_i h2
 exact ⟨by simpa using h0, it, hit, by simpa using h1, by omega, (if_neg h1).trans (if_neg h2)⟩
theorem pickDone_inv {v : JV} {st : PS} (h : pickDone v st = 0) : st.err = 0 ∧ ∀ n ∈ v.names, n ∈ st.asked := by
 unfold pickDone at h
 split at h
 · rename_i h0; exact absurd h h0
 rename_i h0
 split at h
 · rename_i h1
   refine ⟨by simpa using h0, fun n hn => ?_⟩
   have := List.all_eq_true.1 h1 n hn
   obtain ⟨a, ha, e⟩ := List.any_eq_true.1 this
   simp only [decide_eq_true_eq] at e
   rw [← e]; exact ha
 · cases h
theorem lookW {v : JV} (h : PartW v) {y : ByteArray} {it : JV} (e : v.look y = some it) (hk : it.kind ≠ 0) : it.partB = true := by
 rcases h.2.2.2.2 it (lookL_mem e).2 with h | h
 · exact h
 · exact absurd (by rw [h]; rfl) hk
def hexChar (n : Nat) : UInt8 := if n < 10 then UInt8.ofNat (48 + n) else UInt8.ofNat (87 + n)
def hexEnc : List UInt8 → List UInt8
 | [] => []
 | c :: r => hexChar (c.toNat / 16) :: hexChar (c.toNat % 16) :: hexEnc r
theorem hexEnc_append (l m : List UInt8) : hexEnc (l ++ m) = hexEnc l ++ hexEnc m := by
 induction l with
 | nil => rfl
 | cons c r ih => simp [hexEnc, ih]
theorem hexEnc_length (l : List UInt8) : (hexEnc l).length = 2 * l.length := by
 induction l with
 | nil => rfl
 | cons c r ih => simp [hexEnc, ih]; omega
def shaHex (l : List UInt8) : List UInt8 := hexEnc (shaSum l)
theorem shaHex_length (l : List UInt8) : (shaHex l).length = 64 := by unfold shaHex; rw [hexEnc_length, shaSum_length]
theorem isHex_char (n : Nat) (h : n < 16) : isHex (hexChar n) = true := by
 have : ∀ m : Fin 16, isHex (hexChar m.val) = true := by decide
 exact this ⟨n, h⟩
theorem allHex_enc : ∀ l : List UInt8, allHex (hexEnc l) = true
 | [] => rfl
 | c :: r => by
   have h := allHex_enc r
   have hc : c.toNat < 256 := c.toNat_lt
   unfold allHex at h ⊢
   simp only [hexEnc, List.all_cons, Bool.and_eq_true]
   exact ⟨isHex_char _ (by omega), isHex_char _ (by omega), h⟩
theorem allHex_sha (l : List UInt8) : allHex (shaHex l) = true := allHex_enc _
def pubN : ByteArray := { data := #[112, 117, 98, 108, 105, 99] }
def schN : ByteArray := { data := #[115, 99, 104, 101, 109, 101] }
def keyJ (s t : ByteArray) : JV := .mk 5 0 { data := #[] } [pubN, schN] [txtJ t, txtJ s]
theorem key_parts {s t : List UInt8} (h : keyOk s t = true) : roleOk s = true ∧ pubOk t = true := by
 unfold keyOk at h; simpa using h
theorem key_txt {s t : ByteArray} (h : keyOk s.data.toList t.data.toList = true) : txtOk s = true ∧ txtOk t = true ∧ s.size ≤ 64 ∧ t.size ≤ 128 := by
 obtain ⟨h1, h2⟩ := key_parts h
 have h3 := role_plain h1
 have h4 := pub_plain h2
 rw [toList_length] at h3 h4
 exact ⟨txtOk_plain h3.1 (by omega), txtOk_plain h4.1 (by omega), h3.2.2, h4.2.2⟩
theorem names_ok : txtOk pubN = true ∧ txtOk schN = true ∧ rises [pubN, schN] = true := by
 refine ⟨txtOk_plain ?_ (by decide), txtOk_plain ?_ (by decide), ?_⟩
 · intro c hc; unfold plainC; revert c; decide
 · intro c hc; unfold plainC; revert c; decide
 · unfold rises rises; rw [ByteArray.toList_eq, ByteArray.toList_eq]; decide
theorem txtJ_may (t : ByteArray) (h : txtOk t = true) (d : Nat) (l : Int) (hl : 1 ≤ l) : (txtJ t).may d l = (true, l - 1) := by
 unfold txtJ
 rw [JV.may, if_neg (by omega)]
 have : properB 3 0 t [] 0 = true := by unfold properB; simp [h]
 rw [show ([] : List JV).length = 0 from rfl, this]
 simp
theorem keyJ_may {s t : ByteArray} (h : keyOk s.data.toList t.data.toList = true) : (keyJ s t).mayB = true := by
 obtain ⟨h1, h2, _, _⟩ := key_txt h
 obtain ⟨n1, n2, n3⟩ := names_ok
 unfold JV.mayB keyJ
 have hp : properB 5 0 { data := #[] } [pubN, schN] 2 = true := by
   unfold properB
   rw [ByteArray.toList_eq]
   simp [n1, n2, n3]
 have hm : JV.mays [txtJ t, txtJ s] (12 - 1) (8192 - 1) = (true, 8192 - 1 - 1 - 1) := by
   rw [JV.mays, txtJ_may t h2 _ _ (by omega), if_pos rfl, JV.mays, txtJ_may s h1 _ _ (by omega), if_pos rfl, JV.mays]
 rw [JV.may, if_neg (by omega), show ([txtJ t, txtJ s] : List JV).length = 2 from rfl, hp, if_neg (by decide), if_neg (by decide), if_neg (by decide), hm]
theorem keyJ_wt {s t : ByteArray} (hs : s.size ≤ 4294967) (ht : t.size ≤ 4294967) : (keyJ s t).wt ≤ 4294967296 := by
 unfold keyJ txtJ
 have e1 : pubN.size = 6 := rfl
 have e2 : schN.size = 6 := rfl
 have e3 : ({ data := #[] } : ByteArray).size = 0 := rfl
 simp only [JV.wt, JV.wts, bytesSum]
 omega
def keyF1 : List UInt8 := [123, 34, 112, 117, 98, 108, 105, 99, 34, 58, 34]
def keyF2 : List UInt8 := [34, 44, 34, 115, 99, 104, 101, 109, 101, 34, 58, 34]
def keyForm (s t : List UInt8) : List UInt8 := keyF1 ++ (t ++ (keyF2 ++ (s ++ [34, 125])))
theorem keyForm_len (s t : List UInt8) : (keyForm s t).length = s.length + t.length + 25 := by simp [keyForm, keyF1, keyF2]; omega
def keyId (s t : List UInt8) : List UInt8 := if keyOk s t then shaHex (keyForm s t) else []
def keyOfJ (v : JV) : (ByteArray × ByteArray) × Int :=
 if v.mayB = false then (({ data := #[] }, { data := #[] }), 3) else if v.kind ≠ 5 then (({ data := #[] }, { data := #[] }), 10) else
   if pickDone v (pickText v schN (pickText v pubN ⟨[], 0⟩).2).2 ≠ 0 then (({ data := #[] }, { data := #[] }), pickDone v (pickText v schN (pickText v pubN ⟨[], 0⟩).2).2) else
   if keyOk (pickText v schN (pickText v pubN ⟨[], 0⟩).2).1.data.toList (pickText v pubN ⟨[], 0⟩).1.data.toList then (((pickText v schN (pickText v pubN ⟨[], 0⟩).2).1, (pickText v pubN ⟨[], 0⟩).1), 0) else (({ data := #[] }, { data := #[] }), 3)
theorem pub_ne : pubN ≠ schN := by decide
theorem look_pub (s t : ByteArray) : (keyJ s t).look pubN = some (txtJ t) := by
 unfold JV.look keyJ JV.names JV.items; simp [lookL]
theorem look_sch (s t : ByteArray) : (keyJ s t).look schN = some (txtJ s) := by
 unfold JV.look keyJ JV.names JV.items; simp [lookL, pub_ne]
theorem keyOf_keyJ {s t : ByteArray} (h : keyOk s.data.toList t.data.toList = true) : keyOfJ (keyJ s t) = ((s, t), 0) := by
 have h1 : pickText (keyJ s t) pubN ⟨[], 0⟩ = (t, ⟨[pubN], 0⟩) := by unfold pickText; rw [if_neg (by simp), look_pub]; rfl
 have h2 : pickText (keyJ s t) schN ⟨[pubN], 0⟩ = (s, ⟨[schN, pubN], 0⟩) := by unfold pickText; rw [if_neg (by simp), look_sch]; rfl
 have h3 : pickDone (keyJ s t) ⟨[schN, pubN], 0⟩ = 0 := by
   unfold pickDone; rw [if_neg (by simp)]
   have : (keyJ s t).names = [pubN, schN] := rfl
   rw [this]; simp
 unfold keyOfJ
 rw [if_neg (by rw [keyJ_may h]; simp), if_neg (by show ¬ (5 : Int) ≠ 5; simp), h1]
 simp only
 rw [h2]
 simp only
 rw [h3, if_neg (by simp), if_pos h]
def idOf (s t : ByteArray) : ByteArray := ⟨(keyId s.data.toList t.data.toList).toArray⟩
def ok2 (k : Key2) : Bool := keyOk k.1.data.toList k.2.data.toList
def id2 (k : Key2) : ByteArray := idOf k.1 k.2
def ids (l : List Key2) : List ByteArray := l.map id2
def obj2 (k : Key2) : JV := keyJ k.1 k.2
def tabJ (m : List Key2) : JV := .mk 5 0 { data := #[] } (m.map id2) (m.map obj2)
theorem rises_nodup {l : List ByteArray} (h : rises l = true) : l.Nodup := by
 rw [List.Nodup, List.pairwise_iff_getElem]
 intro i j hi hj hij e
 have := rises_lt h i j hi hj hij
 rw [e, bl_irrefl] at this; cases this
theorem id2_size {k : Key2} : (id2 k).size ≤ 64 := by
 show (keyId _ _).toArray.size ≤ 64
 unfold keyId
 split
 · rw [List.size_toArray, shaHex_length]; exact Nat.le_refl _
 · simp
theorem obj2_wt {k : Key2} (h : k.1.size ≤ 300 ∧ k.2.size ≤ 300) : (obj2 k).wt ≤ 1000 := by
 unfold obj2 keyJ txtJ
 have e1 : pubN.size = 6 := rfl
 have e2 : schN.size = 6 := rfl
 have e3 : ({ data := #[] } : ByteArray).size = 0 := rfl
 simp only [JV.wt, JV.wts, bytesSum]
 omega
theorem tabJ_wt {m : List Key2} (hs : ∀ k ∈ m, k.1.size ≤ 300 ∧ k.2.size ≤ 300) : (tabJ m).wt ≤ 1 + 1100 * m.length := by
 have h1 : ∀ m : List Key2, bytesSum (m.map id2) ≤ 65 * m.length := fun m => by
   induction m with
   | nil => simp [bytesSum]
   | cons k r ih => have := @id2_size k; simp only [List.map_cons, bytesSum, List.length_cons]; omega
 have h2 : ∀ m : List Key2, (∀ k ∈ m, k.1.size ≤ 300 ∧ k.2.size ≤ 300) → JV.wts (m.map obj2) ≤ 1000 * m.length := fun m => by
   induction m with
   | nil => intro _; simp [JV.wts]
   | cons k r ih => intro hs; have := obj2_wt (hs k (by simp)); have := ih (fun k hk => hs k (List.mem_cons_of_mem _ hk)); simp only [List.map_cons, JV.wts, List.length_cons]; omega
 have e3 : ({ data := #[] } : ByteArray).size = 0 := rfl
 have := h1 m
 have := h2 m hs
 unfold tabJ
 simp only [JV.wt]
 omega
theorem keyOfJ_ok {v : JV} (h : (keyOfJ v).2 = 0) : keyOk (keyOfJ v).1.1.data.toList (keyOfJ v).1.2.data.toList = true ∧ (keyOfJ v).1.1.size ≤ 64 ∧ (keyOfJ v).1.2.size ≤ 128 := by
 have h2 : keyOk (keyOfJ v).1.1.data.toList (keyOfJ v).1.2.data.toList = true := by
   unfold keyOfJ at h ⊢
   split at h
   · cases h
   next c1 =>
   rw [if_neg c1]
   split at h
   · cases h
   next c2 =>
   rw [if_neg c2]
   split at h
   · next c3 => exact absurd h c3
   next c3 =>
   rw [if_neg c3]
   split at h
   · next c4 => rw [if_pos c4]; exact c4
   · cases h
 obtain ⟨_, _, a, b⟩ := key_txt h2
 exact ⟨h2, a, b⟩
def keysL : List ByteArray → List JV → List Key2 → List Key2 × Int
 | id :: ns, it :: its, acc => if (keyOfJ it).2 ≠ 0 then ([], (keyOfJ it).2) else if (idOf (keyOfJ it).1.1 (keyOfJ it).1.2).toList == id.toList then keysL ns its (acc ++ [(keyOfJ it).1]) else ([], 3)
 | _, _, acc => (acc, 0)
def stepL (r : Key2 × Int) (id : ByteArray) (ns : List ByteArray) (its : List JV) (acc : List Key2) : List Key2 × Int :=
 if r.2 ≠ 0 then ([], r.2) else if (idOf r.1.1 r.1.2).toList == id.toList then keysL ns its (acc ++ [r.1]) else ([], 3)
theorem keysL_nil (its : List JV) (acc : List Key2) : keysL [] its acc = (acc, 0) := by
 unfold keysL; rfl
theorem keysL_step (ns : List ByteArray) (its : List JV) (k : Nat) (acc : List Key2) (h : k < ns.length) (h' : k < its.length) : keysL (ns.drop k) (its.drop k) acc = stepL (keyOfJ its[k]) ns[k] (ns.drop (k + 1)) (its.drop (k + 1)) acc := by
 rw [List.drop_eq_getElem_cons h, List.drop_eq_getElem_cons h', keysL, stepL]
def keysJ (v : JV) : List Key2 × Int := if v.mayB = false then ([], 3) else if v.kind ≠ 5 then ([], 10) else if 32 < v.names.length then ([], 5) else keysL v.names v.items []
theorem ba_nil {t : ByteArray} (h : t.toList = []) : t = { data := #[] } := ba_ext (by rw [h, ByteArray.toList_eq])
theorem proper5 {n : Int} {t : ByteArray} {ns : List ByteArray} {li : Nat} (h : properB 5 n t ns li = true) : n = 0 ∧ t = { data := #[] } ∧ ns.length = li ∧ rises ns = true ∧ ns.all txtOk = true := by
 have e : properB 5 n t ns li = (decide (n = 0 ∧ t.toList = [] ∧ ns.length = li) && rises ns && ns.all txtOk) := rfl
 rw [e] at h
 simp only [Bool.and_eq_true, decide_eq_true_eq] at h
 exact ⟨h.1.1.1, ba_nil h.1.1.2.1, h.1.1.2.2, h.1.2, h.2⟩
theorem partsB_mem : ∀ {l : List JV}, JV.partsB l = true → ∀ x ∈ l, JV.partB x = true
 | [], _, x, hx => by simp at hx
 | y :: r, h, x, hx => by
   rw [JV.partsB, Bool.and_eq_true] at h
   rcases List.mem_cons.1 hx with rfl | hx
   · exact h.1
   · exact partsB_mem h.2 x hx
theorem may_part {v : JV} (h : v.mayB = true) : v.partB = true := by
 rw [JV.mayB_iff] at h
 simp only [Bool.and_eq_true] at h
 exact h.1.1
theorem names_two {ns : List ByteArray} (hr : rises ns = true) (hp : pubN ∈ ns) (hs : schN ∈ ns) (ho : ∀ n ∈ ns, n = pubN ∨ n = schN) : ns = [pubN, schN] := by
 have hlt : bl schN pubN = false := by
   have := names_ok.2.2
   unfold rises at this
   rw [Bool.and_eq_true] at this
   exact bl_asymm this.1
 have hnd := rises_nodup hr
 match ns, hr, hp, hs, ho, hnd with
 | [], _, hp, _, _, _ => simp at hp
 | [a], _, hp, hs, _, _ =>
   simp at hp hs
   exact absurd (hp.trans hs.symm) pub_ne
 | [a, b], hr, hp, hs, ho, hnd =>
   rcases ho a (by simp) with rfl | rfl <;> rcases ho b (by simp) with rfl | rfl
   · simp at hnd
   · rfl
   · unfold rises at hr
     rw [Bool.and_eq_true] at hr
     have := hr.1
     rw [show Op.bytesLess schN.toList pubN.toList = bl schN pubN from rfl, hlt] at this
     cases this
   · simp at hnd
 | a :: b :: c :: r, _, _, _, ho, hnd =>
   rcases ho a (by simp) with rfl | rfl <;> rcases ho b (by simp) with rfl | rfl <;> rcases ho c (by simp) with rfl | rfl <;> simp at hnd
theorem keyOf_back {v : JV} (h : (keyOfJ v).2 = 0) : v.mayB = true ∧ v = keyJ (keyOfJ v).1.1 (keyOfJ v).1.2 := by
 unfold keyOfJ at h ⊢
 split at h
 · cases h
 next c1 =>
 rw [if_neg c1]
 split at h
 · cases h
 next c2 =>
 rw [if_neg c2]
 split at h
 · next c3 => exact absurd h c3
 next c3 =>
 rw [if_neg c3]
 split at h
 case isFalse => cases h
 next c4 =>
 rw [if_pos c4]
 have hm : v.mayB = true := by simpa using c1
 have hk : v.kind = 5 := by simpa using c2
 refine ⟨hm, ?_⟩
 have hpt := may_part hm
 replace c3 : pickDone v (pickText v schN (pickText v pubN ⟨[], 0⟩).2).2 = 0 := by simpa using c3
 clear c4 c1 c2
 cases h1 : v.look pubN with
 | none =>
   have e1 : pickText v pubN ⟨[], 0⟩ = ({ data := #[] }, ⟨[], 6⟩) := by unfold pickText; rw [if_neg (by simp), h1]
   have e2 : pickText v schN ⟨[], 6⟩ = ({ data := #[] }, ⟨[], 6⟩) := by unfold pickText; rw [if_pos (by simp)]
   rw [e1] at c3; simp only at c3; rw [e2] at c3; unfold pickDone at c3; rw [if_pos (by simp)] at c3; cases c3
 | some a =>
   by_cases ka : a.kind = 3
   case neg =>
     have e1 : pickText v pubN ⟨[], 0⟩ = ({ data := #[] }, ⟨[], 10⟩) := by unfold pickText; rw [if_neg (by simp), h1]; simp only; rw [if_neg ka]
     have e2 : pickText v schN ⟨[], 10⟩ = ({ data := #[] }, ⟨[], 10⟩) := by unfold pickText; rw [if_pos (by simp)]
     rw [e1] at c3; simp only at c3; rw [e2] at c3; unfold pickDone at c3; rw [if_pos (by simp)] at c3; cases c3
   have e1 : pickText v pubN ⟨[], 0⟩ = (a.t, ⟨[pubN], 0⟩) := by unfold pickText; rw [if_neg (by simp), h1]; simp only; rw [if_pos ka]
   rw [e1] at c3 ⊢
   simp only at c3 ⊢
   cases h2 : v.look schN with
   | none =>
     have e2 : pickText v schN ⟨[pubN], 0⟩ = ({ data := #[] }, ⟨[pubN], 6⟩) := by unfold pickText; rw [if_neg (by simp), h2]
     rw [e2] at c3; unfold pickDone at c3; rw [if_pos (by simp)] at c3; cases c3
   | some b =>
     by_cases kb : b.kind = 3
     case neg =>
       have e2 : pickText v schN ⟨[pubN], 0⟩ = ({ data := #[] }, ⟨[pubN], 10⟩) := by unfold pickText; rw [if_neg (by simp), h2]; simp only; rw [if_neg kb]
       rw [e2] at c3; unfold pickDone at c3; rw [if_pos (by simp)] at c3; cases c3
     have e2 : pickText v schN ⟨[pubN], 0⟩ = (b.t, ⟨[schN, pubN], 0⟩) := by unfold pickText; rw [if_neg (by simp), h2]; simp only; rw [if_pos kb]
     rw [e2] at c3 ⊢
     simp only at c3 ⊢
     unfold pickDone at c3
     rw [if_neg (by simp)] at c3
     have hall : v.names.all (fun n => [schN, pubN].any fun a => decide (a = n)) = true := by
       split at c3
       · assumption
       · cases c3
     obtain ⟨k, n, t, ns, xs⟩ := v
     obtain rfl : k = 5 := hk
     rw [JV.partB, Bool.and_eq_true] at hpt
     obtain ⟨rfl, rfl, hlen, hris, _⟩ := proper5 hpt.1
     have hal2 : ∀ x ∈ ns, x = pubN ∨ x = schN := fun x hx => by
       have := List.all_eq_true.1 hall x hx
       simp at this
       rcases this with e | e
       · exact .inr e.symm
       · exact .inl e.symm
     obtain rfl := names_two hris (lookL_mem h1).1 (lookL_mem h2).1 hal2
     match xs, hlen with
     | [p, q], _ =>
       have w1 : lookL [pubN, schN] [p, q] pubN = some p := by simp [lookL]
       have w2 : lookL [pubN, schN] [p, q] schN = some q := by simp [lookL, pub_ne]
       obtain rfl : p = a := Option.some.inj (w1.symm.trans h1)
       obtain rfl : q = b := Option.some.inj (w2.symm.trans h2)
       have p1 := part_txt (partsB_mem hpt.2 p (by simp)) ka
       have p2 := part_txt (partsB_mem hpt.2 q (by simp)) kb
       unfold keyJ
       rw [← p1, ← p2]
theorem txt_id {k : Key2} (h : ok2 k = true) : txtOk (id2 k) = true := by
 have e : (id2 k).data.toList = shaHex (keyForm k.1.data.toList k.2.data.toList) := by
   show (keyId _ _) = _
   unfold keyId
   rw [if_pos (show keyOk k.1.data.toList k.2.data.toList = true from h)]
 refine txtOk_plain ?_ (Nat.le_trans id2_size (by decide))
 rw [e]
 have := allHex_sha (keyForm k.1.data.toList k.2.data.toList)
 unfold allHex at this
 exact fun c hc => plain_hex (List.all_eq_true.1 this c hc)
theorem tabJ_may {m : List Key2} (hok : ∀ k ∈ m, ok2 k = true) (hr : rises (ids m) = true) (hl : m.length ≤ 32) : (tabJ m).mayB = true := by
 rw [JV.mayB_iff]
 have hp : ∀ m : List Key2, (∀ k ∈ m, ok2 k = true) → JV.partsB (m.map obj2) = true := fun m => by
   induction m with
   | nil => intro _; rfl
   | cons k r ih =>
     intro h
     rw [List.map_cons, JV.partsB, Bool.and_eq_true]
     exact ⟨may_part (keyJ_may (h k (by simp))), ih fun x hx => h x (List.mem_cons_of_mem _ hx)⟩
 have hc : ∀ m : List Key2, JV.counts (m.map obj2) = 3 * m.length := fun m => by
   induction m with
   | nil => rfl
   | cons k r ih =>
     have : JV.count (obj2 k) = 3 := rfl
     rw [List.map_cons, JV.counts, ih, this, List.length_cons]; omega
 have hd : ∀ m : List Key2, JV.depths (m.map obj2) ≤ 1 := fun m => by
   induction m with
   | nil => exact Nat.zero_le _
   | cons k r ih =>
     have : JV.depth (obj2 k) = 1 := rfl
     rw [List.map_cons, JV.depths, this]; omega
 have h1 : (tabJ m).partB = true := by
   unfold tabJ
   rw [JV.partB, hp m hok]
   have : properB 5 0 { data := #[] } (m.map id2) (m.map obj2).length = (decide ((0 : Int) = 0 ∧ ({ data := #[] } : ByteArray).toList = [] ∧ (m.map id2).length = (m.map obj2).length) && rises (m.map id2) && (m.map id2).all txtOk) := rfl
   rw [this, show rises (m.map id2) = true from hr, ByteArray.toList_eq]
   have h2 : (m.map id2).all txtOk = true := by
     rw [List.all_eq_true]
     intro x hx
     obtain ⟨k, hk, rfl⟩ := List.mem_map.1 hx
     exact txt_id (hok k hk)
   rw [h2]
   simp
 have h2 : (tabJ m).count ≤ 8192 := by unfold tabJ; rw [JV.count, hc]; omega
 have h3 : (tabJ m).depth ≤ 12 := by
   unfold tabJ; rw [JV.depth, if_neg (by simp)]; have := hd m; omega
 rw [h1]
 simp [h2, h3]
theorem keysL_tab : ∀ (m : List Key2) (acc : List Key2), (∀ k ∈ m, ok2 k = true) → keysL (m.map id2) (m.map obj2) acc = (acc ++ m, 0)
 | [], acc, _ => by simp [keysL]
 | k :: r, acc, h => by
   have e := keyOf_keyJ (s := k.1) (t := k.2) (h k (by simp))
   rw [List.map_cons, List.map_cons, keysL, show obj2 k = keyJ k.1 k.2 from rfl, e]
   simp only
   rw [if_neg (by simp), if_pos (by simp [id2]), keysL_tab r _ fun x hx => h x (List.mem_cons_of_mem _ hx)]
   simp
theorem keysJ_tab {m : List Key2} (hok : ∀ k ∈ m, ok2 k = true) (hr : rises (ids m) = true) (hl : m.length ≤ 32) : keysJ (tabJ m) = (m, 0) := by
 unfold keysJ
 rw [if_neg (by rw [tabJ_may hok hr hl]; simp), if_neg (by show ¬ (5 : Int) ≠ 5; simp), if_neg (by show ¬ 32 < (m.map id2).length; simp; omega)]
 show keysL (m.map id2) (m.map obj2) [] = _
 rw [keysL_tab m [] hok, List.nil_append]
theorem keysL_back : ∀ (ns : List ByteArray) (its : List JV) (acc : List Key2), ns.length = its.length → (keysL ns its acc).2 = 0 → ∃ m : List Key2, (keysL ns its acc).1 = acc ++ m ∧ ns = m.map id2 ∧ its = m.map obj2 ∧ ∀ k ∈ m, ok2 k = true
 | [], [], acc, _, _ => ⟨[], by simp [keysL]⟩
 | id :: ns, it :: its, acc, hl, h => by
   rw [keysL] at h ⊢
   split at h
   · next c => exact absurd h c
   next c =>
   rw [if_neg c]
   split at h
   case isFalse => cases h
   next c2 =>
   rw [if_pos c2]
   obtain ⟨m, e1, e2, e3, e4⟩ := keysL_back ns its _ (by simpa using hl) h
   have c' : (keyOfJ it).2 = 0 := by simpa using c
   obtain ⟨_, hb⟩ := keyOf_back c'
   obtain ⟨hok, _, _⟩ := keyOfJ_ok c'
   refine ⟨(keyOfJ it).1 :: m, by rw [e1]; simp, ?_, ?_, ?_⟩
   · rw [List.map_cons, ← e2]
     congr 1
     exact (ba_ext (eq_of_beq c2)).symm
   · rw [List.map_cons, ← e3]
     congr 1
   · intro k hk
     rcases List.mem_cons.1 hk with rfl | hk
     · exact hok
     · exact e4 k hk
theorem keysJ_back {v : JV} (h : (keysJ v).2 = 0) : v = tabJ (keysJ v).1 ∧ (∀ k ∈ (keysJ v).1, ok2 k = true) ∧ rises (ids (keysJ v).1) = true ∧ (keysJ v).1.length ≤ 32 := by
 unfold keysJ at h ⊢
 split at h
 · cases h
 next c1 =>
 rw [if_neg c1]
 split at h
 · cases h
 next c2 =>
 rw [if_neg c2]
 split at h
 · cases h
 next c3 =>
 rw [if_neg c3]
 have hm : v.mayB = true := by simpa using c1
 have hk : v.kind = 5 := by simpa using c2
 have hpt := may_part hm
 obtain ⟨k, n, t, ns, xs⟩ := v
 obtain rfl : k = 5 := hk
 rw [JV.partB, Bool.and_eq_true] at hpt
 obtain ⟨rfl, rfl, hlen, hris, _⟩ := proper5 hpt.1
 obtain ⟨m, e1, e2, e3, e4⟩ := keysL_back ns xs [] hlen h
 have e1' : (keysL (JV.names (.mk 5 0 { data := #[] } ns xs)) (JV.items (.mk 5 0 { data := #[] } ns xs)) []).1 = m := by
   show (keysL ns xs []).1 = m
   rw [e1, List.nil_append]
 rw [e1']
 refine ⟨by unfold tabJ; rw [← e2, ← e3], e4, by unfold ids; rw [← e2]; exact hris, ?_⟩
 have : ns.length = m.length := by rw [e2, List.length_map]
 have c3' : ¬ 32 < ns.length := c3
 omega
theorem ok2_size {k : Key2} (h : ok2 k = true) : k.1.size ≤ 300 ∧ k.2.size ≤ 300 := by
 obtain ⟨_, _, a, b⟩ := key_txt h
 omega
end Go.Proofs.YtnlgmcapbbgelaaGreatDoor

namespace Go.Proofs.YtnlgmcapbbgelaaGreatDoor
open Go.RowKit Go.Shelf Go.Sort
theorem objTwo (t s : ByteArray) (w : World) (T : Nat) (ht : t.size ≤ 4294967000) (hs : s.size ≤ 4294967000) :
   Calls Tryz.prog 62 #[.slice (some ⟨w.heap.size, 0, none⟩) 2 2] (w.alloc (.cells #[.string { data := #[112, 117, 98, 108, 105, 99] }, .int .u8 3, .int .i64 0, .string t, .slice none 0 0, .slice none 0 0, .string { data := #[115, 99, 104, 101, 109, 101] }, .int .u8 3, .int .i64 0, .string s, .slice none 0 0, .slice none 0 0] T))
     (ObjPost [pubN, schN] [txtJ t, txtJ s] (w.alloc (.cells #[.string { data := #[112, 117, 98, 108, 105, 99] }, .int .u8 3, .int .i64 0, .string t, .slice none 0 0, .slice none 0 0, .string { data := #[115, 99, 104, 101, 109, 101] }, .int .u8 3, .int .i64 0, .string s, .slice none 0 0, .slice none 0 0] T))) := by
 have := pickObjectOf #[memT pubN t, memT schN s] #[memT pubN t, memT schN s] [txtJ t, txtJ s] w.heap.size 0 2 (w.alloc (.cells #[.string { data := #[112, 117, 98, 108, 105, 99] }, .int .u8 3, .int .i64 0, .string t, .slice none 0 0, .slice none 0 0, .string { data := #[115, 99, 104, 101, 109, 101] }, .int .u8 3, .int .i64 0, .string s, .slice none 0 0, .slice none 0 0] T)) 0 0 ?_ (by simp) (by simp) ?_ rfl ?_ ?_ (by simp)
 · exact this
 · exact holds_heap (T := T) (by rw [heap_alloc_new, flat_two]; rfl)
 · refine ins_sorted _ _ _ fun j hj => ?_
   obtain rfl : j = 0 := by simp at hj; omega
   show ltOf cfM (memT schN s) (memT pubN t) = false
   show decide (Lib.compareBytes schN.data.toList pubN.data.toList < 0) = false
   decide
 · intro i hi
   match i, hi with
   | 0, _ => exact ⟨rep_txt _ _ _ _, by simp [txtJ, JV.wt, JV.wts, bytesSum]; omega, fun k h => by simp [txtJ, JV.items] at h⟩
   | 1, _ => exact ⟨rep_txt _ _ _ _, by simp [txtJ, JV.wt, JV.wts, bytesSum]; omega, fun k h => by simp [txtJ, JV.items] at h⟩
 · intro i hi
   obtain rfl : i = 0 := by simp at hi; omega
   show pubN ≠ schN
   decide
def KeyValPost (s t : ByteArray) (w : World) (e : Ending) (w' : World) : Prop :=
 ∃ an cn ai ci, e = .returned (.tuple #[.agg #[.int .u8 5, .int .i64 0, .string { data := #[] }, .slice an 2 cn, .slice ai 2 ci], .int .i64 0]) ∧
   Rep w' w.heap.size w'.heap.size (keyJ s t) (.agg #[.int .u8 5, .int .i64 0, .string { data := #[] }, .slice an 2 cn, .slice ai 2 ci]) ∧ Below w.heap.size w w'
set_option maxHeartbeats 400000 in
set_option maxRecDepth 100000 in
theorem keyValue_no (s t : ByteArray) (w : World) (hs : s.size ≤ 4294967000) (ht : t.size ≤ 4294967000) (hk : keyOk s.data.toList t.data.toList = false) :
   Calls Tryz.prog 17 #[.agg #[.string s, .string t]] w fun e w' => e = .returned (.tuple #[zeroAgg, .int .i64 3]) ∧ Below w.heap.size w w' := by
 have HM := Lib.hid (keyMay s t ((w.alloc (.cells #[.string s, .string t] 38)).alloc (.cells #[.int .u8 0, .int .i64 0, .string { data := #[] }, .slice none 0 0, .slice none 0 0] 25)) (by omega) (by omega))
 rw [hk] at HM
 have hr0 := rowIs_box5 (w.alloc (.cells #[.string s, .string t] 38)) (.int .u8 0) (.int .i64 0) (.string { data := #[] }) (.slice none 0 0) (.slice none 0 0) 25
 rw [show (w.alloc (.cells #[.string s, .string t] 38)).heap.size = w.heap.size + 1 by simp] at hr0
 have HR0 := Lib.hid hr0
 have HB0 := Lib.hid (show Below w.heap.size w ((w.alloc (.cells #[.string s, .string t] 38)).alloc (.cells #[.int .u8 0, .int .i64 0, .string { data := #[] }, .slice none 0 0, .slice none 0 0] 25)) from ((Below.refl _ _).alloc (Nat.le_refl _) _).alloc (by simp) _)
 clear hk hr0
 go_enter Tryz.func17, Tryz.ntmps17
 go_wp2_with fail
 refine HM.out.mono ?_
 rintro e w1 ⟨rfl, hb1⟩
 have hres := below_row hb1 HR0.out (by simp)
 have HRS := Lib.hid hres
 have HB1 := Lib.hid (HB0.out.trans (hb1.mono (by simp; omega)))
 have t0 := hres.cell (i := 0) (by decide); have t1 := hres.cell (i := 1) (by decide); have t2 := hres.cell (i := 2) (by decide); have t3 := hres.cell (i := 3) (by decide); have t4 := hres.cell (i := 4) (by decide)
 have s0 := hres.frozen 0; have s1 := hres.frozen 1; have s2 := hres.frozen 2; have s3 := hres.frozen 3; have s4 := hres.frozen 4
 simp only [pick5] at t0 t1 t2 t3 t4
 clear hres hb1
 go_wp2
 exact bodyPost_ret (results_row_tmp Tryz.results17 _ _ (w.heap.size + 1) 25 _ (0, 0) _ rfl (row5_heap (set5 _ _ _ _ _ HRS.out)) Tryz.underlying25 rfl (by kernel_rfl) _ rfl) rfl ⟨rfl, below5 _ _ _ _ _ HB1.out (by omega)⟩
set_option maxHeartbeats 1000000 in
set_option maxRecDepth 100000 in
theorem keyValue_yes (s t : ByteArray) (w : World) (hs : s.size ≤ 4294967000) (ht : t.size ≤ 4294967000) (hk : keyOk s.data.toList t.data.toList = true) :
   Calls Tryz.prog 17 #[.agg #[.string s, .string t]] w (KeyValPost s t w) := by
 have HM := Lib.hid (keyMay s t ((w.alloc (.cells #[.string s, .string t] 38)).alloc (.cells #[.int .u8 0, .int .i64 0, .string { data := #[] }, .slice none 0 0, .slice none 0 0] 25)) (by omega) (by omega))
 rw [hk] at HM
 have hr0 := rowIs_box5 (w.alloc (.cells #[.string s, .string t] 38)) (.int .u8 0) (.int .i64 0) (.string { data := #[] }) (.slice none 0 0) (.slice none 0 0) 25
 rw [show (w.alloc (.cells #[.string s, .string t] 38)).heap.size = w.heap.size + 1 by simp] at hr0
 have HR0 := Lib.hid hr0
 have HB0 := Lib.hid (show Below w.heap.size w ((w.alloc (.cells #[.string s, .string t] 38)).alloc (.cells #[.int .u8 0, .int .i64 0, .string { data := #[] }, .slice none 0 0, .slice none 0 0] 25)) from ((Below.refl _ _).alloc (Nat.le_refl _) _).alloc (by simp) _)
 have HX0 := Lib.hid (show ((w.alloc (.cells #[.string s, .string t] 38)).alloc (.cells #[.int .u8 0, .int .i64 0, .string { data := #[] }, .slice none 0 0, .slice none 0 0] 25)).heap[w.heap.size]? = some (.cells #[.string s, .string t] 38 (0, 0)) by rw [Below.heap_alloc _ _ _ (by simp)]; exact heap_alloc_new w _)
 clear hk hr0
 go_enter Tryz.func17, Tryz.ntmps17
 go_wp2_with fail
 refine HM.out.mono ?_
 clear HM
 rintro e w1 ⟨rfl, hb1⟩
 have HRS := Lib.hid (below_row hb1 HR0.out (by simp))
 have hz1 : w.heap.size + 2 ≤ w1.heap.size := by have := hb1.size; simp at this; omega
 have hx1 : w1.heap[w.heap.size]? = some (.cells #[.string s, .string t] 38 (0, 0)) := by rw [hb1.block _ (by simp; omega)]; exact HX0.out
 have HX1 := Lib.hid hx1
 have HB1 := Lib.hid (HB0.out.trans (hb1.mono (by simp; omega)))
 clear hb1 hx1 HX0 HB0 HR0
 have HC := Lib.hid (show ∀ w' : World, Below w1.heap.size w1 w' → w'.cell? ⟨w.heap.size, 0, none⟩ = some (.string s) ∧ w'.cell? ⟨w.heap.size, 1, none⟩ = some (.string t) ∧ w.heap.size < w'.heap.size from fun w' h => by
   have := h.size
   exact ⟨by rw [h.cell (by show w.heap.size < _; omega)]; simp [World.cell?, HX1.out], by rw [h.cell (by show w.heap.size < _; omega)]; simp [World.cell?, HX1.out], by omega⟩)
 have HT := Lib.hid (show ∀ (u : ByteArray) (w' : World), Below w1.heap.size w1 w' → Calls Tryz.prog 65 #[.string u] w' (fun e w'' => e = .returned (.agg #[.int .u8 3, .int .i64 0, .string u, .slice none 0 0, .slice none 0 0]) ∧ Below w1.heap.size w1 w'' ∧ w''.cell? ⟨w.heap.size, 0, none⟩ = some (.string s) ∧ w''.cell? ⟨w.heap.size, 1, none⟩ = some (.string t) ∧ w.heap.size < w''.heap.size) from fun u w' h => by
   refine (pickTextOf u w').mono ?_
   rintro e w'' ⟨rfl, rfl⟩
   have hb : Below w1.heap.size w1 (w'.alloc (.cells #[.int .u8 3, .int .i64 0, .string u, .slice none 0 0, .slice none 0 0] 25)) := h.alloc h.size _
   exact ⟨rfl, hb, HC.out _ hb⟩)
 have HO := Lib.hid (show ∀ (w' : World), Below w1.heap.size w1 w' → Calls Tryz.prog 62 #[.slice (some ⟨w'.heap.size, 0, none⟩) 2 2] (w'.alloc (.cells #[.string { data := #[112, 117, 98, 108, 105, 99] }, .int .u8 3, .int .i64 0, .string t, .slice none 0 0, .slice none 0 0, .string { data := #[115, 99, 104, 101, 109, 101] }, .int .u8 3, .int .i64 0, .string s, .slice none 0 0, .slice none 0 0] 98)) (fun e w'' => ∃ an cn ai ci, e = .returned (.tuple #[.agg #[.int .u8 5, .int .i64 0, .string { data := #[] }, .slice an 2 cn, .slice ai 2 ci], .int .i64 0]) ∧ Rep w'' w1.heap.size w''.heap.size (keyJ s t) (.agg #[.int .u8 5, .int .i64 0, .string { data := #[] }, .slice an 2 cn, .slice ai 2 ci]) ∧ Below w1.heap.size w1 w'' ∧ w''.cell? ⟨w.heap.size, 0, none⟩ = some (.string s) ∧ w''.cell? ⟨w.heap.size, 1, none⟩ = some (.string t) ∧ w''.rowIs (w.heap.size + 1) 25 5 (pick5 (.int .u8 0) (.int .i64 0) (.string { data := #[] }) (.slice none 0 0) (.slice none 0 0))) from fun w' h => by
   refine (objTwo t s w' _ ht hs).mono ?_
   rintro e w'' ⟨an, cn, ai, ci, rfl, hr, hb⟩
   have hb2 : Below w1.heap.size w1 w'' := (h.alloc h.size _).trans (hb.mono (by have := h.size; simp; omega))
   have hc := HC.out _ hb2
   exact ⟨an, cn, ai, ci, rfl, Rep.carry (by have := h.size; simp; omega) (Nat.le_refl _) (fun _ _ _ => rfl) _ _ hr, hb2, hc.1, hc.2.1, below_row hb2 HRS.out (by omega)⟩)
 have hbz : Below w1.heap.size w1 w1.drew := (Below.refl _ _).drew
 obtain ⟨q0, q1, hzq⟩ := HC.out w1 (Below.refl _ _)
 go_wp2_with fail
 go_region_held3 (fun w' => w'.cell? ⟨w.heap.size, 0, none⟩ = some (.string s) ∧ w'.cell? ⟨w.heap.size, 1, none⟩ = some (.string t)) (first | (with_reducible exact ⟨q0, q1⟩) | (with_reducible exact ⟨(cell_alloc_lt _ hzq).trans q0, (cell_alloc_lt _ hzq).trans q1⟩) | (go_keep; done)) (first | (go_at_call 65; (with_reducible refine (HT.out _ _ hbz).mono ?_); rintro e w2 ⟨rfl, hbz, q0, q1, hzq⟩) | (go_at_call 62; (with_reducible refine (HO.out _ hbz).mono ?_); rintro e w5 ⟨an, cn, ai, ci, rfl, hr5, hb5, q0, q1, hres⟩; have t0 := hres.cell (i := 0) (by decide); have t1 := hres.cell (i := 1) (by decide); have t2 := hres.cell (i := 2) (by decide); have t3 := hres.cell (i := 3) (by decide); have t4 := hres.cell (i := 4) (by decide); have s0 := hres.frozen 0; have s1 := hres.frozen 1; have s2 := hres.frozen 2; have s3 := hres.frozen 3; have s4 := hres.frozen 4; have HRS5 := Lib.hid hres; have HR5 := Lib.hid hr5; have HB5 := Lib.hid hb5; clear hres hr5 hb5; simp only [pick5] at t0 t1 t2 t3 t4))
 go_wp2
 refine bodyPost_ret (results_row_tmp Tryz.results17 _ _ (w.heap.size + 1) 25 _ (0, 0) _ rfl (row5_heap (set5 _ _ _ _ _ HRS5.out)) Tryz.underlying25 rfl (by kernel_rfl) _ rfl) rfl ⟨an, cn, ai, ci, rfl, ?_, below5 _ _ _ _ _ (HB1.out.trans (HB5.out.mono (by omega))) (by omega)⟩
 exact Rep.carry (by omega) (show w5.heap.size ≤ _ by simp [World.setCell]) (fun j hj _ => heap5 _ _ _ _ _ (by omega)) _ _ HR5.out
end Go.Proofs.YtnlgmcapbbgelaaGreatDoor

namespace Go.Proofs.YtnlgmcapbbgelaaGreatDoor
open Go.RowKit
theorem escL_plain (l : List UInt8) (h : ∀ c ∈ l, plainC c) : escL l = l := by
 induction l with
 | nil => rfl
 | cons c r ih =>
   have hc := h c (by simp)
   have e : escL (c :: r) = escC c ++ escL r := by simp [escL]
   rw [e, ih fun d hd => h d (by simp [hd])]
   unfold escC plainC at *
   rw [if_neg (by omega)]; rfl
theorem keyJ_form {s t : ByteArray} (h : keyOk s.data.toList t.data.toList = true) : (keyJ s t).form false := by
 obtain ⟨h1, h2, _, _⟩ := key_txt h
 obtain ⟨n1, n2, n3⟩ := names_ok
 have e : ∀ i (hi : i < [pubN, schN].length), txtOk [pubN, schN][i] = true := fun i hi => by
   match i, hi with
   | 0, _ => exact n1
   | 1, _ => exact n2
 unfold keyJ JV.form
 refine ⟨.inr (.inr (.inr (.inr ⟨rfl, rfl, e⟩))), ?_⟩
 unfold JV.forms JV.forms JV.forms
 unfold txtJ JV.form
 exact ⟨⟨.inr (.inr (.inl ⟨rfl, h2⟩)), by unfold JV.forms; trivial⟩, ⟨.inr (.inr (.inl ⟨rfl, h1⟩)), by unfold JV.forms; trivial⟩, trivial⟩
theorem keyJ_enc {s t : ByteArray} (h : keyOk s.data.toList t.data.toList = true) : (keyJ s t).enc = keyForm s.data.toList t.data.toList := by
 obtain ⟨h1, h2⟩ := key_parts h
 have e1 := escL_plain _ (role_plain h1).1
 have e2 := escL_plain _ (pub_plain h2).1
 have e3 : quoteL pubN.data.toList = [34, 112, 117, 98, 108, 105, 99, 34] := by decide
 have e4 : quoteL schN.data.toList = [34, 115, 99, 104, 101, 109, 101, 34] := by decide
 unfold keyJ txtJ
 simp [JV.enc, JV.encO, sep, e3, e4, keyForm, keyF1, keyF2]
 simp [quoteL, e1, e2]
end Go.Proofs.YtnlgmcapbbgelaaGreatDoor

namespace Go.Proofs.YtnlgmcapbbgelaaGreatDoor
open Go.RowKit Go.WideMaps Go.Maps
def PickG (o m lo hi : Nat) (v : JV) (an ai : Option Addr) (cn ci : Nat) (st : PS) (w : World) : Prop :=
 PickAt o m lo hi v an ai cn ci st w ∨ (PickBad o st.err w ∧ o < w.heap.size ∧ m = o ∧ hi = 0)
theorem PickG.lt {o m lo hi : Nat} {v : JV} {an ai : Option Addr} {cn ci : Nat} {st : PS} {w : World} (h : PickG o m lo hi v an ai cn ci st w) : o < w.heap.size ∧ m < w.heap.size ∧ hi ≤ w.heap.size := by
 rcases h with h | ⟨-, h2, rfl, rfl⟩
 · exact ⟨heap_lt h.obj, by obtain ⟨D, n, h1, _⟩ := h.map; exact h1.lt, h.le⟩
 · exact ⟨h2, h2, Nat.zero_le _⟩
theorem PickG.below {o m lo hi : Nat} {v : JV} {an ai : Option Addr} {cn ci : Nat} {st : PS} {w w' : World} (h : PickG o m lo hi v an ai cn ci st w) (hb : Below w.heap.size w w') : PickG o m lo hi v an ai cn ci st w' := by
 rcases h with h | ⟨h1, h2, h3, h4⟩
 · exact .inl (h.below hb)
 · exact .inr ⟨h1.below hb h2, Nat.lt_of_lt_of_le h2 hb.size, h3, h4⟩
theorem PickG.touch {o m lo hi g : Nat} {v : JV} {an ai : Option Addr} {cn ci : Nat} {st : PS} {w w' : World} (h : PickG o m lo hi v an ai cn ci st w) (hT : Touch (fun b => b = g) w w') (ho : g ≠ o) (hm : g ≠ m) (hh : hi ≤ g) : PickG o m lo hi v an ai cn ci st w' := by
 rcases h with h | ⟨h1, h2, h3, h4⟩
 · exact .inl (h.touch hT ho hm hh)
 · exact .inr ⟨h1.touch hT h2 (Ne.symm ho), Nat.lt_of_lt_of_le h2 hT.size, h3, h4⟩
theorem PickG.cells {o m lo hi : Nat} {v : JV} {an ai : Option Addr} {cn ci : Nat} {st : PS} {w : World} (h : PickG o m lo hi v an ai cn ci st w) : ∃ k, w.cell? ⟨o, 6, none⟩ = some (.int .i64 st.err) ∧ w.cell? ⟨o, 0, none⟩ = some (.int .u8 k) ∧ (st.err = 0 → k = 5) := by
 rcases h with h | ⟨⟨h1, h2, k, h3⟩, -⟩
 · exact ⟨5, box_cell h.obj rfl, (box_cell (j := 0) h.obj rfl).trans (by rw [h.kind]; rfl), fun _ => rfl⟩
 · exact ⟨k, h2, h3, fun e => absurd e h1⟩
theorem errG {o m lo hi : Nat} {v : JV} {an ai : Option Addr} {cn ci : Nat} {st : PS} {w : World} (h : PickG o m lo hi v an ai cn ci st w) :
   Calls Tryz.prog 98 #[.pointer (some ⟨o, 0, none⟩)] w fun e w' => e = .returned (.int .i64 st.err) ∧ w = w' := by
 obtain ⟨k, h1, h2, h3⟩ := h.cells
 exact pickErr o st.err k w h1 h2 h3
def LeftG (o m lo hi : Nat) (v : JV) (an ai : Option Addr) (cn ci : Nat) (st : PS) (w w' : World) : Prop :=
 PickG o m lo hi v an ai cn ci st w' ∧ Touch (fun b => b = o ∨ b = m) w w'
theorem pickText_err {v : JV} {y : ByteArray} {st : PS} (h : st.err ≠ 0) : pickText v y st = ({ data := #[] }, st) := by unfold pickText; rw [if_pos h]
theorem pickNum_err {v : JV} {y : ByteArray} {l h : Int} {st : PS} (he : st.err ≠ 0) : pickNum v y l h st = (0, st) := by unfold pickNum; rw [if_pos he]
theorem pickObj_err {v : JV} {y : ByteArray} {most : Nat} {st : PS} (h : st.err ≠ 0) : pickObj v y most st = (zeroJ, st) := by unfold pickObj; rw [if_pos h]
theorem fail_err {st : PS} {e : Int} (h : st.err ≠ 0) : st.fail e = st := by unfold PS.fail; rw [if_neg h]
theorem textG {o m lo hi : Nat} {v : JV} {an ai : Option Addr} {cn ci : Nat} {st : PS} {w : World} (y : ByteArray) (h : PickG o m lo hi v an ai cn ci st w) (hy : y.size ≤ 4294967296) (ha : st.asked.length ≤ 4294967296) :
   Calls Tryz.prog 53 #[.pointer (some ⟨o, 0, none⟩), .string y] w fun e w' => e = .returned (.string (pickText v y st).1) ∧ LeftG o m lo hi v an ai cn ci (pickText v y st).2 w w' := by
 rcases h with h | ⟨h1, h2, h3, h4⟩
 · exact (pickTextF o m lo hi v an ai cn ci y st w h hy ha).mono fun e w' ⟨e1, e2, e3⟩ => ⟨e1, .inl e2, e3⟩
 · refine (textBad o st.err y w h1).mono fun e w' ⟨e1, e2⟩ => ?_
   subst e2
   rw [pickText_err h1.1]
   exact ⟨e1, .inr ⟨h1, h2, h3, h4⟩, Touch.refl _ _⟩
theorem numG {o m lo hi : Nat} {v : JV} {an ai : Option Addr} {cn ci : Nat} {st : PS} {w : World} (y : ByteArray) (l u : Int) (h : PickG o m lo hi v an ai cn ci st w) (hy : y.size ≤ 4294967296) (ha : st.asked.length ≤ 4294967296) :
   Calls Tryz.prog 55 #[.pointer (some ⟨o, 0, none⟩), .string y, .int .i64 l, .int .i64 u] w fun e w' => e = .returned (.int .i64 (pickNum v y l u st).1) ∧ LeftG o m lo hi v an ai cn ci (pickNum v y l u st).2 w w' := by
 have hlt := h.lt
 rcases h with h | ⟨h1, h2, h3, h4⟩
 · exact (pickNumF o m lo hi v an ai cn ci y l u st w h hy ha hlt.2.1 hlt.1).mono fun e w' ⟨e1, e2, e3⟩ => ⟨e1, .inl e2, e3⟩
 · refine (numBad o st.err y l u w h1 h2).mono fun e w' ⟨e1, e2⟩ => ?_
   rw [pickNum_err h1.1]
   exact ⟨e1, .inr ⟨h1.below e2 h2, Nat.lt_of_lt_of_le h2 e2.size, h3, h4⟩, Touch.of_below e2 (Nat.le_refl _)⟩
def ObjG (v : JV) (y : ByteArray) (most : Nat) (st : PS) (w : World) (e : Ending) (w' : World) : Prop :=
 ∃ an' cn' ai' ci', e = .returned (.agg #[.int .u8 (pickObj v y most st).1.kind, .int .i64 (pickObj v y most st).1.n, .string (pickObj v y most st).1.t, .slice an' (pickObj v y most st).1.names.length cn', .slice ai' (pickObj v y most st).1.items.length ci']) ∧ Rep w' w.heap.size w'.heap.size (pickObj v y most st).1 (.agg #[.int .u8 (pickObj v y most st).1.kind, .int .i64 (pickObj v y most st).1.n, .string (pickObj v y most st).1.t, .slice an' (pickObj v y most st).1.names.length cn', .slice ai' (pickObj v y most st).1.items.length ci'])
theorem objGG {o m lo hi : Nat} {v : JV} {an ai : Option Addr} {cn ci : Nat} {st : PS} {w : World} (y : ByteArray) (most : Nat) (h : PickG o m lo hi v an ai cn ci st w) (hy : y.size ≤ 4294967296) (ha : st.asked.length ≤ 4294967296) :
   Calls Tryz.prog 58 #[.pointer (some ⟨o, 0, none⟩), .string y, .int .i64 most] w fun e w' => ObjG v y most st w e w' ∧ LeftG o m lo hi v an ai cn ci (pickObj v y most st).2 w w' := by
 rcases h with h | ⟨h1, h2, h3, h4⟩
 · exact (pickObjF o m lo hi v an ai cn ci y most st w h hy ha).mono fun e w' ⟨⟨a, b, c, d, e1, e2⟩, e3, e4⟩ => ⟨⟨a, b, c, d, e1, e2⟩, .inl e3, e4⟩
 · refine (objBad o st.err y most w h1 h2).mono fun e w' ⟨e1, e2⟩ => ?_
   unfold ObjG
   rw [pickObj_err h1.1]
   exact ⟨⟨none, 0, none, 0, e1, rep_zeroJW _ _ _⟩, .inr ⟨h1.below e2 h2, Nat.lt_of_lt_of_le h2 e2.size, h3, h4⟩, Touch.of_below e2 (Nat.le_refl _)⟩
theorem failG {o m lo hi : Nat} {v : JV} {an ai : Option Addr} {cn ci : Nat} {st : PS} {w : World} (e : Int) (h : PickG o m lo hi v an ai cn ci st w) :
   Calls Tryz.prog 54 #[.pointer (some ⟨o, 0, none⟩), .int .i64 e] w fun r w' => r = .returned (.tuple #[]) ∧ LeftG o m lo hi v an ai cn ci (st.fail e) w w' := by
 rcases h with h | ⟨h1, h2, h3, h4⟩
 · exact (pickFailG o m lo hi v an ai cn ci e st w h).mono fun r w' ⟨e1, e2, e3⟩ => ⟨e1, .inl e2, e3⟩
 · refine (failBad o st.err e w h1).mono fun r w' ⟨e1, e2⟩ => ?_
   subst e2
   rw [fail_err h1.1]
   exact ⟨e1, .inr ⟨h1, h2, h3, h4⟩, Touch.refl _ _⟩
theorem doneG {o m lo hi : Nat} {v : JV} {an ai : Option Addr} {cn ci : Nat} {st : PS} {w : World} (h : PickG o m lo hi v an ai cn ci st w) (hv : v.wt ≤ 4294967296) :
   Calls Tryz.prog 60 #[.pointer (some ⟨o, 0, none⟩)] w fun e w' => e = .returned (.int .i64 (pickDone v st)) ∧ w = w' := by
 rcases h with h | ⟨⟨h1, c6, k, c0⟩, h2⟩
 · exact pickDoneF o m lo hi v an ai cn ci st w h (fun i hi => by have h1 := bytesSum_get v.names i hi; have h2 := v.wt_eq; omega)
 · refine (doneErr o st.err k w h1 c6 c0).mono fun e w' ⟨e1, e2⟩ => ⟨?_, e2⟩
   rw [e1]
   unfold pickDone
   rw [if_pos h1]
def st0 (v : JV) : PS := if v.kind = 5 then ⟨[], 0⟩ else ⟨[], 10⟩
def OfGPost (C : JV → Prop) (st : PS) (w : World) (e : Ending) (w' : World) : Prop :=
 ∃ u o m lo hi an ai cn ci, C u ∧ u.wt ≤ 4294967296 ∧ e = .returned (.pointer (some ⟨o, 0, none⟩)) ∧ PickG o m lo hi u an ai cn ci st w' ∧ w.heap.size ≤ o ∧ w.heap.size ≤ m ∧ Below w.heap.size w w'
def CopyIn (v u : JV) : Prop := if v.kind = 5 then WeakCopy v u else u = zeroJ
def CopyOwn (v u : JV) : Prop := u = if v.kind = 5 then v else zeroJ
theorem zeroJ_wt : zeroJ.wt ≤ 4294967296 := by rw [JV.wt_eq]; decide
theorem ofBadG {v : JV} {x : Value} {w : World} {lo hi : Nat} {C : JV → Prop} (hR : Rep w lo hi v x) (hk : v.kind ≠ 5) (hC : C zeroJ) : Calls Tryz.prog 52 #[x] w (OfGPost C (st0 v) w) := by
 obtain ⟨an, cn, ai, ci, rfl, -⟩ := hR.parts
 refine (pickOf_bad v.kind v.n v.t _ _ w hk).mono ?_
 rintro e w' ⟨o, e1, e2, e3, e4, e5⟩
 refine ⟨zeroJ, o, o, 0, 0, none, none, 0, 0, hC, zeroJ_wt, e1, ?_, e2, e2, e5⟩
 unfold st0
 rw [if_neg hk]
 exact .inr ⟨e4, e3, rfl, rfl⟩
theorem ofIn {v : JV} {x : Value} {w : World} {hi : Nat} (hN : v.wt ≤ 4294967296) (hhi : hi ≤ w.heap.size) (hR : Rep w 0 hi v x) (hm : v.mayB = true) : Calls Tryz.prog 52 #[x] w (OfGPost (CopyIn v) (st0 v) w) := by
 by_cases hk : v.kind = 5
 · have hp := partW_of hm hk
   refine (pickOf_goodW v x w hi hN hhi hR hk hp.2.2.1 hp.2.2.2.1).mono ?_
   rintro e w' ⟨u, hu, o, m, lo, hi2, an, ai, cn, ci, e1, e2, e3, e4, e5⟩
   refine ⟨u, o, m, lo, hi2, an, ai, cn, ci, ?_, e2.wt, e1, ?_, e3, e4, e5⟩
   · unfold CopyIn; rw [if_pos hk]; exact hu
   · unfold st0; rw [if_pos hk]; exact .inl e2
 · exact ofBadG hR hk (by unfold CopyIn; rw [if_neg hk])
theorem ofOwn {v : JV} {x : Value} {w : World} {lo hi : Nat} (hN : v.wt ≤ 4294967296) (hlo : 0 < lo) (hhi : hi ≤ w.heap.size) (hR : Rep w lo hi v x) (hp : v.kind = 5 → rises v.names = true ∧ v.names.length = v.items.length) : Calls Tryz.prog 52 #[x] w (OfGPost (CopyOwn v) (st0 v) w) := by
 by_cases hk : v.kind = 5
 · refine (pickOf_good v x w lo hi hN hhi hR hk (hp hk).1 (hp hk).2 (fun _ _ => .inl hlo)).mono ?_
   rintro e w' ⟨o, m, lo2, hi2, an, ai, cn, ci, e1, e2, e3, e4, e5⟩
   refine ⟨v, o, m, lo2, hi2, an, ai, cn, ci, ?_, hN, e1, ?_, e3, e4, e5⟩
   · unfold CopyOwn; rw [if_pos hk]
   · unfold st0; rw [if_pos hk]; exact .inl e2
 · exact ofBadG hR hk (by unfold CopyOwn; rw [if_neg hk])
end Go.Proofs.YtnlgmcapbbgelaaGreatDoor

namespace Go.Proofs.YtnlgmcapbbgelaaGreatDoor
open Go.RowKit
structure AuthV where
 thr : Int
 ids : List ByteArray
deriving DecidableEq
def authZ : AuthV := ⟨0, []⟩
def mayAuth (a : AuthV) : Bool := authOk a.thr a.ids
def keyidsN : ByteArray := { data := #[107, 101, 121, 105, 100, 115] }
def thrN : ByteArray := { data := #[116, 104, 114, 101, 115, 104, 111, 108, 100] }
def listJ (l : List JV) : JV := .mk 4 0 { data := #[] } [] l
def textsJ (l : List ByteArray) : JV := listJ (l.map txtJ)
def authM (a : AuthV) : List NJ := [(keyidsN, textsJ a.ids), (thrN, numJ a.thr)]
def authJ (a : AuthV) : JV := objJ (authM a)
def pickTexts (v : JV) (y : ByteArray) (most : Nat) (st : PS) : List ByteArray × PS :=
 if st.err ≠ 0 then ([], st) else match v.look y with
 | none => ([], ⟨st.asked, 6⟩)
 | some it => if it.kind ≠ 4 then ([], ⟨st.asked, 10⟩) else if most < it.items.length then ([], ⟨st.asked, 5⟩) else if it.items.all (fun x => decide (x.kind = 3)) then (it.items.map JV.t, ⟨y :: st.asked, 0⟩) else ([], ⟨st.asked, 10⟩)
def partS (v : JV) (st : PS) : PS := (if (pickTexts v keyidsN 16 st).1 = [] then (pickTexts v keyidsN 16 st).2.fail 4 else (pickTexts v keyidsN 16 st).2).fail (idsErr [] (pickTexts v keyidsN 16 st).1)
def partN (v : JV) (st : PS) : Int × PS := pickNum v thrN 1 ((pickTexts v keyidsN 16 st).1.length : Int) (partS v st)
def partK (v : JV) (st : PS) : AuthV × PS := (if (partN v st).2.err ≠ 0 then authZ else ⟨(partN v st).1, (pickTexts v keyidsN 16 st).1⟩, (partN v st).2)
def authOfK (v : JV) : AuthV × Int := if pickDone v (partK v ⟨[], 0⟩).2 ≠ 0 then (authZ, pickDone v (partK v ⟨[], 0⟩).2) else ((partK v ⟨[], 0⟩).1, 0)
def authOfA (v : JV) : AuthV × Int := if v.mayB = false then (authZ, 3) else if v.kind ≠ 5 then (authZ, 10) else authOfK v
theorem listJ_part {l : List JV} (h : ∀ x ∈ l, x.partB = true) : (listJ l).partB = true := by
 rw [JV.partB_eq]
 show (properB 4 0 { data := #[] } [] l.length && JV.partsB l) = true
 rw [parts_all l h]
 unfold properB
 rw [if_neg (by decide), if_neg (by decide), if_neg (by decide), if_pos rfl]
 have h2 : ({ data := #[] } : ByteArray).toList = [] := by rw [ByteArray.toList_eq]
 simp [h2]
theorem auth_names : rises [keyidsN, thrN] = true ∧ txtOk keyidsN = true ∧ txtOk thrN = true ∧ keyidsN ≠ thrN := by
 refine ⟨by kernel_rfl, ?_, ?_, by decide⟩
 all_goals
   refine txtOk_plain ?_ (by decide)
   intro c hc
   unfold plainC
   revert c
   decide
theorem mayAuth_parts {a : AuthV} (h : mayAuth a = true) : (1 ≤ a.ids.length ∧ a.ids.length ≤ 16) ∧ (1 ≤ a.thr ∧ a.thr ≤ a.ids.length) ∧ idsErr [] a.ids = 0 := by
 unfold mayAuth authOk at h
 simp only [Bool.and_eq_true, decide_eq_true_eq] at h
 exact ⟨⟨h.1.1, h.1.2.1⟩, h.1.2.2, h.2⟩
theorem idsErr_hex : ∀ (l seen : List ByteArray), idsErr seen l = 0 → ∀ x ∈ l, hex64 x = true
 | [], _, _, x, hx => by simp at hx
 | y :: r, seen, h, x, hx => by
   unfold idsErr at h
   split at h
   · rename_i h1
     split at h
     · cases h
     · rcases List.mem_cons.1 hx with e | e
       · rw [e]; exact h1
       · exact idsErr_hex r _ h x e
   · cases h
theorem hex64_txt {x : ByteArray} (h : hex64 x = true) : txtOk x = true ∧ x.size = 64 := by
 unfold hex64 at h
 simp only [Bool.and_eq_true, decide_eq_true_eq] at h
 refine ⟨txtOk_plain ?_ (by omega), h.1⟩
 intro c hc
 have h2 := List.all_eq_true.1 (by unfold allHex at h; exact h.2) c hc
 unfold isHex at h2
 unfold plainC
 simp at h2 ⊢
 omega
theorem authJ_look (a : AuthV) : (authJ a).look keyidsN = some (textsJ a.ids) ∧ (authJ a).look thrN = some (numJ a.thr) := by
 have h := auth_names.2.2.2
 constructor
 · show lookL [keyidsN, thrN] [textsJ a.ids, numJ a.thr] keyidsN = _
   simp [lookL]
 · show lookL [keyidsN, thrN] [textsJ a.ids, numJ a.thr] thrN = _
   simp [lookL, h]
theorem pickTexts_ok {v : JV} {y : ByteArray} {l : List ByteArray} {most : Nat} {a : List ByteArray} (h : v.look y = some (textsJ l)) (hl : l.length ≤ most) : pickTexts v y most ⟨a, 0⟩ = (l, ⟨y :: a, 0⟩) := by
 unfold pickTexts
 rw [if_neg (by simp), h]
 show (if (textsJ l).kind ≠ 4 then _ else _ : List ByteArray × PS) = _
 have hi : (textsJ l).items = l.map txtJ := rfl
 rw [if_neg (by simp [textsJ, listJ, JV.kind]), hi, if_neg (by rw [List.length_map]; omega), if_pos (by simp [txtJ, JV.kind])]
 have hm : (l.map txtJ).map JV.t = l := by rw [List.map_map]; exact (List.map_congr_left fun x _ => rfl).trans (List.map_id l)
 rw [hm]
theorem auth_back {a : AuthV} (h : mayAuth a = true) : authOfK (authJ a) = (a, 0) := by
 obtain ⟨hl, ht, hi⟩ := mayAuth_parts h
 obtain ⟨e1, e2⟩ := authJ_look a
 have p1 : pickTexts (authJ a) keyidsN 16 ⟨[], 0⟩ = (a.ids, ⟨[keyidsN], 0⟩) := pickTexts_ok e1 hl.2
 have hne : ¬ a.ids = [] := fun e => by rw [e] at hl; simp at hl
 have p2 : partS (authJ a) ⟨[], 0⟩ = ⟨[keyidsN], 0⟩ := by
   unfold partS
   rw [p1]
   dsimp only
   rw [if_neg hne, hi]
   rfl
 have p3 : partN (authJ a) ⟨[], 0⟩ = (a.thr, ⟨[thrN, keyidsN], 0⟩) := by
   unfold partN
   rw [p1, p2]
   exact pickNum_ok e2 ht.1 ht.2
 have p4 : partK (authJ a) ⟨[], 0⟩ = (a, ⟨[thrN, keyidsN], 0⟩) := by
   unfold partK
   rw [p3, p1]
   rfl
 have p5 : pickDone (authJ a) ⟨[thrN, keyidsN], 0⟩ = 0 := by
   unfold pickDone
   rw [if_neg (by simp), if_pos]
   simp [authJ, objJ, JV.names, authM]
 unfold authOfK
 rw [p4, p5, if_neg (by simp)]
theorem authJ_ok {a : AuthV} (h : mayAuth a = true) : (authJ a).partB = true ∧ (authJ a).count ≤ 40 ∧ (authJ a).depth ≤ 2 := by
 obtain ⟨hl, ht, hi⟩ := mayAuth_parts h
 obtain ⟨n1, n2, n3, n4⟩ := auth_names
 have hx := idsErr_hex _ _ hi
 have h0 : ∀ x ∈ a.ids.map txtJ, x.partB = true ∧ x.count ≤ 1 ∧ x.depth ≤ 0 := fun x hx' => by
   obtain ⟨b, hb, rfl⟩ := List.mem_map.1 hx'
   have := txtJ_cd b
   exact ⟨txtJ_part (hex64_txt (hx b hb)).1, Nat.le_of_eq this.1, Nat.le_of_eq this.2⟩
 have hc : (textsJ a.ids).count ≤ 17 := by
   rw [JV.count_eq]
   have := counts_le 1 (a.ids.map txtJ) fun x hx' => (h0 x hx').2.1
   rw [List.length_map] at this
   show 1 + JV.counts (a.ids.map txtJ) ≤ _
   omega
 have hd : (textsJ a.ids).depth ≤ 1 := by
   rw [JV.depth_eq]
   have := depths_le2 0 (a.ids.map txtJ) fun x hx' => (h0 x hx').2.2
   rw [if_neg (by simp [textsJ, listJ, JV.kind])]
   show JV.depths (a.ids.map txtJ) + 1 ≤ _
   omega
 have hp : ∀ p ∈ authM a, txtOk p.1 = true ∧ p.2.partB = true ∧ p.2.count ≤ 17 ∧ p.2.depth ≤ 1 := fun p hp => by
   simp only [authM, List.mem_cons, List.not_mem_nil, or_false] at hp
   have := numJ_cd a.thr
   rcases hp with rfl | rfl
   · exact ⟨n2, listJ_part fun x hx' => (h0 x hx').1, hc, hd⟩
   · exact ⟨n3, numJ_part _, Nat.le_trans (Nat.le_of_eq this.1) (by decide), Nat.le_trans (Nat.le_of_eq this.2) (by decide)⟩
 refine ⟨objJ_part ⟨n1, fun p h => ⟨(hp p h).1, (hp p h).2.1⟩⟩, ?_, objJ_depth 1 fun p h => (hp p h).2.2.2⟩
 have := objJ_count 17 fun p h => (hp p h).2.2.1
 have e : (authM a).length = 2 := rfl
 rw [e] at this
 show (objJ (authM a)).count ≤ 40
 omega
theorem authJ_may {a : AuthV} (h : mayAuth a = true) : (authJ a).mayB = true := by
 obtain ⟨h1, h2, h3⟩ := authJ_ok h
 rw [JV.mayB_iff, h1, decide_eq_true (by omega), decide_eq_true (by omega)]; rfl
theorem pickTexts_inv {v : JV} {y : ByteArray} {most : Nat} {st : PS} (h : (pickTexts v y most st).2.err = 0) : st.err = 0 ∧ ∃ it, v.look y = some it ∧ it.kind = 4 ∧ it.items.length ≤ most ∧ (∀ x ∈ it.items, x.kind = 3) ∧ pickTexts v y most st = (it.items.map JV.t, ⟨y :: st.asked, 0⟩) := by
 unfold pickTexts at h ⊢
 split at h
 · rename_i h0; exact absurd h h0
 · rename_i h0
   rw [if_neg h0]
   refine ⟨by simpa using h0, ?_⟩
   cases hl : v.look y with
   | none => rw [hl] at h; simp at h
   | some it =>
     rw [hl] at h
     dsimp only at h ⊢
     split at h
     · simp at h
     · rename_i h1
       split at h
       · simp at h
       · rename_i h2
         split at h
         · rename_i h3
           rw [if_neg h1, if_neg h2, if_pos h3]
           exact ⟨it, rfl, by simpa using h1, by omega, fun x hx => by simpa using List.all_eq_true.1 h3 x hx, rfl⟩
         · simp at h
theorem part_list {x : JV} (h : x.partB = true) (hk : x.kind = 4) : x = listJ x.items ∧ ∀ y ∈ x.items, y.partB = true := by
 rw [JV.partB_eq, Bool.and_eq_true] at h
 obtain ⟨h1, h2⟩ := h
 refine ⟨?_, fun y hy => by obtain ⟨i, hi, rfl⟩ := List.getElem_of_mem hy; exact partsB_get _ i hi h2⟩
 clear h2
 obtain ⟨k, n, t, ns, xs⟩ := x
 simp only [JV.kind, JV.n, JV.t, JV.names, JV.items] at h1 hk ⊢
 subst hk
 unfold properB at h1
 rw [if_neg (by decide), if_neg (by decide), if_neg (by decide), if_pos rfl, decide_eq_true_eq] at h1
 obtain ⟨a, b, c⟩ := h1
 rw [a, nil_bytes b, List.eq_nil_of_length_eq_zero c]
 rfl
theorem auth_conv {v : JV} {a : AuthV} (hW : PartW v) (h : authOfK v = (a, 0)) (hx : ∀ x ∈ v.items, x.partB = true) : v = authJ a ∧ mayAuth a = true := by
 have hd : pickDone v (partK v ⟨[], 0⟩).2 = 0 := by
   unfold authOfK at h
   split at h
   · rename_i h0; exact absurd (congrArg Prod.snd h) h0
   · rename_i h0; simpa using h0
 have ha : (partK v ⟨[], 0⟩).1 = a := by
   unfold authOfK at h
   rw [if_neg (by rw [hd]; decide)] at h
   exact congrArg Prod.fst h
 obtain ⟨he, hn⟩ := pickDone_inv hd
 have he2 : (partN v ⟨[], 0⟩).2.err = 0 := he
 obtain ⟨h1, it2, l2, k2, r2, q2⟩ := pickNum_inv he2
 obtain ⟨h3, h4, h5⟩ := fail_zero h1
 have hne : ¬ (pickTexts v keyidsN 16 ⟨[], 0⟩).1 = [] := fun e => by
   rw [if_pos e] at h3
   have := fail_zero h3
   omega
 rw [if_neg hne] at h3 h5
 obtain ⟨-, it1, l1, k1, m1, t1, q1⟩ := pickTexts_inv h3
 obtain ⟨hk5, hp, hr, hlen, -⟩ := hW
 have e1 : it1 = textsJ (it1.items.map JV.t) := by
   have hm := (lookL_mem l1).2
   obtain ⟨e, hi⟩ := part_list (hx _ hm) k1
   have : it1.items = (it1.items.map JV.t).map txtJ := by
     rw [List.map_map]
     conv => lhs; rw [← List.map_id it1.items]
     exact List.map_congr_left fun x hx' => part_txt (hi x hx') (t1 x hx')
   unfold textsJ
   rw [← this]
   exact e
 have e2 : it2 = numJ it2.n := part_num (hx _ (lookL_mem l2).2) k2
 have ea : a = ⟨it2.n, it1.items.map JV.t⟩ := by
   rw [← ha]
   unfold partK
   rw [if_neg (by rw [he2]; decide)]
   show (⟨(pickNum v thrN 1 _ _).1, _⟩ : AuthV) = _
   rw [q1] at q2 ⊢
   rw [q2]
 rw [q1] at h4 r2 hne q2
 dsimp only at h4 r2 hne
 have hids : idsErr [] (it1.items.map JV.t) = 0 := h4
 have hlt : (it1.items.map JV.t).length = it1.items.length := List.length_map ..
 have h0 : (it1.items.map JV.t).length ≠ 0 := fun e => hne (List.eq_nil_of_length_eq_zero e)
 refine ⟨?_, ?_⟩
 · have hst : ∀ n ∈ v.names, n = thrN ∨ n = keyidsN := fun n hnm => by
     have := hn n hnm
     have hq : (partK v ⟨[], 0⟩).2 = ⟨thrN :: (partS v ⟨[], 0⟩).asked, 0⟩ := by
       show (pickNum v thrN 1 _ _).2 = _
       rw [q1]
       exact congrArg Prod.snd q2
     rw [hq] at this
     rcases List.mem_cons.1 this with e | e
     · exact .inl e
     · have hs : (partS v ⟨[], 0⟩).asked = [keyidsN] := by
         unfold partS
         rw [q1]
         dsimp only
         rw [if_neg hne, hids]
         rfl
       rw [hs] at e
       exact .inr (by simpa using e)
   rw [ea]
   refine obj_of (N := authM ⟨it2.n, it1.items.map JV.t⟩) hk5 hp hr hlen auth_names.1 (fun x hx' => by rcases hst x hx' with rfl | rfl <;> simp [authM]) (fun p hp' => ?_)
   simp only [authM, List.mem_cons, List.not_mem_nil, or_false] at hp'
   rcases hp' with rfl | rfl
   · rw [l1, ← e1]
   · rw [l2, ← e2]
 · rw [ea]
   unfold mayAuth authOk
   simp only [Bool.and_eq_true, decide_eq_true_eq]
   exact ⟨⟨by omega, by omega, by omega, by omega⟩, hids⟩
def rootN : ByteArray := { data := #[114, 111, 111, 116] }
structure Auth3 where
 a : AuthV
 b : AuthV
 c : AuthV
deriving DecidableEq
def auth3Z : Auth3 := ⟨authZ, authZ, authZ⟩
def may3 (x : Auth3) : Bool := mayAuth x.a && mayAuth x.b && mayAuth x.c
def rolesM (x : Auth3) : List NJ := [(rootN, authJ x.a), (snpN, authJ x.b), (tgtN, authJ x.c)]
def rolesJ (x : Auth3) : JV := objJ (rolesM x)
def roleS (v : JV) (y : ByteArray) (st : PS) : AuthV × PS := ((authOfA (pickObj v y 8192 st).1).1, (pickObj v y 8192 st).2.fail (authOfA (pickObj v y 8192 st).1).2)
def rol1 (v : JV) : AuthV × PS := roleS v rootN ⟨[], 0⟩
def rol2 (v : JV) : AuthV × PS := roleS v snpN (rol1 v).2
def rol3 (v : JV) : AuthV × PS := roleS v tgtN (rol2 v).2
def rolesOfK (v : JV) : Auth3 × Int := if pickDone v (rol3 v).2 ≠ 0 then (auth3Z, pickDone v (rol3 v).2) else (⟨(rol1 v).1, (rol2 v).1, (rol3 v).1⟩, 0)
theorem roles_names : rises [rootN, snpN, tgtN] = true ∧ (txtOk rootN = true ∧ txtOk snpN = true ∧ txtOk tgtN = true) ∧ (rootN ≠ snpN ∧ rootN ≠ tgtN ∧ snpN ≠ tgtN) := by
 refine ⟨by kernel_rfl, ⟨?_, ?_, ?_⟩, by decide⟩
 all_goals
   refine txtOk_plain ?_ (by decide)
   intro c hc
   unfold plainC
   revert c
   decide
theorem authOfA_back {a : AuthV} (h : mayAuth a = true) : authOfA (authJ a) = (a, 0) := by
 unfold authOfA
 rw [if_neg (by rw [authJ_may h]; decide), if_neg (by simp [authJ, objJ, JV.kind]), auth_back h]
theorem roleS_ok {v : JV} {y : ByteArray} {a : AuthV} {s : List ByteArray} (h : v.look y = some (authJ a)) (hm : mayAuth a = true) : roleS v y ⟨s, 0⟩ = (a, ⟨y :: s, 0⟩) := by
 have e : pickObj v y 8192 ⟨s, 0⟩ = (authJ a, ⟨y :: s, 0⟩) := by
   unfold pickObj
   rw [if_neg (by simp), h]
   show (if (authJ a).kind ≠ 5 then _ else if 8192 < (authJ a).items.length then _ else _ : JV × PS) = _
   rw [if_neg (by simp [authJ, objJ, JV.kind]), if_neg (by simp [authJ, objJ, JV.items, authM])]
 unfold roleS
 rw [e]
 dsimp only
 rw [authOfA_back hm]
 rfl
theorem roles_back {x : Auth3} (h : may3 x = true) : rolesOfK (rolesJ x) = (x, 0) := by
 unfold may3 at h
 simp only [Bool.and_eq_true] at h
 obtain ⟨⟨ha, hb⟩, hc⟩ := h
 obtain ⟨n1, n2, n3⟩ := roles_names.2.2
 have k0 : ∀ y, (rolesJ x).look y = lookL [rootN, snpN, tgtN] [authJ x.a, authJ x.b, authJ x.c] y := fun _ => rfl
 have e1 : rol1 (rolesJ x) = (x.a, ⟨[rootN], 0⟩) := roleS_ok (by rw [k0]; simp [lookL]) ha
 have e2 : rol2 (rolesJ x) = (x.b, ⟨[snpN, rootN], 0⟩) := by
   unfold rol2
   rw [e1]
   exact roleS_ok (by rw [k0]; simp [lookL, n1]) hb
 have e3 : rol3 (rolesJ x) = (x.c, ⟨[tgtN, snpN, rootN], 0⟩) := by
   unfold rol3
   rw [e2]
   exact roleS_ok (by rw [k0]; simp [lookL, n2, n3]) hc
 have e4 : pickDone (rolesJ x) ⟨[tgtN, snpN, rootN], 0⟩ = 0 := by
   unfold pickDone
   rw [if_neg (by simp), if_pos]
   simp [rolesJ, objJ, JV.names, rolesM]
 unfold rolesOfK
 rw [e3, e4, if_neg (by simp), e1, e2]
theorem rolesJ_ok {x : Auth3} (h : may3 x = true) : (rolesJ x).partB = true ∧ (rolesJ x).count ≤ 130 ∧ (rolesJ x).depth ≤ 3 := by
 unfold may3 at h
 simp only [Bool.and_eq_true] at h
 obtain ⟨⟨ha, hb⟩, hc⟩ := h
 obtain ⟨r, ⟨n1, n2, n3⟩, -⟩ := roles_names
 have hp : ∀ p ∈ rolesM x, txtOk p.1 = true ∧ p.2.partB = true ∧ p.2.count ≤ 40 ∧ p.2.depth ≤ 2 := fun p hp => by
   simp only [rolesM, List.mem_cons, List.not_mem_nil, or_false] at hp
   rcases hp with rfl | rfl | rfl
   · exact ⟨n1, authJ_ok ha⟩
   · exact ⟨n2, authJ_ok hb⟩
   · exact ⟨n3, authJ_ok hc⟩
 refine ⟨objJ_part ⟨r, fun p h => ⟨(hp p h).1, (hp p h).2.1⟩⟩, ?_, objJ_depth 2 fun p h => (hp p h).2.2.2⟩
 have := objJ_count 40 fun p h => (hp p h).2.2.1
 have e : (rolesM x).length = 3 := rfl
 rw [e] at this
 show (objJ (rolesM x)).count ≤ 130
 omega
theorem roleS_inv {v : JV} {y : ByteArray} {st : PS} (h : (roleS v y st).2.err = 0) (hx : ∀ x ∈ v.items, x.partB = true) : st.err = 0 ∧ v.look y = some (authJ (roleS v y st).1) ∧ mayAuth (roleS v y st).1 = true ∧ (roleS v y st).2 = ⟨y :: st.asked, 0⟩ := by
 unfold roleS at h ⊢
 obtain ⟨h1, h2, h3⟩ := fail_zero h
 obtain ⟨h4, it, l, k, m, q⟩ := pickObj_inv h1
 rw [q] at h2 h3 ⊢
 dsimp only at h2 h3 ⊢
 have hm : it.mayB = true := by
   unfold authOfA at h2
   split at h2
   · simp at h2
   · rename_i h5; simpa using h5
 have e : authOfA it = authOfK it := by unfold authOfA; rw [if_neg (by rw [hm]; decide), if_neg (by simp [k])]
 have hpt := part_obj (hx _ (lookL_mem l).2) k
 obtain ⟨e2, e3⟩ := auth_conv (partW_of hm k) (show authOfK it = ((authOfA it).1, 0) by rw [← e]; exact Prod.ext rfl h2) hpt.2.2.2
 refine ⟨h4, ?_, e3, h3⟩
 rw [← e2]
 exact l
theorem roles_conv {v : JV} {x : Auth3} (hW : PartW v) (h : rolesOfK v = (x, 0)) (hx : ∀ y ∈ v.items, y.partB = true) : v = rolesJ x ∧ may3 x = true := by
 have hd : pickDone v (rol3 v).2 = 0 := by
   unfold rolesOfK at h
   split at h
   · rename_i h0; exact absurd (congrArg Prod.snd h) h0
   · rename_i h0; simpa using h0
 have hxx : x = ⟨(rol1 v).1, (rol2 v).1, (rol3 v).1⟩ := by
   unfold rolesOfK at h
   rw [if_neg (by rw [hd]; decide)] at h
   exact (congrArg Prod.fst h).symm
 obtain ⟨he, hn⟩ := pickDone_inv hd
 obtain ⟨a3, l3, m3, s3⟩ := roleS_inv (v := v) (y := tgtN) (st := (rol2 v).2) he hx
 obtain ⟨a2, l2, m2, s2⟩ := roleS_inv (v := v) (y := snpN) (st := (rol1 v).2) a3 hx
 obtain ⟨a1, l1, m1, s1⟩ := roleS_inv (v := v) (y := rootN) (st := ⟨[], 0⟩) a2 hx
 have t1 : (rol1 v).2 = ⟨[rootN], 0⟩ := s1
 have t2 : (rol2 v).2 = ⟨[snpN, rootN], 0⟩ := by
   have : (rol2 v).2 = ⟨snpN :: (rol1 v).2.asked, 0⟩ := s2
   rw [this, t1]
 have t3 : (rol3 v).2 = ⟨[tgtN, snpN, rootN], 0⟩ := by
   have : (rol3 v).2 = ⟨tgtN :: (rol2 v).2.asked, 0⟩ := s3
   rw [this, t2]
 obtain ⟨hk5, hp, hr, hlen, -⟩ := hW
 rw [hxx]
 refine ⟨obj_of (N := rolesM ⟨(rol1 v).1, (rol2 v).1, (rol3 v).1⟩) hk5 hp hr hlen roles_names.1 (fun y hy => ?_) (fun p hp' => ?_), ?_⟩
 · have := hn y hy
   rw [t3] at this
   simp only [List.mem_cons, List.not_mem_nil, or_false] at this
   rcases this with rfl | rfl | rfl <;> simp [rolesM]
 · simp only [rolesM, List.mem_cons, List.not_mem_nil, or_false] at hp'
   rcases hp' with rfl | rfl | rfl
   · exact l1
   · exact l2
   · exact l3
 · unfold may3
   simp only [Bool.and_eq_true]
   exact ⟨⟨m1, m2⟩, m3⟩
def CopyExPost (v : JV) (w : World) (e : Ending) (w' : World) : Prop :=
 ∃ an cn ai ci, e = .returned (.agg #[.int .u8 v.kind, .int .i64 v.n, .string v.t, .slice an v.names.length cn, .slice ai v.items.length ci]) ∧ Rep w' w.heap.size w'.heap.size v (.agg #[.int .u8 v.kind, .int .i64 v.n, .string v.t, .slice an v.names.length cn, .slice ai v.items.length ci]) ∧ Below w.heap.size w w'
def CopyEx (lo : Nat) (v : JV) : Prop := ∀ (x : Value) (w : World) (hi : Nat), hi ≤ w.heap.size → Rep w lo hi v x → Calls Tryz.prog 73 #[x] w (CopyExPost v w)
theorem copyEx_own (lo : Nat) (v : JV) (hN : v.wt ≤ 4294967296) (hl : 0 < lo) : CopyEx lo v := by
 intro x w hi hhi hR
 refine (valueCopy v x w lo hi hN hhi hR fun k h => .inl hl).mono ?_
 intro e w' h
 exact h
end Go.Proofs.YtnlgmcapbbgelaaGreatDoor
