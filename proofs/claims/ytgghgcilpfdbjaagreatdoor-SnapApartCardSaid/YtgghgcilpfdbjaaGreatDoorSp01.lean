/- Rows of pairs of texts that may be written over. The contract of record.HashesOf. The contract of snap.PinOf, of any object, hashes and all, whatever copy of it pick.Of makes. Printed by genpinofg.py. The contracts of a picker's Num, Has, Object, Fail where the value is no object. The contract of snap.PinOf, of any value that lies in the call's own memory. Plain: the moment of a moment's text is the moment. No program in sight. Pins in a row that the call owns, hashes and all: what stays, one pin more. Cells of the call's own that may be written over. No program in sight. -/
import Derived.Test.YtgghgcilpfdbjaaGreatDoorSl00
import Derived.Test.YtgghgcilpfdbjaaGreatDoorSl01
import Derived.Test.YtgghgcilpfdbjaaGreatDoorSp00
import Derived.Test.YtgghgcilpfdbjaaGreatDoorSl08
import Derived.Test.YtgghgcilpfdbjaaGreatDoorSl06
import Derived.Outline
import Derived.OwnWalk
import Derived.Test.YtgghgcilpfdbjaaGreatDoorSl18
import Derived.Test.YtgghgcilpfdbjaaGreatDoorSl16
import Derived.Test.YtgghgcilpfdbjaaGreatDoorSl20
import Derived.Test.YtgghgcilpfdbjaaGreatDoorSl09

namespace Go.Proofs.YtgghgcilpfdbjaaGreatDoor
open Go.RowKit

def KeysW (w : World) (lo hi : Nat) (a : Option Addr) (l : List Key2) : Prop := KeysAt w lo hi a l ∧ ∀ ad, a = some ad → l ≠ [] → ∀ j, w.frozen? ⟨ad.block, j, none⟩ = false
theorem KeysW.nil (w : World) (lo hi : Nat) (a : Option Addr) : KeysW w lo hi a [] := ⟨.inl rfl, fun _ _ h => absurd rfl h⟩
theorem KeysW.carry {w w' : World} {lo hi lo' hi' : Nat} {a : Option Addr} {l : List Key2} (h : KeysW w lo hi a l) (h1 : lo' ≤ lo) (h2 : hi ≤ hi') (hs : ∀ b, lo ≤ b → b < hi → w'.heap[b]? = w.heap[b]?) : KeysW w' lo' hi' a l :=
  ⟨h.1.carry h1 h2 hs, fun ad ha hl j => by
    rcases h.1 with e | ⟨b, off, e, hb, hb', _⟩
    · exact absurd e hl
    · have hf := h.2 ad ha hl j
      rw [e] at ha
      cases ha
      exact (World.frozen?_of_block (w := w) (hs b hb hb')).trans hf⟩
theorem KeysW.below {w w' : World} {lo hi lo' hi' B : Nat} {a : Option Addr} {l : List Key2} (h : KeysW w lo hi a l) (hb : Below B w w') (hB : hi ≤ B) (h1 : lo' ≤ lo) (h2 : hi ≤ hi') : KeysW w' lo' hi' a l :=
  h.carry h1 h2 fun b _ hlt => hb.block b (by omega)
theorem owns_keysW {w : World} {base e : Nat} {v : Value} {n : Nat} {M : List Key2} (h : w.ownsRow base e 2 v n (M.flatMap encK)) (hn : n = M.length) :
    ∃ a c, v = .slice a M.length c ∧ KeysW w base w.heap.size a M := by
  obtain ⟨a, c, hv, hk⟩ := owns_keys h hn
  refine ⟨a, c, hv, hk, fun ad ha hl j => ?_⟩
  rcases h.2 with ⟨hv2, h0⟩ | ⟨g, cap, cur, hv2, hg, hh, _⟩
  · rw [hv] at hv2
    simp only [Value.slice.injEq] at hv2
    rw [hv2.1] at ha
    cases ha
  · rw [hv] at hv2
    simp only [Value.slice.injEq] at hv2
    rw [hv2.1] at ha
    cases ha
    simp [World.frozen?, hh]
end Go.Proofs.YtgghgcilpfdbjaaGreatDoor

namespace Go.Proofs.YtgghgcilpfdbjaaGreatDoor
open Go.RowKit

def HashOfPost (v : JV) (w : World) (e : Ending) (w' : World) : Prop :=
  ∃ a c, e = .returned (.tuple #[.slice a (hashesOfJ v).1.length c, .int .i64 (hashesOfJ v).2]) ∧ KeysW w' w.heap.size w'.heap.size a (hashesOfJ v).1 ∧ (hashesOfJ v).1.length ≤ c ∧ Below w.heap.size w w'
theorem hashOf_no {v : JV} {er : Int} (h : hashesOfJ v = ([], er)) {w w' : World} (hb : Below w.heap.size w w') : HashOfPost v w (.returned (.tuple #[.slice none 0 0, .int .i64 er])) w' := by
  unfold HashOfPost
  rw [h]
  exact ⟨none, 0, rfl, KeysW.nil _ _ _ _, Nat.le_refl _, hb⟩
theorem owns_cap {w : World} {base e size n c : Nat} {a : Option Addr} {xs : List Value} (h : w.ownsRow base e size (.slice a n c) n xs) : n ≤ c := by
  rcases h.2 with ⟨hv, h0⟩ | ⟨g, cap, cur, hv, _, _, hc, _⟩
  · omega
  · simp only [Value.slice.injEq] at hv
    obtain ⟨-, -, rfl⟩ := hv
    exact hc

set_option maxHeartbeats 4000000 in
set_option maxRecDepth 100000 in
theorem recHashesOf (v : JV) (x : Value) (w : World) (hN : v.wt ≤ 4294967296) (hR : Rep w 0 w.heap.size v x) : Calls Tryz.prog 64 #[x] w (HashOfPost v w) := by
  obtain ⟨an, cn, ai, ci, hx, hcn, hci, h3, h4⟩ := hR.parts
  subst hx
  obtain ⟨W2, hW2⟩ : ∃ W2, W2 = w.alloc (.cells #[.int .u8 v.kind, .int .i64 v.n, .string v.t, .slice an v.names.length cn, .slice ai v.items.length ci] 30) := ⟨_, rfl⟩
  have hb2 : Below w.heap.size w W2 := by rw [hW2]; exact (Below.refl _ _).alloc (Nat.le_refl _) _
  have hx0 : W2.heap[w.heap.size]? = some (.cells #[.int .u8 v.kind, .int .i64 v.n, .string v.t, .slice an v.names.length cn, .slice ai v.items.length ci] 30 (0, 0)) := by rw [hW2]; exact heap_alloc_new w _
  have HM := Lib.hid (valueMay v _ W2 hN (hR.below hb2 (Nat.le_refl _) (Nat.zero_le _) hb2.size))
  have HC := Lib.hid (show ∀ w' : World, Below W2.heap.size W2 w' → w'.cell? ⟨w.heap.size, 0, none⟩ = some (.int .u8 v.kind) ∧ w'.cell? ⟨w.heap.size, 1, none⟩ = some (.int .i64 v.n) ∧ w'.cell? ⟨w.heap.size, 2, none⟩ = some (.string v.t) ∧ w'.cell? ⟨w.heap.size, 3, none⟩ = some (.slice an v.names.length cn) ∧ w'.cell? ⟨w.heap.size, 4, none⟩ = some (.slice ai v.items.length ci) from fun w' h => by
    have x := (h.block _ (heap_lt hx0)).trans hx0
    exact ⟨box_cell x rfl, box_cell x rfl, box_cell x rfl, box_cell x rfl, box_cell x rfl⟩)
  have HST := Lib.hid (show ∀ w' : World, Below W2.heap.size W2 w' → StrsAt w' 0 w'.heap.size an v.names ∧ ValsAt w' 0 w'.heap.size ai v.items from fun w' h => ⟨h3.below (hb2.trans (h.mono hb2.size)) (Nat.le_refl _) (Nat.zero_le _) (Nat.le_trans hb2.size h.size), h4.below (hb2.trans (h.mono hb2.size)) (Nat.le_refl _) (Nat.zero_le _) (Nat.le_trans hb2.size h.size)⟩)
  have HB2 := Lib.hid hb2
  have HW := Lib.hid hW2
  have HZ2 := Lib.hid (show w.heap.size < W2.heap.size from heap_lt hx0)
  clear h3 h4 hR hW2 hb2 hx0
  obtain ⟨c0, c1, c2, c3, c4⟩ := HC.out W2 (Below.refl _ _)
  go_enter Tryz.func64, Tryz.ntmps64
  go_upto_region 1 with fail
  rw [← HW.out]
  cases hm : v.mayB with
  | false =>
    have HX := Lib.hid (show hashesOfJ v = ([], 3) by unfold hashesOfJ; rw [if_pos hm])
    rw [hm] at HM
    clear hm
    go_wp2_with fail
    refine HM.out.mono ?_
    clear HM c0 c1 c2 c3 c4
    rintro r w1 ⟨rfl, hb1⟩
    have HB1 := Lib.hid (HB2.out.trans (hb1.mono HB2.out.size))
    clear hb1
    go_wp2
    go_ret2
    exact hashOf_no HX.out HB1.out
  | true =>
    have HMB := Lib.hid hm
    rw [hm] at HM
    clear hm
    go_wp2_with fail
    refine HM.out.mono ?_
    clear HM c0 c1 c2 c3 c4
    rintro r w1 ⟨rfl, hb1⟩
    have HB1 := Lib.hid hb1
    obtain ⟨c0, c1, c2, c3, c4⟩ := HC.out w1 hb1
    clear hb1
    by_cases hk : v.kind = 5
    case neg =>
      have hd : ((v.kind : Int) != 5) = true := bne_iff_ne.2 hk
      have HX := Lib.hid (show hashesOfJ v = ([], 10) by unfold hashesOfJ; rw [if_neg (by rw [HMB.out]; decide), if_pos hk])
      clear hk
      go_wp2
      go_ret2
      exact hashOf_no HX.out (HB2.out.trans (HB1.out.mono HB2.out.size))
    have hd : ((v.kind : Int) != 5) = false := by rw [hk]; rfl
    obtain ⟨hri, hle, htx⟩ := may_obj HMB.out hk
    have HTS := Lib.hid (show ∀ i (h : i < v.names.length), v.names[i].size ≤ 4294967296 from fun i hi => by
      have := List.all_eq_true.1 htx _ (List.getElem_mem hi)
      unfold txtOk at this; simp at this; omega)
    have HK := Lib.hid hk
    have HLE := Lib.hid hle
    clear hri htx hk hle
    by_cases h4 : 4 < v.names.length
    · have hd2 : decide ((4 : Int) < v.names.length) = true := by simp; omega
      have HX := Lib.hid (show hashesOfJ v = ([], 5) by unfold hashesOfJ; rw [if_neg (by rw [HMB.out]; decide), if_neg (by rw [HK.out]; decide), if_pos h4])
      go_wp2
      go_ret2
      exact hashOf_no HX.out (HB2.out.trans (HB1.out.mono HB2.out.size))
    have hd2 : decide ((4 : Int) < v.names.length) = false := by simp; omega
    by_cases h0 : v.names.length = 0
    · have hd3 : ((v.names.length : Int) == 0) = true := by rw [h0]; rfl
      have HX := Lib.hid (show hashesOfJ v = ([], 4) by unfold hashesOfJ; rw [if_neg (by rw [HMB.out]; decide), if_neg (by rw [HK.out]; decide), if_neg h4, if_pos h0])
      go_wp2
      go_ret2
      exact hashOf_no HX.out (HB2.out.trans (HB1.out.mono HB2.out.size))
    have hd3 : ((v.names.length : Int) == 0) = false := beq_eq_false_iff_ne.2 (by omega)
    have HX := Lib.hid (show hashesOfJ v = hashLoop v.names v.items [] by unfold hashesOfJ; rw [if_neg (by rw [HMB.out]; decide), if_neg (by rw [HK.out]; decide), if_neg h4, if_neg h0])
    obtain ⟨i1, hi1, hy0, hy1, hy2⟩ := info_parts infoHash
    have h1z : W2.heap.size ≤ w1.heap.size := HB1.out.size
    go_upto_region 11 with (at_make; refine wpList_make_own _ rfl (.const (.int .i64 0)) (.tmp 24) 34 rfl W2.heap.size 62 i1 _ 2 Tryz.underlying34 hi1 hy0 hy1 .i64 .i64 _ v.names.length rfl rfl rfl (by rw [hy2]; omega) (by unfold maxLen; omega) h1z ?_; intro w4 hown4 hgrow4; have HO4 := Lib.hid hown4; have HB4 := Lib.hid (below_grown (v := .slice none 0 0) HB1.out h1z hgrow4 (fun b hb => by cases hb)); obtain ⟨c0, c1, c2, c3, c4⟩ := HC.out w4 HB4.out; clear hown4 hgrow4)
    clear c0 c1 c2 c3 c4 hd hd2 hd3
    obtain ⟨nn, hnn⟩ : ∃ nn, nn = v.names.length := ⟨_, rfl⟩
    rw [← hnn] at HO4 ⊢
    have HNN := Lib.hid hnn
    have hn0 : 0 < nn := by omega
    have hn4 : nn ≤ 4 := by omega
    clear hnn h0 h4
    go_loopw [4, 5, 6, 7, 29] (fun s4 _ _ _ i wr => ∃ (k : Nat) (acc : List Key2), k ≤ nn ∧ i = .int .i64 k ∧ acc.length = k ∧ hashesOfJ v = hashLoop (v.names.drop k) (v.items.drop k) acc ∧ (∃ g cap, s4 = .slice (some ⟨g, 0, none⟩) k cap) ∧ wr.ownsRow W2.heap.size 62 2 s4 k (acc.flatMap encK) ∧ Below W2.heap.size W2 wr) (fun _ _ _ _ i _ => nn - (intOf i).toNat)
    case atStart => exact ⟨0, [], by omega, rfl, rfl, HX.out, ⟨_, _, rfl⟩, HO4.out, HB4.out⟩
    case round =>
      obtain ⟨k, acc, hk, rfl, hacc, hh, hsl, hown, hb⟩ := hrel
      have HB := Lib.hid hb
      have HH := Lib.hid hh
      have HOW := Lib.hid hown
      have HAC := Lib.hid hacc
      obtain ⟨g0, cap0, rfl⟩ := hsl
      clear HO4 HB4 HB1 h1z hh hown hacc
      obtain ⟨c0, c1, c2, c3, c4⟩ := HC.out wr hb
      by_cases hlt : k < nn
      · have hst := HST.out wr hb
        have hkn : k < v.names.length := by have := HNN.out; omega
        have hki : k < v.items.length := by have := HLE.out; have := HNN.out; omega
        have hs2k : ∃ b2 o2, an = some ⟨b2, o2, none⟩ ∧ b2 < wr.heap.size ∧ wr.cell? ⟨b2, o2 + k, none⟩ = some (.string v.names[k]) := by
          rcases hst.1 with h | ⟨b, off, ha, _, hb', hc⟩
          · have := congrArg List.length h; rw [List.length_nil] at this; omega
          · exact ⟨b, off, ha, hb', hc k hkn⟩
        have hs3k : ∃ b3 o3 an3 cn3 ai3 ci3, ai = some ⟨b3, o3, none⟩ ∧ b3 < wr.heap.size ∧ wr.cell? ⟨b3, o3 + k * 5, none⟩ = some (.int .u8 v.items[k].kind) ∧ wr.cell? ⟨b3, o3 + k * 5 + 1, none⟩ = some (.int .i64 v.items[k].n) ∧ wr.cell? ⟨b3, o3 + k * 5 + 2, none⟩ = some (.string v.items[k].t) ∧ wr.cell? ⟨b3, o3 + k * 5 + 3, none⟩ = some (.slice an3 v.items[k].names.length cn3) ∧ wr.cell? ⟨b3, o3 + k * 5 + 4, none⟩ = some (.slice ai3 v.items[k].items.length ci3) := by
          rcases hst.2 with h | ⟨b, off, ha, _, hb', _, hr⟩
          · have := congrArg List.length h; rw [List.length_nil] at this; omega
          · obtain ⟨x0, x1, x2, x3, x4, m0, m1, m2, m3, m4, _, hR⟩ := hr.at k hki
            obtain ⟨an3, cn3, ai3, ci3, hx, _, _, _, _⟩ := hR.parts
            simp only [Value.agg.injEq, Array.mk.injEq, List.cons.injEq, and_true] at hx
            obtain ⟨rfl, rfl, rfl, rfl, rfl⟩ := hx
            exact ⟨b, off, an3, cn3, ai3, ci3, ha, hb', m0, m1, m2, m3, m4⟩
        obtain ⟨b2, o2, rfl, hb2', n0⟩ := hs2k
        obtain ⟨b3, o3, an3, cn3, ai3, ci3, rfl, hb3', m0, m1, m2, m3, m4⟩ := hs3k
        have HSTEP := Lib.hid (HH.out.trans (hashLoop_at k hkn hki))
        have HNS := Lib.hid (HTS.out k hkn)
        have HIT := Lib.hid (show v.items[k].t.size ≤ 4294967296 by
          have h1 := wts_item v.items k hki
          have h2 := v.wt_bd
          have h3 := v.items[k].wt_bd
          omega)
        obtain ⟨nm, hnm⟩ : ∃ nm, nm = v.names[k]'hkn := ⟨_, rfl⟩
        obtain ⟨it, hit⟩ : ∃ it, it = v.items[k]'hki := ⟨_, rfl⟩
        rw [← hnm] at n0 HSTEP HNS
        rw [← hit] at m0 m1 m2 m3 m4 HSTEP HIT
        have HNR := Lib.hid (fun w' => nameRole nm w' (Nat.le_trans HNS.out (by decide)))
        have HDG := Lib.hid (fun w' => recDigits it.t w' (Nat.le_trans HIT.out (by decide)))
        clear hnm hit hst hb hkn
        cases hro : roleOk nm.data.toList with
        | false =>
          have HF := Lib.hid (show hashesOfJ v = ([], 3) by rw [HSTEP.out, if_pos hro])
          rw [hro] at HNR
          clear hro
          go_wp2_with fail
          refine (HNR.out wr).mono ?_
          rintro r w5 ⟨rfl, rfl⟩
          go_wp2
          go_ret2
          exact hashOf_no HF.out (HB2.out.trans (HB.out.mono HB2.out.size))
        | true =>
        have HRO := Lib.hid hro
        rw [hro] at HNR
        clear hro
        go_wp2_with fail
        refine (HNR.out wr).mono ?_
        rintro r w5 ⟨rfl, rfl⟩
        go_upto_region 16 with fail
        obtain ⟨W6, hW6⟩ : ∃ W6, W6 = wr.alloc (.cells #[.int .u8 it.kind, .int .i64 it.n, .string it.t, .slice an3 it.names.length cn3, .slice ai3 it.items.length ci3] 30) := ⟨_, rfl⟩
        have hb6 : Below wr.heap.size wr W6 := by rw [hW6]; exact (Below.refl _ _).alloc (Nat.le_refl _) _
        have hx6 : W6.heap[wr.heap.size]? = some (.cells #[.int .u8 it.kind, .int .i64 it.n, .string it.t, .slice an3 it.names.length cn3, .slice ai3 it.items.length ci3] 30 (0, 0)) := by rw [hW6]; exact heap_alloc_new wr _
        have y0 : W6.cell? ⟨wr.heap.size, 0, none⟩ = some (.int .u8 it.kind) := box_cell hx6 rfl
        have y2 : W6.cell? ⟨wr.heap.size, 2, none⟩ = some (.string it.t) := box_cell hx6 rfl
        have HB6 := Lib.hid (HB.out.trans (hb6.mono HB.out.size))
        have HO6 := Lib.hid (owns_below HOW.out hb6)
        rw [← hW6]
        clear hW6 hx6 hb6 m0 m1 m2 m3 m4 n0 c0 c1 c2 c3 c4
        by_cases hik : it.kind = 3
        case neg =>
          have hd : ((it.kind : Int) != 3) = true := bne_iff_ne.2 hik
          have HF := Lib.hid (show hashesOfJ v = ([], 10) by rw [HSTEP.out, if_neg (by rw [HRO.out]; decide), if_pos hik])
          clear hik
          go_wp2
          go_ret2
          exact hashOf_no HF.out (HB2.out.trans (HB6.out.mono HB2.out.size))
        have hd : ((it.kind : Int) != 3) = false := by rw [hik]; rfl
        have HIK := Lib.hid hik
        clear hik
        cases hpo : pubOk it.t.data.toList with
        | false =>
          have HF := Lib.hid (show hashesOfJ v = ([], 3) by rw [HSTEP.out, if_neg (by rw [HRO.out]; decide), if_neg (by rw [HIK.out]; decide), if_pos hpo])
          rw [hpo] at HDG
          clear hpo
          go_wp2_with fail
          refine (HDG.out W6).mono ?_
          rintro r w7 ⟨rfl, rfl⟩
          go_wp2
          go_ret2
          exact hashOf_no HF.out (HB2.out.trans (HB6.out.mono HB2.out.size))
        | true =>
        have HF := Lib.hid (show hashesOfJ v = hashLoop (v.names.drop (k + 1)) (v.items.drop (k + 1)) (acc ++ [(nm, it.t)]) by rw [HSTEP.out, if_neg (by rw [HRO.out]; decide), if_neg (by rw [HIK.out]; decide), if_neg (by rw [hpo]; decide)])
        rw [hpo] at HDG
        clear hpo
        go_wp2_with fail
        refine (HDG.out W6).mono ?_
        rintro r w7 ⟨rfl, rfl⟩
        have h6z : W2.heap.size ≤ W6.heap.size := HB6.out.size
        have hbe : Below W6.heap.size W6 (W6.alloc (.cells #[.string nm, .string it.t] 62)) := (Below.refl _ _).alloc (Nat.le_refl _) _
        have HO7 := Lib.hid (owns_below HO6.out hbe)
        have HB7 := Lib.hid (HB6.out.trans (hbe.mono h6z))
        have h7z : W2.heap.size ≤ (W6.alloc (.cells #[.string nm, .string it.t] 62)).heap.size := HB7.out.size
        clear hbe
        go_wp2_with (at_builtin; refine wpList_append_lies _ rfl (.tmp 49) (.tmp 54) 34 rfl W2.heap.size 62 i1 _ 2 32 Tryz.underlying34 hi1 hy0 hy1 hy2 rfl (by omega) (.slice (some ⟨g0, 0, none⟩) k cap0) k (acc.flatMap encK) rfl HO7.out ⟨W6.heap.size, 0, none⟩ 1 1 (encK (nm, it.t)) rfl rfl (World.news_of_block (cs := #[.string nm, .string it.t]) (t := 62) (fr := (0, 0)) (heap_alloc_new W6 _)) (fun u hu => by simp [encK] at hu; rcases hu with rfl | rfl <;> rfl) (by omega) (by unfold maxLen; omega) (by omega) h7z _ rfl ?_; intro g2 cap3 w8 hown8 hgrow8 hat8 hlt8; have HO8 := Lib.hid hown8; have HB8 := Lib.hid (below_grown HB7.out h7z hgrow8 (fun b hb => (HO7.out.lt b hb).1)); clear hown8 hgrow8 hat8)
        go_roundw
        case rel => exact ⟨k + 1, acc ++ [(nm, it.t)], by omega, by go_num, by rw [List.length_append, HAC.out]; rfl, HF.out, ⟨g2, cap3, rfl⟩, by rw [List.flatMap_append]; simpa using HO8.out, HB8.out⟩
        case measure => simp [intOf]; omega
      · have hkk : v.names.length ≤ k := by have := HNN.out; omega
        have HE := Lib.hid (HH.out.trans (hashLoop_end k hkk))
        have HKA := Lib.hid (owns_keysW HOW.out HAC.out.symm)
        have hkn : k = nn := by omega
        subst hkn
        clear hb
        go_wp2
        go_ret2
        obtain ⟨z, zc, hz, hzk⟩ := HKA.out
        show HashOfPost v w (.returned (.tuple #[.slice (some ⟨g0, 0, none⟩) k cap0, .int .i64 0])) wr
        unfold HashOfPost
        rw [HE.out]
        have hcap := owns_cap HOW.out
        simp only [Value.slice.injEq] at hz
        obtain ⟨rfl, hz2, rfl⟩ := hz
        exact ⟨_, _, by rw [← hz2], hzk.carry (Nat.le_of_lt HZ2.out) (Nat.le_refl _) (fun _ _ _ => rfl), by rw [← hz2]; exact hcap, HB2.out.trans (HB.out.mono HB2.out.size)⟩
end Go.Proofs.YtgghgcilpfdbjaaGreatDoor

namespace Go.Proofs.YtgghgcilpfdbjaaGreatDoor
open Go.RowKit

/-- What pick.Of makes: a picker of a value that C admits. -/
def OfCPost (C : JV → Prop) (w : World) (e : Ending) (w' : World) : Prop := ∃ u, C u ∧ OfPost u w e w'
def PinOfPost (C : JV → Prop) (f : ByteArray) (v : JV) (w : World) (e : Ending) (w' : World) : Prop :=
  ∃ r ha hc, PinOfR C f v r ∧ e = .returned (.tuple #[.agg #[.string r.1.name, .int .i64 r.1.ver, .int .i64 r.1.len, .slice ha r.1.hs.length hc], .int .i64 r.2]) ∧ KeysW w' w.heap.size w'.heap.size ha r.1.hs ∧ r.1.hs.length ≤ hc ∧ Below w.heap.size w w'
theorem keys_off {W : World} {lo hi b : Nat} {a : Option Addr} {l : List Key2} {v0 v1 v2 v3 : Value} (h : KeysW W lo hi a l) (hb : b < lo) {lo' : Nat} (hl : lo' ≤ lo) : KeysW ((((W.setCell ⟨b, 0, none⟩ v0).setCell ⟨b, 1, none⟩ v1).setCell ⟨b, 2, none⟩ v2).setCell ⟨b, 3, none⟩ v3) lo' hi a l :=
  h.carry hl (Nat.le_refl _) fun k h1 _ => by
    have hn : k ≠ b := by omega
    rw [Below.heap_setCell _ _ _ _ hn, Below.heap_setCell _ _ _ _ hn, Below.heap_setCell _ _ _ _ hn, Below.heap_setCell _ _ _ _ hn]

set_option maxHeartbeats 4000000 in
set_option maxRecDepth 100000 in
theorem snapPinOfG (C : JV → Prop) (f : ByteArray) (v : JV) (x : Value) (w : World) (hN : v.wt ≤ 4294967296) (hR : Rep w 0 w.heap.size v x) (hk : v.kind = 5) (hf : f.size ≤ 9223372036854775807) (hOf : v.mayB = true → ∀ w1, Below w.heap.size w w1 → Calls Tryz.prog 61 #[x] w1 (OfCPost C w1)) :
    Calls Tryz.prog 29 #[.string f, x] w (PinOfPost C f v w) := by
  obtain ⟨an, cn, ai, ci, hx, h1, h2, h3, h4⟩ := hR.parts
  clear h1 h2 h3 h4
  subst hx
  obtain ⟨W2, hW2⟩ : ∃ W2, W2 = (w.alloc (.cells #[.int .u8 v.kind, .int .i64 v.n, .string v.t, .slice an v.names.length cn, .slice ai v.items.length ci] 30)).alloc (.cells #[.string { data := #[] }, .int .i64 0, .int .i64 0, .slice none 0 0] 36) := ⟨_, rfl⟩
  have hz1 : (w.alloc (.cells #[.int .u8 v.kind, .int .i64 v.n, .string v.t, .slice an v.names.length cn, .slice ai v.items.length ci] 30)).heap.size = w.heap.size + 1 := by simp
  have hz2 : W2.heap.size = w.heap.size + 2 := by rw [hW2]; simp
  have hb2 : Below w.heap.size w W2 := by rw [hW2]; exact ((Below.refl _ _).alloc (Nat.le_refl _) _).alloc (by simp) _
  have hx0 : W2.heap[w.heap.size]? = some (.cells #[.int .u8 v.kind, .int .i64 v.n, .string v.t, .slice an v.names.length cn, .slice ai v.items.length ci] 30 (0, 0)) := by rw [hW2, Below.heap_alloc _ _ _ (by simp)]; exact heap_alloc_new w _
  have hr0 : W2.rowIs (w.heap.size + 1) 36 4 (pick4 (.string { data := #[] }) (.int .i64 0) (.int .i64 0) (.slice none 0 0)) := by
    have := rowIs_box4 (w.alloc (.cells #[.int .u8 v.kind, .int .i64 v.n, .string v.t, .slice an v.names.length cn, .slice ai v.items.length ci] 30)) (.string { data := #[] }) (.int .i64 0) (.int .i64 0) (.slice none 0 0) 36
    rw [hz1, ← hW2] at this
    exact this
  have HRN := Lib.hid (nameRoleOf f W2 hf)
  have HM := Lib.hid (valueMay v _ W2 hN (hR.below hb2 (Nat.le_refl _) (Nat.zero_le _) hb2.size))
  have HOF := Lib.hid hOf
  have HW := Lib.hid hW2
  have HB2 := Lib.hid hb2
  have HX0 := Lib.hid hx0
  have HR0 := Lib.hid hr0
  have HZ := Lib.hid hz2
  have HK := Lib.hid hk
  clear hR hW2 hb2 hx0 hr0 hz1 hz2 hOf
  have c0 : W2.cell? ⟨w.heap.size, 0, none⟩ = some (.int .u8 v.kind) := box_cell HX0.out rfl
  have c1 : W2.cell? ⟨w.heap.size, 1, none⟩ = some (.int .i64 v.n) := box_cell HX0.out rfl
  have c2 : W2.cell? ⟨w.heap.size, 2, none⟩ = some (.string v.t) := box_cell HX0.out rfl
  have c3 : W2.cell? ⟨w.heap.size, 3, none⟩ = some (.slice an v.names.length cn) := box_cell HX0.out rfl
  have c4 : W2.cell? ⟨w.heap.size, 4, none⟩ = some (.slice ai v.items.length ci) := box_cell HX0.out rfl
  by_cases hre : roleErr f = 0
  · have HRE := Lib.hid (roleErr_0 hre)
    rw [hre] at HRN
    clear hre
    cases hm : v.mayB
    · have HX := Lib.hid (show PinOfR C f v (pinZ, 3) from .inl ⟨by rw [HRE.out, hm]; rfl, rfl⟩)
      rw [hm] at HM
      clear hm hk
      go_enter Tryz.func29, Tryz.ntmps29
      go_upto_region 1 with fail
      rw [← HW.out]
      go_wp2_with fail
      refine HRN.out.mono ?_
      rintro e w' ⟨rfl, h'⟩
      subst h'
      go_wp2_with fail
      refine HM.out.mono ?_
      rintro e w1 ⟨rfl, hb1⟩
      have hr := below_row hb1 HR0.out HR0.out.lt
      have HBE := Lib.hid (HB2.out.trans (hb1.mono HB2.out.size))
      have t0 := hr.cell (i := 0) (by decide); have t1 := hr.cell (i := 1) (by decide); have t2 := hr.cell (i := 2) (by decide); have t3 := hr.cell (i := 3) (by decide); have s0 := hr.frozen 0; have s1 := hr.frozen 1; have s2 := hr.frozen 2; have s3 := hr.frozen 3
      simp only [pick4] at t0 t1 t2 t3
      have HRS := Lib.hid hr
      clear hr hb1
      go_wp2
      refine bodyPost_ret (results_row_tmp Tryz.results29 _ _ (w.heap.size + 1) 36 _ (0, 0) _ rfl (row4_heap (set4 _ _ _ _ HRS.out)) Tryz.underlying36 rfl (by kernel_rfl) _ rfl) rfl ⟨(pinZ, 3), none, 0, HX.out, rfl, KeysW.nil _ _ _ _, Nat.le_refl _, below4 _ _ _ _ HBE.out (by omega)⟩
    · have HMB := Lib.hid hm
      rw [hm] at HM
      clear hm hk
      go_enter Tryz.func29, Tryz.ntmps29
      go_upto_region 1 with fail
      rw [← HW.out]
      go_wp2_with fail
      refine HRN.out.mono ?_
      rintro e w' ⟨rfl, h'⟩
      subst h'
      go_wp2_with fail
      refine HM.out.mono ?_
      clear HM c0 c1 c2 c3 c4
      rintro e w1 ⟨rfl, hb1⟩
      have hx1 := (hb1.block _ (heap_lt HX0.out)).trans HX0.out
      have HB1 := Lib.hid (HB2.out.trans (hb1.mono HB2.out.size))
      have HR1 := Lib.hid (below_row hb1 HR0.out HR0.out.lt)
      have HZ1 := Lib.hid (show w.heap.size + 2 ≤ w1.heap.size from by have := hb1.size; have := HZ.out; omega)
      have c0 : w1.cell? ⟨w.heap.size, 0, none⟩ = some (.int .u8 v.kind) := box_cell hx1 rfl
      have c1 : w1.cell? ⟨w.heap.size, 1, none⟩ = some (.int .i64 v.n) := box_cell hx1 rfl
      have c2 : w1.cell? ⟨w.heap.size, 2, none⟩ = some (.string v.t) := box_cell hx1 rfl
      have c3 : w1.cell? ⟨w.heap.size, 3, none⟩ = some (.slice an v.names.length cn) := box_cell hx1 rfl
      have c4 : w1.cell? ⟨w.heap.size, 4, none⟩ = some (.slice ai v.items.length ci) := box_cell hx1 rfl
      have HOF1 := Lib.hid (HOF.out HMB.out w1 HB1.out)
      clear hb1 hx1
      go_wp2_with fail
      refine HOF1.out.mono ?_
      clear HOF HOF1 c0 c1 c2 c3 c4
      rintro e w2 ⟨u, hC, o, m, lo2, hi2, an2, ai2, cn2, ci2, rfl, hp2, ho2, hm2, hb2⟩
      have HU := Lib.hid (show ∀ r, pinOfK f u = r → PinOfR C f v r from fun r h => .inr ⟨by rw [HRE.out, HMB.out]; rfl, u, hC, h.symm⟩)
      have HTS := Lib.hid (names_wt hp2.wt)
      have HUW := Lib.hid hp2.wt
      clear hC
      obtain ⟨A, hA⟩ : ∃ A, A = pickNum u verN 1 1099511627776 ⟨[], 0⟩ := ⟨_, rfl⟩
      have HA := Lib.hid hA
      have HAS := Lib.hid (show A.2.asked.length ≤ 1 by rw [hA]; exact num_size)
      clear hA
      obtain ⟨W3, hW3⟩ : ∃ W3, W3 = w2.alloc (.cells #[.string f, .int .i64 0, .int .i64 (-1), .slice none 0 0] 36) := ⟨_, rfl⟩
      have hb3 : Below w2.heap.size w2 W3 := by rw [hW3]; exact (Below.refl _ _).alloc (Nat.le_refl _) _
      have hq3 : W3.rowIs w2.heap.size 36 4 (pick4 (.string f) (.int .i64 0) (.int .i64 (-1)) (.slice none 0 0)) := by rw [hW3]; exact rowIs_box4 _ _ _ _ _ _
      have hoz : o < w2.heap.size := heap_lt hp2.obj
      have hmz : m < w2.heap.size := by obtain ⟨D, n, h, _⟩ := hp2.map; exact h.lt
      have HO := Lib.hid (And.intro (show o < w2.heap.size ∧ m < w2.heap.size ∧ hi2 ≤ w2.heap.size from ⟨hoz, hmz, hp2.le⟩) (show w1.heap.size ≤ o ∧ w1.heap.size ≤ m from ⟨ho2, hm2⟩))
      have HP3 := Lib.hid (hp2.below hb3)
      have HR3 := Lib.hid (below_row (hb2.trans (hb3.mono hb2.size)) HR1.out HR1.out.lt)
      have HB3 := Lib.hid (HB1.out.trans ((hb2.trans (hb3.mono hb2.size)).mono (by have := HZ1.out; omega)))
      have HQ3 := Lib.hid hq3
      have HW3 := Lib.hid hW3
      have HZ3 := Lib.hid (show w2.heap.size < W3.heap.size ∧ w1.heap.size ≤ w2.heap.size from ⟨hq3.lt, hb2.size⟩)
      have HN3 := Lib.hid (pickNumF o m lo2 hi2 u an2 ai2 cn2 ci2 verN 1 1099511627776 ⟨[], 0⟩ W3 HP3.out (by decide) (by simp) (by have := HO.out; have := HZ3.out; omega) (by have := HO.out; have := HZ3.out; omega))
      clear hp2 ho2 hm2 hb2 hW3 hb3 hq3 hoz hmz HR1 HB1
      go_upto_region 6 with fail
      rw [← HW3.out]
      go_wp2_with fail
      refine HN3.out.mono ?_
      clear HN3
      rintro e w3 ⟨rfl, hp3, ht3⟩
      rw [← HA.out] at hp3 ⊢
      have hr3 := ht3.row HR3.out (by have := HO.out; have := HZ1.out; omega)
      have hq3 := ht3.row HQ3.out (by have := HO.out; omega)
      have HB4 := Lib.hid (HB3.out.trans (ht3.below (by have := HZ1.out; have := HZ3.out; omega) (fun k hk e => by have := HO.out; have := HZ1.out; omega)))
      obtain ⟨W4, hW4⟩ : ∃ W4, W4 = w3.setCell ⟨w2.heap.size, 1, none⟩ (.int .i64 A.1) := ⟨_, rfl⟩
      have ht4 : Touch (fun b => b = w2.heap.size) w3 W4 := by rw [hW4]; exact touch_put _
      have hp4 := hp3.touch ht4 (by have := HO.out; omega) (by have := HO.out; omega) HO.out.1.2.2
      have hr4 := ht4.row hr3 (by have := HZ1.out; have := HZ3.out; omega)
      have hq4 : W4.rowIs w2.heap.size 36 4 (pick4 (.string f) (.int .i64 A.1) (.int .i64 (-1)) (.slice none 0 0)) := by
        rw [hW4]
        refine (hq3.set 1 (.int .i64 A.1)).congr fun j hj => ?_
        rcases j with _ | _ | _ | _ | j <;> first | rfl | omega
      have u1 := hq3.cell (i := 1) (by decide)
      have f1 := hq3.frozen 1
      simp only [pick4] at u1
      have HPa := Lib.hid hp4
      have HRa := Lib.hid hr4
      have HQa := Lib.hid hq4
      have HBa := Lib.hid (show Below w.heap.size w W4 from by rw [hW4]; exact HB4.out.setCell (by show w.heap.size ≤ w2.heap.size; have := HZ1.out; have := HZ3.out; omega) _)
      have HW4 := Lib.hid hW4
      have HZ4 := Lib.hid (show w2.heap.size < W4.heap.size from hq4.lt)
      clear hp3 ht3 hr3 hq3 ht4 hp4 hr4 hq4 hW4 HP3 HR3 HB3 HQ3
      go_upto_region 7 with fail
      rw [← HW4.out]
      clear u1 f1
      have HHL := Lib.hid (pickHasF o m lo2 hi2 u an2 ai2 cn2 ci2 lenN A.2 W4 HPa.out)
      cases hl : pickHas u lenN A.2
      · have HS0 := Lib.hid (show pinOfK f u = if pickDone u (hasSt u A.2).2 ≠ 0 then (pinZ, pickDone u (hasSt u A.2).2) else (⟨f, A.1, -1, (hasSt u A.2).1⟩, 0) by rw [pinOfK_eq, ← HA.out, show lenSt u A.2 = (-1, A.2) by unfold lenSt; rw [hl]; rfl])
        rw [hl] at HHL
        clear hl
        go_wp2_with fail
        refine HHL.out.mono ?_
        clear HHL
        rintro e wa ⟨rfl, hb⟩
        replace HPa := Lib.hid (HPa.out.below hb)
        replace HRa := Lib.hid (below_row hb HRa.out HRa.out.lt)
        replace HQa := Lib.hid (below_row hb HQa.out HQa.out.lt)
        replace HBa := Lib.hid (HBa.out.trans (hb.mono HBa.out.size))
        clear hb
        obtain ⟨ST, hST⟩ : ∃ ST, ST = A.2 := ⟨_, rfl⟩
        rw [← hST] at HPa HS0 HAS
        clear hST
        have HS := HS0
        have HSZ := Lib.hid (show ST.asked.length ≤ 2 by have := HAS.out; omega)
        have HHS := Lib.hid (pickHasF o m lo2 hi2 u an2 ai2 cn2 ci2 hasN ST wa HPa.out)
        cases hh : pickHas u hasN ST
        · have HX := Lib.hid (show pinOfK f u = if pickDone u ST ≠ 0 then (pinZ, pickDone u ST) else (⟨f, A.1, (-1), []⟩, 0) by have h := HS.out; unfold hasSt at h; rw [hh] at h; exact h)
          rw [hh] at HHS
          clear hh
          go_wp2_with fail
          refine HHS.out.mono ?_
          clear HHS
          rintro e wb ⟨rfl, hb⟩
          have HDO := Lib.hid (pickDoneF o m lo2 hi2 u an2 ai2 cn2 ci2 ST wb (HPa.out.below hb) HTS.out)
          have HRb := Lib.hid (below_row hb HRa.out HRa.out.lt)
          have HQb := Lib.hid (below_row hb HQa.out HQa.out.lt)
          have HBE := Lib.hid (HBa.out.trans (hb.mono HBa.out.size))
          clear hb
          obtain ⟨dn, hdn⟩ : ∃ dn, dn = pickDone u ST := ⟨_, rfl⟩
          rw [← hdn] at HDO HX
          clear hdn
          go_wp2_with fail
          refine HDO.out.mono ?_
          clear HDO
          rintro e w' ⟨rfl, h'⟩
          subst h'
          by_cases hd : dn = 0
          · have HR := Lib.hid (HU.out _ (show pinOfK f u = (⟨f, A.1, (-1), []⟩, 0) by rw [HX.out, hd]; rfl))
            subst hd
            have hr := HRb.out; have hq := HQb.out
            have t0 := hr.cell (i := 0) (by decide); have t1 := hr.cell (i := 1) (by decide); have t2 := hr.cell (i := 2) (by decide); have t3 := hr.cell (i := 3) (by decide); have s0 := hr.frozen 0; have s1 := hr.frozen 1; have s2 := hr.frozen 2; have s3 := hr.frozen 3; have z0 := hq.cell (i := 0) (by decide); have z1 := hq.cell (i := 1) (by decide); have z2 := hq.cell (i := 2) (by decide); have z3 := hq.cell (i := 3) (by decide)
            simp only [pick4] at t0 t1 t2 t3 z0 z1 z2 z3
            have HRS := Lib.hid hr
            clear hr hq
            go_wp2
            refine bodyPost_ret (results_row_tmp Tryz.results29 _ _ (w.heap.size + 1) 36 _ (0, 0) _ rfl (row4_heap (set4 _ _ _ _ HRS.out)) Tryz.underlying36 rfl (by kernel_rfl) _ rfl) rfl ⟨_, none, 0, HR.out, rfl, KeysW.nil _ _ _ _, Nat.le_refl _, below4 _ _ _ _ HBE.out (by omega)⟩
          · have HR := Lib.hid (HU.out _ (show pinOfK f u = (pinZ, dn) by rw [HX.out]; simp [hd]))
            have hd1 : (dn == 0) = false := by simpa using hd
            have hd2 : (dn != 0) = true := by simpa using hd
            clear hd
            have hr := HRb.out
            have t0 := hr.cell (i := 0) (by decide); have t1 := hr.cell (i := 1) (by decide); have t2 := hr.cell (i := 2) (by decide); have t3 := hr.cell (i := 3) (by decide); have s0 := hr.frozen 0; have s1 := hr.frozen 1; have s2 := hr.frozen 2; have s3 := hr.frozen 3
            simp only [pick4] at t0 t1 t2 t3
            have HRS := Lib.hid hr
            clear hr
            go_wp2
            refine bodyPost_ret (results_row_tmp Tryz.results29 _ _ (w.heap.size + 1) 36 _ (0, 0) _ rfl (row4_heap (set4 _ _ _ _ HRS.out)) Tryz.underlying36 rfl (by kernel_rfl) _ rfl) rfl ⟨(pinZ, dn), none, 0, HR.out, rfl, KeysW.nil _ _ _ _, Nat.le_refl _, below4 _ _ _ _ HBE.out (by omega)⟩
        · have HX0h := Lib.hid (show pinOfK f u = if pickDone u ((pickObj u hasN 4 ST).2.fail (hashesOfJ (pickObj u hasN 4 ST).1).2) ≠ 0 then (pinZ, pickDone u ((pickObj u hasN 4 ST).2.fail (hashesOfJ (pickObj u hasN 4 ST).1).2)) else (⟨f, A.1, (-1), (hashesOfJ (pickObj u hasN 4 ST).1).1⟩, 0) by have h := HS.out; unfold hasSt at h; rw [hh] at h; exact h)
          rw [hh] at HHS
          clear hh
          go_wp2_with fail
          refine HHS.out.mono ?_
          clear HHS
          rintro e wb ⟨rfl, hb⟩
          have HOB := Lib.hid (pickObjF o m lo2 hi2 u an2 ai2 cn2 ci2 hasN 4 ST wb (HPa.out.below hb) (by decide) (by have := HSZ.out; omega))
          have HRb := Lib.hid (below_row hb HRa.out HRa.out.lt)
          have HQb := Lib.hid (below_row hb HQa.out HQa.out.lt)
          have HBb := Lib.hid (HBa.out.trans (hb.mono HBa.out.size))
          have HZb := Lib.hid (show w2.heap.size < wb.heap.size from HQb.out.lt)
          clear hb HPa HRa HQa HBa
          go_wp2_with fail
          refine HOB.out.mono ?_
          clear HOB
          rintro e w6 ⟨⟨an6, cn6, ai6, ci6, rfl, hrep⟩, hp6, ht6⟩
          obtain ⟨M, hM⟩ : ∃ M, M = pickObj u hasN 4 ST := ⟨_, rfl⟩
          have HMW := Lib.hid (show M.1.wt ≤ 4294967296 by rw [hM]; exact pickObj_wt HUW.out)
          rw [← hM] at hp6 hrep HX0h ⊢
          clear hM
          have hr6 := ht6.row HRb.out (by have := HO.out; have := HZ1.out; omega)
          have hq6 := ht6.row HQb.out (by have := HO.out; omega)
          have HB6 := Lib.hid (HBb.out.trans (ht6.below (by have := HZ1.out; have := HZ3.out; have := HZb.out; omega) (fun k hk e => by have := HO.out; have := HZ1.out; omega)))
          have HHO := Lib.hid (recHashesOf M.1 _ w6 HMW.out (hrep.carry (Nat.zero_le _) (Nat.le_refl _) (fun _ _ _ => rfl)))
          have HR6 := Lib.hid hr6
          have HQ6 := Lib.hid hq6
          have HP6 := Lib.hid hp6
          have HZ6 := Lib.hid (show wb.heap.size ≤ w6.heap.size from ht6.size)
          clear hr6 hq6 hp6 ht6 hrep HRb HQb HBb
          go_wp2_with fail
          refine HHO.out.mono ?_
          clear HHO
          rintro e w7 ⟨ah, ch, rfl, hk7, hcp, hb7⟩
          obtain ⟨H, hH⟩ : ∃ H, H = hashesOfJ M.1 := ⟨_, rfl⟩
          rw [← hH] at hk7 hcp HX0h ⊢
          have HCP := Lib.hid hcp
          clear hH hcp
          have HP7 := Lib.hid (HP6.out.below hb7)
          have HR7 := Lib.hid (below_row hb7 HR6.out HR6.out.lt)
          have HQ7 := Lib.hid (below_row hb7 HQ6.out HQ6.out.lt)
          have HB7 := Lib.hid (HB6.out.trans (hb7.mono HB6.out.size))
          have HZ7 := Lib.hid (show w6.heap.size ≤ w7.heap.size from hb7.size)
          have HK7 := Lib.hid hk7
          have HFL := Lib.hid (pickFailG o m lo2 hi2 u an2 ai2 cn2 ci2 H.2 M.2 w7 HP7.out)
          obtain ⟨T, hT⟩ : ∃ T, T = M.2.fail H.2 := ⟨_, rfl⟩
          rw [← hT] at HX0h HFL
          clear hT hk7 hb7 HP6 HR6 HQ6 HB6
          go_wp2_with fail
          refine HFL.out.mono ?_
          clear HFL
          rintro e w8 ⟨rfl, hp8, ht8⟩
          have hr8 := ht8.row HR7.out (by have := HO.out; have := HZ1.out; omega)
          have hq8 := ht8.row HQ7.out (by have := HO.out; omega)
          have HB8 := Lib.hid (HB7.out.trans (ht8.below (by have := HZ1.out; have := HZ3.out; have := HZb.out; have := HZ6.out; have := HZ7.out; omega) (fun k hk e => by have := HO.out; have := HZ1.out; omega)))
          obtain ⟨W9, hW9⟩ : ∃ W9, W9 = w8.setCell ⟨w2.heap.size, 3, none⟩ (.slice ah H.1.length ch) := ⟨_, rfl⟩
          have ht9 : Touch (fun b => b = w2.heap.size) w8 W9 := by rw [hW9]; exact touch_put _
          have hp9 := hp8.touch ht9 (by have := HO.out; omega) (by have := HO.out; omega) HO.out.1.2.2
          have hr9 := ht9.row hr8 (by have := HZ1.out; have := HZ3.out; omega)
          have hq9 : W9.rowIs w2.heap.size 36 4 (pick4 (.string f) (.int .i64 A.1) (.int .i64 (-1)) (.slice ah H.1.length ch)) := by
            rw [hW9]
            refine (hq8.set 3 (.slice ah H.1.length ch)).congr fun j hj => ?_
            rcases j with _ | _ | _ | _ | j <;> first | rfl | omega
          have hk9 : KeysW W9 w6.heap.size W9.heap.size ah H.1 := HK7.out.carry (Nat.le_refl _) (Nat.le_trans ht8.size ht9.size) (fun b h1 h2 => by
            have hz1 := HZb.out; have hz2 := HZ6.out; have hz3 := HO.out
            rw [ht9.block b (Nat.lt_of_lt_of_le h2 ht8.size) (by omega), ht8.block b h2 (by omega)])
          have u3 := hq8.cell (i := 3) (by decide)
          have f3 := hq8.frozen 3
          simp only [pick4] at u3
          have HRb := Lib.hid hr9
          have HQb := Lib.hid hq9
          have HK9 := Lib.hid hk9
          have HBE := Lib.hid (show Below w.heap.size w W9 from by rw [hW9]; exact HB8.out.setCell (by show w.heap.size ≤ w2.heap.size; have := HZ1.out; have := HZ3.out; omega) _)
          have HDO := Lib.hid (pickDoneF o m lo2 hi2 u an2 ai2 cn2 ci2 T W9 hp9 HTS.out)
          have HW9 := Lib.hid hW9
          clear hp8 ht8 hr8 hq8 ht9 hp9 hr9 hq9 hk9 hW9 HR7 HQ7 HB7 HB8 HP7 HK7
          go_upto_region 13 with fail
          rw [← HW9.out]
          clear u3 f3
          obtain ⟨dn, hdn⟩ : ∃ dn, dn = pickDone u T := ⟨_, rfl⟩
          rw [← hdn] at HDO HX0h
          clear hdn
          go_wp2_with fail
          refine HDO.out.mono ?_
          clear HDO
          rintro e w' ⟨rfl, h'⟩
          subst h'
          by_cases hd : dn = 0
          · have HR := Lib.hid (HU.out _ (show pinOfK f u = (⟨f, A.1, (-1), H.1⟩, 0) by rw [HX0h.out, hd]; rfl))
            subst hd
            have hr := HRb.out; have hq := HQb.out
            have t0 := hr.cell (i := 0) (by decide); have t1 := hr.cell (i := 1) (by decide); have t2 := hr.cell (i := 2) (by decide); have t3 := hr.cell (i := 3) (by decide); have s0 := hr.frozen 0; have s1 := hr.frozen 1; have s2 := hr.frozen 2; have s3 := hr.frozen 3; have z0 := hq.cell (i := 0) (by decide); have z1 := hq.cell (i := 1) (by decide); have z2 := hq.cell (i := 2) (by decide); have z3 := hq.cell (i := 3) (by decide)
            simp only [pick4] at t0 t1 t2 t3 z0 z1 z2 z3
            have HRS := Lib.hid hr
            clear hr hq
            go_wp2
            refine bodyPost_ret (results_row_tmp Tryz.results29 _ _ (w.heap.size + 1) 36 _ (0, 0) _ rfl (row4_heap (set4 _ _ _ _ HRS.out)) Tryz.underlying36 rfl (by kernel_rfl) _ rfl) rfl ⟨_, ah, ch, HR.out, rfl, (keys_off (lo' := w.heap.size) HK9.out (by have := HZ1.out; have := HZ3.out; have := HZb.out; have := HZ6.out; omega) (by have := HZ1.out; have := HZ3.out; have := HZb.out; have := HZ6.out; omega)).carry (Nat.le_refl _) (by simp [World.setCell]) (fun _ _ _ => rfl), HCP.out, below4 _ _ _ _ HBE.out (by omega)⟩
          · have HR := Lib.hid (HU.out _ (show pinOfK f u = (pinZ, dn) by rw [HX0h.out]; simp [hd]))
            have hd1 : (dn == 0) = false := by simpa using hd
            have hd2 : (dn != 0) = true := by simpa using hd
            clear hd
            have hr := HRb.out
            have t0 := hr.cell (i := 0) (by decide); have t1 := hr.cell (i := 1) (by decide); have t2 := hr.cell (i := 2) (by decide); have t3 := hr.cell (i := 3) (by decide); have s0 := hr.frozen 0; have s1 := hr.frozen 1; have s2 := hr.frozen 2; have s3 := hr.frozen 3
            simp only [pick4] at t0 t1 t2 t3
            have HRS := Lib.hid hr
            clear hr
            go_wp2
            refine bodyPost_ret (results_row_tmp Tryz.results29 _ _ (w.heap.size + 1) 36 _ (0, 0) _ rfl (row4_heap (set4 _ _ _ _ HRS.out)) Tryz.underlying36 rfl (by kernel_rfl) _ rfl) rfl ⟨(pinZ, dn), none, 0, HR.out, rfl, KeysW.nil _ _ _ _, Nat.le_refl _, below4 _ _ _ _ HBE.out (by omega)⟩
      · obtain ⟨B, hB⟩ : ∃ B, B = pickNum u lenN 0 1099511627776 A.2 := ⟨_, rfl⟩
        have HS0 := Lib.hid (show pinOfK f u = if pickDone u (hasSt u B.2).2 ≠ 0 then (pinZ, pickDone u (hasSt u B.2).2) else (⟨f, A.1, B.1, (hasSt u B.2).1⟩, 0) by rw [pinOfK_eq, ← HA.out, show lenSt u A.2 = B by unfold lenSt; rw [hl, if_pos rfl, ← hB]])
        have HBS := Lib.hid (show B.2.asked.length ≤ 2 by rw [hB]; exact Nat.le_trans num_size (by have := HAS.out; omega))
        rw [hl] at HHL
        have HB := Lib.hid hB
        clear hl hB
        go_wp2_with fail
        refine HHL.out.mono ?_
        clear HHL
        rintro e w4 ⟨rfl, hb⟩
        have HN5 := Lib.hid (pickNumF o m lo2 hi2 u an2 ai2 cn2 ci2 lenN 0 1099511627776 A.2 w4 (HPa.out.below hb) (by decide) (by have := HAS.out; omega) (by have := HO.out; have := hb.size; have := HZ4.out; omega) (by have := HO.out; have := hb.size; have := HZ4.out; omega))
        have HR5 := Lib.hid (below_row hb HRa.out HRa.out.lt)
        have HQ5 := Lib.hid (below_row hb HQa.out HQa.out.lt)
        have HB5 := Lib.hid (HBa.out.trans (hb.mono HBa.out.size))
        have HZ5 := Lib.hid (show W4.heap.size ≤ w4.heap.size from hb.size)
        clear hb HPa HRa HQa HBa
        go_wp2_with fail
        refine HN5.out.mono ?_
        clear HN5
        rintro e w5 ⟨rfl, hp5, ht5⟩
        rw [← HB.out] at hp5 ⊢
        have hr5 := ht5.row HR5.out (by have := HO.out; have := HZ1.out; omega)
        have hq5 := ht5.row HQ5.out (by have := HO.out; omega)
        have HB6 := Lib.hid (HB5.out.trans (ht5.below (by have := HZ1.out; have := HZ3.out; have := HZ4.out; have := HZ5.out; omega) (fun k hk e => by have := HO.out; have := HZ1.out; omega)))
        obtain ⟨wa, hW6⟩ : ∃ W6, W6 = w5.setCell ⟨w2.heap.size, 2, none⟩ (.int .i64 B.1) := ⟨_, rfl⟩
        have ht6 : Touch (fun b => b = w2.heap.size) w5 wa := by rw [hW6]; exact touch_put _
        have hp6 := hp5.touch ht6 (by have := HO.out; omega) (by have := HO.out; omega) HO.out.1.2.2
        have hr6 := ht6.row hr5 (by have := HZ1.out; have := HZ3.out; omega)
        have hq6 : wa.rowIs w2.heap.size 36 4 (pick4 (.string f) (.int .i64 A.1) (.int .i64 B.1) (.slice none 0 0)) := by
          rw [hW6]
          refine (hq5.set 2 (.int .i64 B.1)).congr fun j hj => ?_
          rcases j with _ | _ | _ | _ | j <;> first | rfl | omega
        have u1 := hq5.cell (i := 2) (by decide)
        have f1 := hq5.frozen 2
        simp only [pick4] at u1
        have HPa := Lib.hid hp6
        have HRa := Lib.hid hr6
        have HQa := Lib.hid hq6
        have HBa := Lib.hid (show Below w.heap.size w wa from by rw [hW6]; exact HB6.out.setCell (by show w.heap.size ≤ w2.heap.size; have := HZ1.out; have := HZ3.out; omega) _)
        have HW6 := Lib.hid hW6
        clear hp5 ht5 hr5 hq5 ht6 hp6 hr6 hq6 hW6 HR5 HQ5 HB5
        go_upto_region 9 with fail
        rw [← HW6.out]
        clear u1 f1
        obtain ⟨ST, hST⟩ : ∃ ST, ST = B.2 := ⟨_, rfl⟩
        rw [← hST] at HPa HS0 HBS
        clear hST
        have HS := HS0
        have HSZ := HBS
        have HHS := Lib.hid (pickHasF o m lo2 hi2 u an2 ai2 cn2 ci2 hasN ST wa HPa.out)
        cases hh : pickHas u hasN ST
        · have HX := Lib.hid (show pinOfK f u = if pickDone u ST ≠ 0 then (pinZ, pickDone u ST) else (⟨f, A.1, B.1, []⟩, 0) by have h := HS.out; unfold hasSt at h; rw [hh] at h; exact h)
          rw [hh] at HHS
          clear hh
          go_wp2_with fail
          refine HHS.out.mono ?_
          clear HHS
          rintro e wb ⟨rfl, hb⟩
          have HDO := Lib.hid (pickDoneF o m lo2 hi2 u an2 ai2 cn2 ci2 ST wb (HPa.out.below hb) HTS.out)
          have HRb := Lib.hid (below_row hb HRa.out HRa.out.lt)
          have HQb := Lib.hid (below_row hb HQa.out HQa.out.lt)
          have HBE := Lib.hid (HBa.out.trans (hb.mono HBa.out.size))
          clear hb
          obtain ⟨dn, hdn⟩ : ∃ dn, dn = pickDone u ST := ⟨_, rfl⟩
          rw [← hdn] at HDO HX
          clear hdn
          go_wp2_with fail
          refine HDO.out.mono ?_
          clear HDO
          rintro e w' ⟨rfl, h'⟩
          subst h'
          by_cases hd : dn = 0
          · have HR := Lib.hid (HU.out _ (show pinOfK f u = (⟨f, A.1, B.1, []⟩, 0) by rw [HX.out, hd]; rfl))
            subst hd
            have hr := HRb.out; have hq := HQb.out
            have t0 := hr.cell (i := 0) (by decide); have t1 := hr.cell (i := 1) (by decide); have t2 := hr.cell (i := 2) (by decide); have t3 := hr.cell (i := 3) (by decide); have s0 := hr.frozen 0; have s1 := hr.frozen 1; have s2 := hr.frozen 2; have s3 := hr.frozen 3; have z0 := hq.cell (i := 0) (by decide); have z1 := hq.cell (i := 1) (by decide); have z2 := hq.cell (i := 2) (by decide); have z3 := hq.cell (i := 3) (by decide)
            simp only [pick4] at t0 t1 t2 t3 z0 z1 z2 z3
            have HRS := Lib.hid hr
            clear hr hq
            go_wp2
            refine bodyPost_ret (results_row_tmp Tryz.results29 _ _ (w.heap.size + 1) 36 _ (0, 0) _ rfl (row4_heap (set4 _ _ _ _ HRS.out)) Tryz.underlying36 rfl (by kernel_rfl) _ rfl) rfl ⟨_, none, 0, HR.out, rfl, KeysW.nil _ _ _ _, Nat.le_refl _, below4 _ _ _ _ HBE.out (by omega)⟩
          · have HR := Lib.hid (HU.out _ (show pinOfK f u = (pinZ, dn) by rw [HX.out]; simp [hd]))
            have hd1 : (dn == 0) = false := by simpa using hd
            have hd2 : (dn != 0) = true := by simpa using hd
            clear hd
            have hr := HRb.out
            have t0 := hr.cell (i := 0) (by decide); have t1 := hr.cell (i := 1) (by decide); have t2 := hr.cell (i := 2) (by decide); have t3 := hr.cell (i := 3) (by decide); have s0 := hr.frozen 0; have s1 := hr.frozen 1; have s2 := hr.frozen 2; have s3 := hr.frozen 3
            simp only [pick4] at t0 t1 t2 t3
            have HRS := Lib.hid hr
            clear hr
            go_wp2
            refine bodyPost_ret (results_row_tmp Tryz.results29 _ _ (w.heap.size + 1) 36 _ (0, 0) _ rfl (row4_heap (set4 _ _ _ _ HRS.out)) Tryz.underlying36 rfl (by kernel_rfl) _ rfl) rfl ⟨(pinZ, dn), none, 0, HR.out, rfl, KeysW.nil _ _ _ _, Nat.le_refl _, below4 _ _ _ _ HBE.out (by omega)⟩
        · have HX0h := Lib.hid (show pinOfK f u = if pickDone u ((pickObj u hasN 4 ST).2.fail (hashesOfJ (pickObj u hasN 4 ST).1).2) ≠ 0 then (pinZ, pickDone u ((pickObj u hasN 4 ST).2.fail (hashesOfJ (pickObj u hasN 4 ST).1).2)) else (⟨f, A.1, B.1, (hashesOfJ (pickObj u hasN 4 ST).1).1⟩, 0) by have h := HS.out; unfold hasSt at h; rw [hh] at h; exact h)
          rw [hh] at HHS
          clear hh
          go_wp2_with fail
          refine HHS.out.mono ?_
          clear HHS
          rintro e wb ⟨rfl, hb⟩
          have HOB := Lib.hid (pickObjF o m lo2 hi2 u an2 ai2 cn2 ci2 hasN 4 ST wb (HPa.out.below hb) (by decide) (by have := HSZ.out; omega))
          have HRb := Lib.hid (below_row hb HRa.out HRa.out.lt)
          have HQb := Lib.hid (below_row hb HQa.out HQa.out.lt)
          have HBb := Lib.hid (HBa.out.trans (hb.mono HBa.out.size))
          have HZb := Lib.hid (show w2.heap.size < wb.heap.size from HQb.out.lt)
          clear hb HPa HRa HQa HBa
          go_wp2_with fail
          refine HOB.out.mono ?_
          clear HOB
          rintro e w6 ⟨⟨an6, cn6, ai6, ci6, rfl, hrep⟩, hp6, ht6⟩
          obtain ⟨M, hM⟩ : ∃ M, M = pickObj u hasN 4 ST := ⟨_, rfl⟩
          have HMW := Lib.hid (show M.1.wt ≤ 4294967296 by rw [hM]; exact pickObj_wt HUW.out)
          rw [← hM] at hp6 hrep HX0h ⊢
          clear hM
          have hr6 := ht6.row HRb.out (by have := HO.out; have := HZ1.out; omega)
          have hq6 := ht6.row HQb.out (by have := HO.out; omega)
          have HB6 := Lib.hid (HBb.out.trans (ht6.below (by have := HZ1.out; have := HZ3.out; have := HZb.out; omega) (fun k hk e => by have := HO.out; have := HZ1.out; omega)))
          have HHO := Lib.hid (recHashesOf M.1 _ w6 HMW.out (hrep.carry (Nat.zero_le _) (Nat.le_refl _) (fun _ _ _ => rfl)))
          have HR6 := Lib.hid hr6
          have HQ6 := Lib.hid hq6
          have HP6 := Lib.hid hp6
          have HZ6 := Lib.hid (show wb.heap.size ≤ w6.heap.size from ht6.size)
          clear hr6 hq6 hp6 ht6 hrep HRb HQb HBb
          go_wp2_with fail
          refine HHO.out.mono ?_
          clear HHO
          rintro e w7 ⟨ah, ch, rfl, hk7, hcp, hb7⟩
          obtain ⟨H, hH⟩ : ∃ H, H = hashesOfJ M.1 := ⟨_, rfl⟩
          rw [← hH] at hk7 hcp HX0h ⊢
          have HCP := Lib.hid hcp
          clear hH hcp
          have HP7 := Lib.hid (HP6.out.below hb7)
          have HR7 := Lib.hid (below_row hb7 HR6.out HR6.out.lt)
          have HQ7 := Lib.hid (below_row hb7 HQ6.out HQ6.out.lt)
          have HB7 := Lib.hid (HB6.out.trans (hb7.mono HB6.out.size))
          have HZ7 := Lib.hid (show w6.heap.size ≤ w7.heap.size from hb7.size)
          have HK7 := Lib.hid hk7
          have HFL := Lib.hid (pickFailG o m lo2 hi2 u an2 ai2 cn2 ci2 H.2 M.2 w7 HP7.out)
          obtain ⟨T, hT⟩ : ∃ T, T = M.2.fail H.2 := ⟨_, rfl⟩
          rw [← hT] at HX0h HFL
          clear hT hk7 hb7 HP6 HR6 HQ6 HB6
          go_wp2_with fail
          refine HFL.out.mono ?_
          clear HFL
          rintro e w8 ⟨rfl, hp8, ht8⟩
          have hr8 := ht8.row HR7.out (by have := HO.out; have := HZ1.out; omega)
          have hq8 := ht8.row HQ7.out (by have := HO.out; omega)
          have HB8 := Lib.hid (HB7.out.trans (ht8.below (by have := HZ1.out; have := HZ3.out; have := HZb.out; have := HZ6.out; have := HZ7.out; omega) (fun k hk e => by have := HO.out; have := HZ1.out; omega)))
          obtain ⟨W9, hW9⟩ : ∃ W9, W9 = w8.setCell ⟨w2.heap.size, 3, none⟩ (.slice ah H.1.length ch) := ⟨_, rfl⟩
          have ht9 : Touch (fun b => b = w2.heap.size) w8 W9 := by rw [hW9]; exact touch_put _
          have hp9 := hp8.touch ht9 (by have := HO.out; omega) (by have := HO.out; omega) HO.out.1.2.2
          have hr9 := ht9.row hr8 (by have := HZ1.out; have := HZ3.out; omega)
          have hq9 : W9.rowIs w2.heap.size 36 4 (pick4 (.string f) (.int .i64 A.1) (.int .i64 B.1) (.slice ah H.1.length ch)) := by
            rw [hW9]
            refine (hq8.set 3 (.slice ah H.1.length ch)).congr fun j hj => ?_
            rcases j with _ | _ | _ | _ | j <;> first | rfl | omega
          have hk9 : KeysW W9 w6.heap.size W9.heap.size ah H.1 := HK7.out.carry (Nat.le_refl _) (Nat.le_trans ht8.size ht9.size) (fun b h1 h2 => by
            have hz1 := HZb.out; have hz2 := HZ6.out; have hz3 := HO.out
            rw [ht9.block b (Nat.lt_of_lt_of_le h2 ht8.size) (by omega), ht8.block b h2 (by omega)])
          have u3 := hq8.cell (i := 3) (by decide)
          have f3 := hq8.frozen 3
          simp only [pick4] at u3
          have HRb := Lib.hid hr9
          have HQb := Lib.hid hq9
          have HK9 := Lib.hid hk9
          have HBE := Lib.hid (show Below w.heap.size w W9 from by rw [hW9]; exact HB8.out.setCell (by show w.heap.size ≤ w2.heap.size; have := HZ1.out; have := HZ3.out; omega) _)
          have HDO := Lib.hid (pickDoneF o m lo2 hi2 u an2 ai2 cn2 ci2 T W9 hp9 HTS.out)
          have HW9 := Lib.hid hW9
          clear hp8 ht8 hr8 hq8 ht9 hp9 hr9 hq9 hk9 hW9 HR7 HQ7 HB7 HB8 HP7 HK7
          go_upto_region 13 with fail
          rw [← HW9.out]
          clear u3 f3
          obtain ⟨dn, hdn⟩ : ∃ dn, dn = pickDone u T := ⟨_, rfl⟩
          rw [← hdn] at HDO HX0h
          clear hdn
          go_wp2_with fail
          refine HDO.out.mono ?_
          clear HDO
          rintro e w' ⟨rfl, h'⟩
          subst h'
          by_cases hd : dn = 0
          · have HR := Lib.hid (HU.out _ (show pinOfK f u = (⟨f, A.1, B.1, H.1⟩, 0) by rw [HX0h.out, hd]; rfl))
            subst hd
            have hr := HRb.out; have hq := HQb.out
            have t0 := hr.cell (i := 0) (by decide); have t1 := hr.cell (i := 1) (by decide); have t2 := hr.cell (i := 2) (by decide); have t3 := hr.cell (i := 3) (by decide); have s0 := hr.frozen 0; have s1 := hr.frozen 1; have s2 := hr.frozen 2; have s3 := hr.frozen 3; have z0 := hq.cell (i := 0) (by decide); have z1 := hq.cell (i := 1) (by decide); have z2 := hq.cell (i := 2) (by decide); have z3 := hq.cell (i := 3) (by decide)
            simp only [pick4] at t0 t1 t2 t3 z0 z1 z2 z3
            have HRS := Lib.hid hr
            clear hr hq
            go_wp2
            refine bodyPost_ret (results_row_tmp Tryz.results29 _ _ (w.heap.size + 1) 36 _ (0, 0) _ rfl (row4_heap (set4 _ _ _ _ HRS.out)) Tryz.underlying36 rfl (by kernel_rfl) _ rfl) rfl ⟨_, ah, ch, HR.out, rfl, (keys_off (lo' := w.heap.size) HK9.out (by have := HZ1.out; have := HZ3.out; have := HZb.out; have := HZ6.out; omega) (by have := HZ1.out; have := HZ3.out; have := HZb.out; have := HZ6.out; omega)).carry (Nat.le_refl _) (by simp [World.setCell]) (fun _ _ _ => rfl), HCP.out, below4 _ _ _ _ HBE.out (by omega)⟩
          · have HR := Lib.hid (HU.out _ (show pinOfK f u = (pinZ, dn) by rw [HX0h.out]; simp [hd]))
            have hd1 : (dn == 0) = false := by simpa using hd
            have hd2 : (dn != 0) = true := by simpa using hd
            clear hd
            have hr := HRb.out
            have t0 := hr.cell (i := 0) (by decide); have t1 := hr.cell (i := 1) (by decide); have t2 := hr.cell (i := 2) (by decide); have t3 := hr.cell (i := 3) (by decide); have s0 := hr.frozen 0; have s1 := hr.frozen 1; have s2 := hr.frozen 2; have s3 := hr.frozen 3
            simp only [pick4] at t0 t1 t2 t3
            have HRS := Lib.hid hr
            clear hr
            go_wp2
            refine bodyPost_ret (results_row_tmp Tryz.results29 _ _ (w.heap.size + 1) 36 _ (0, 0) _ rfl (row4_heap (set4 _ _ _ _ HRS.out)) Tryz.underlying36 rfl (by kernel_rfl) _ rfl) rfl ⟨(pinZ, dn), none, 0, HR.out, rfl, KeysW.nil _ _ _ _, Nat.le_refl _, below4 _ _ _ _ HBE.out (by omega)⟩
  · have HX := Lib.hid (show PinOfR C f v (pinZ, 3) from .inl ⟨by rw [roleErr_1 hre]; rfl, rfl⟩)
    obtain ⟨re, hre'⟩ : ∃ re, re = roleErr f := ⟨_, rfl⟩
    rw [← hre'] at hre HRN
    have hd1 : (re == 0) = false := by simpa using hre
    have hd2 : (re != 0) = true := by simpa using hre
    have hr := HR0.out
    have t0 := hr.cell (i := 0) (by decide); have t1 := hr.cell (i := 1) (by decide); have t2 := hr.cell (i := 2) (by decide); have t3 := hr.cell (i := 3) (by decide); have s0 := hr.frozen 0; have s1 := hr.frozen 1; have s2 := hr.frozen 2; have s3 := hr.frozen 3
    simp only [pick4] at t0 t1 t2 t3
    have HRS := Lib.hid hr
    have HBE := Lib.hid HB2.out
    clear hr hre hre' hk
    go_enter Tryz.func29, Tryz.ntmps29
    go_upto_region 1 with fail
    rw [← HW.out]
    go_wp2_with fail
    refine HRN.out.mono ?_
    rintro e w' ⟨rfl, h'⟩
    subst h'
    go_wp2
    refine bodyPost_ret (results_row_tmp Tryz.results29 _ _ (w.heap.size + 1) 36 _ (0, 0) _ rfl (row4_heap (set4 _ _ _ _ HRS.out)) Tryz.underlying36 rfl (by kernel_rfl) _ rfl) rfl ⟨(pinZ, 3), none, 0, HX.out, rfl, KeysW.nil _ _ _ _, Nat.le_refl _, below4 _ _ _ _ HBE.out (by omega)⟩
end Go.Proofs.YtgghgcilpfdbjaaGreatDoor

namespace Go.Proofs.YtgghgcilpfdbjaaGreatDoor
open Go.RowKit Go.WideMaps Go.Maps

set_option maxHeartbeats 400000 in
theorem hasBad (o : Nat) (err : Int) (y : ByteArray) (w : World) (h : PickBad o err w) :
    Calls Tryz.prog 63 #[.pointer (some ⟨o, 0, none⟩), .string y] w fun e w' => e = .returned (.bool false) ∧ w = w' := by
  obtain ⟨he, c6, k, c0⟩ := h
  have he' : (err == 0) = false := by simpa using he
  have he2 : (err != 0) = true := by simpa using he
  have HE := Lib.hid he
  clear he
  go_enter Tryz.func63, Tryz.ntmps63
  go_wp2_with fail
  refine (pickErr o err k w c6 c0 (fun h => absurd h HE.out)).mono ?_
  rintro r w' ⟨rfl, rfl⟩
  go_wp2
  go_ret
  exact ⟨rfl, rfl⟩
set_option maxHeartbeats 400000 in
theorem numBad (o : Nat) (err : Int) (y : ByteArray) (l h : Int) (w : World) (hb : PickBad o err w) (ho : o < w.heap.size) :
    Calls Tryz.prog 62 #[.pointer (some ⟨o, 0, none⟩), .string y, .int .i64 l, .int .i64 h] w fun e w' => e = .returned (.int .i64 0) ∧ Below w.heap.size w w' := by
  obtain ⟨W2, hW2⟩ : ∃ W2, W2 = (w.alloc (.cells #[.int .i64 l] 2)).alloc (.cells #[.int .i64 h] 2) := ⟨_, rfl⟩
  have hb2 : Below w.heap.size w W2 := by rw [hW2]; exact ((Below.refl _ _).alloc (Nat.le_refl _) _).alloc (by simp) _
  obtain ⟨he, c6, k, c0⟩ := hb.below hb2 ho
  have HB2 := Lib.hid hb2
  have HW := Lib.hid hW2
  clear hW2 hb2 hb
  have HT := Lib.hid (show ∀ fv, Calls Tryz.prog 102 #[.pointer (some ⟨o, 0, none⟩), .string y, fv] W2 (fun e w' => e = .returned (.int .i64 0) ∧ W2 = w') from fun fv => by
    have he' : (err == 0) = false := by simpa using he
    have he2 : (err != 0) = true := by simpa using he
    have HE := Lib.hid he
    clear he
    go_enter Tryz.func102, Tryz.ntmps102
    go_wp2_with fail
    refine (pickErr o err k W2 c6 c0 (fun h => absurd h HE.out)).mono ?_
    rintro r w' ⟨rfl, rfl⟩
    go_wp2
    go_ret
    exact ⟨rfl, rfl⟩)
  clear he c6 c0
  go_enter Tryz.func62, Tryz.ntmps62
  go_wp2_with fail
  rw [← HW.out]
  refine (HT.out _).mono ?_
  rintro e w' ⟨rfl, rfl⟩
  go_wp2
  go_ret
  exact ⟨rfl, HB2.out⟩
set_option maxHeartbeats 400000 in
theorem failBad (o : Nat) (err e : Int) (w : World) (h : PickBad o err w) :
    Calls Tryz.prog 66 #[.pointer (some ⟨o, 0, none⟩), .int .i64 e] w fun r w' => r = .returned (.tuple #[]) ∧ w' = w := by
  obtain ⟨he, c6, k, c0⟩ := h
  have he' : (err == 0) = false := by simpa using he
  have he2 : (err != 0) = true := by simpa using he
  have HE := Lib.hid he
  clear he
  go_enter Tryz.func66, Tryz.ntmps66
  go_wp2_with fail
  refine (pickErr o err k w c6 c0 (fun h => absurd h HE.out)).mono ?_
  rintro r w' ⟨rfl, rfl⟩
  go_wp2
  go_end0
  exact ⟨rfl, rfl⟩
end Go.Proofs.YtgghgcilpfdbjaaGreatDoor

namespace Go.Proofs.YtgghgcilpfdbjaaGreatDoor
open Go.RowKit

/-- The pin of a file, of any value. -/
def pinOfA (f : ByteArray) (v : JV) : PinV × Int := if ((roleOf f).isNone || !v.mayB) = true then (pinZ, 3) else if v.kind ≠ 5 then (pinZ, 10) else pinOfK f v
def PinAPost (r : PinV × Int) (w : World) (e : Ending) (w' : World) : Prop :=
  ∃ ha hc, e = .returned (.tuple #[.agg #[.string r.1.name, .int .i64 r.1.ver, .int .i64 r.1.len, .slice ha r.1.hs.length hc], .int .i64 r.2]) ∧ KeysW w' w.heap.size w'.heap.size ha r.1.hs ∧ r.1.hs.length ≤ hc ∧ Below w.heap.size w w'
set_option maxHeartbeats 4000000 in
set_option maxRecDepth 100000 in
/-- Of what is no object. -/
theorem snapPinOfN (f : ByteArray) (v : JV) (x : Value) (w : World) (hN : v.wt ≤ 4294967296) (hR : Rep w 0 w.heap.size v x) (hk : v.kind ≠ 5) (hf : f.size ≤ 9223372036854775807) :
    Calls Tryz.prog 29 #[.string f, x] w (PinAPost (pinOfA f v) w) := by
  obtain ⟨an, cn, ai, ci, hx, h1, h2, h3, h4⟩ := hR.parts
  clear h1 h2 h3 h4
  subst hx
  obtain ⟨W2, hW2⟩ : ∃ W2, W2 = (w.alloc (.cells #[.int .u8 v.kind, .int .i64 v.n, .string v.t, .slice an v.names.length cn, .slice ai v.items.length ci] 30)).alloc (.cells #[.string { data := #[] }, .int .i64 0, .int .i64 0, .slice none 0 0] 36) := ⟨_, rfl⟩
  have hz1 : (w.alloc (.cells #[.int .u8 v.kind, .int .i64 v.n, .string v.t, .slice an v.names.length cn, .slice ai v.items.length ci] 30)).heap.size = w.heap.size + 1 := by simp
  have hz2 : W2.heap.size = w.heap.size + 2 := by rw [hW2]; simp
  have hb2 : Below w.heap.size w W2 := by rw [hW2]; exact ((Below.refl _ _).alloc (Nat.le_refl _) _).alloc (by simp) _
  have hx0 : W2.heap[w.heap.size]? = some (.cells #[.int .u8 v.kind, .int .i64 v.n, .string v.t, .slice an v.names.length cn, .slice ai v.items.length ci] 30 (0, 0)) := by rw [hW2, Below.heap_alloc _ _ _ (by simp)]; exact heap_alloc_new w _
  have hr0 : W2.rowIs (w.heap.size + 1) 36 4 (pick4 (.string { data := #[] }) (.int .i64 0) (.int .i64 0) (.slice none 0 0)) := by
    have := rowIs_box4 (w.alloc (.cells #[.int .u8 v.kind, .int .i64 v.n, .string v.t, .slice an v.names.length cn, .slice ai v.items.length ci] 30)) (.string { data := #[] }) (.int .i64 0) (.int .i64 0) (.slice none 0 0) 36
    rw [hz1, ← hW2] at this
    exact this
  have HRN := Lib.hid (nameRoleOf f W2 hf)
  have HM := Lib.hid (valueMay v _ W2 hN (hR.below hb2 (Nat.le_refl _) (Nat.zero_le _) hb2.size))
  have HW := Lib.hid hW2
  have HB2 := Lib.hid hb2
  have HX0 := Lib.hid hx0
  have HR0 := Lib.hid hr0
  have HZ := Lib.hid hz2
  have HK := Lib.hid hk
  clear hR hW2 hb2 hx0 hr0 hz1 hz2 hk
  have HC := Lib.hid (show ∀ w' : World, Below W2.heap.size W2 w' → w'.cell? ⟨w.heap.size, 0, none⟩ = some (.int .u8 v.kind) ∧ w'.cell? ⟨w.heap.size, 1, none⟩ = some (.int .i64 v.n) ∧ w'.cell? ⟨w.heap.size, 2, none⟩ = some (.string v.t) ∧ w'.cell? ⟨w.heap.size, 3, none⟩ = some (.slice an v.names.length cn) ∧ w'.cell? ⟨w.heap.size, 4, none⟩ = some (.slice ai v.items.length ci) from fun w' h => by
    have x := (h.block _ (heap_lt HX0.out)).trans HX0.out
    exact ⟨box_cell x rfl, box_cell x rfl, box_cell x rfl, box_cell x rfl, box_cell x rfl⟩)
  obtain ⟨c0, c1, c2, c3, c4⟩ := HC.out W2 (Below.refl _ _)
  have HEND := Lib.hid (show ∀ (w' : World) (er : Int), pinOfA f v = (pinZ, er) → Below W2.heap.size W2 w' → PinAPost (pinOfA f v) w (.returned (.tuple #[.agg #[.string { data := #[] }, .int .i64 0, .int .i64 0, .slice none 0 0], .int .i64 er])) ((((w'.setCell ⟨w.heap.size + 1, 0, none⟩ (.string { data := #[] })).setCell ⟨w.heap.size + 1, 1, none⟩ (.int .i64 0)).setCell ⟨w.heap.size + 1, 2, none⟩ (.int .i64 0)).setCell ⟨w.heap.size + 1, 3, none⟩ (.slice none 0 0)) from fun w' er he hb => by
    unfold PinAPost
    rw [he]
    exact ⟨none, 0, rfl, KeysW.nil _ _ _ _, Nat.le_refl _, below4 _ _ _ _ (HB2.out.trans (hb.mono HB2.out.size)) (by omega)⟩)
  by_cases hre : roleErr f = 0
  case neg =>
    have HX := Lib.hid (show pinOfA f v = (pinZ, 3) by unfold pinOfA; rw [roleErr_1 hre]; rfl)
    obtain ⟨re, hre'⟩ : ∃ re, re = roleErr f := ⟨_, rfl⟩
    rw [← hre'] at hre HRN
    have hd1 : (re == 0) = false := by simpa using hre
    have hd2 : (re != 0) = true := by simpa using hre
    have hr := HR0.out
    have t0 := hr.cell (i := 0) (by decide); have t1 := hr.cell (i := 1) (by decide); have t2 := hr.cell (i := 2) (by decide); have t3 := hr.cell (i := 3) (by decide); have s0 := hr.frozen 0; have s1 := hr.frozen 1; have s2 := hr.frozen 2; have s3 := hr.frozen 3
    simp only [pick4] at t0 t1 t2 t3
    have HRS := Lib.hid hr
    clear hr hre hre'
    go_enter Tryz.func29, Tryz.ntmps29
    go_upto_region 1 with fail
    rw [← HW.out]
    go_wp2_with fail
    refine HRN.out.mono ?_
    rintro e w' ⟨rfl, h'⟩
    subst h'
    go_wp2
    exact bodyPost_ret (results_row_tmp Tryz.results29 _ _ (w.heap.size + 1) 36 _ (0, 0) _ rfl (row4_heap (set4 _ _ _ _ HRS.out)) Tryz.underlying36 rfl (by kernel_rfl) _ rfl) rfl (HEND.out _ _ HX.out (Below.refl _ _))
  have HRE := Lib.hid (roleErr_0 hre)
  rw [hre] at HRN
  clear hre
  go_enter Tryz.func29, Tryz.ntmps29
  go_upto_region 1 with fail
  rw [← HW.out]
  go_wp2_with fail
  refine HRN.out.mono ?_
  rintro e w' ⟨rfl, h'⟩
  subst h'
  cases hm : v.mayB with
  | false =>
    have HX := Lib.hid (show pinOfA f v = (pinZ, 3) by unfold pinOfA; rw [HRE.out, hm]; rfl)
    rw [hm] at HM
    clear hm
    go_wp2_with fail
    refine HM.out.mono ?_
    rintro e w1 ⟨rfl, hb1⟩
    have hr := below_row hb1 HR0.out HR0.out.lt
    have HBE := Lib.hid hb1
    have t0 := hr.cell (i := 0) (by decide); have t1 := hr.cell (i := 1) (by decide); have t2 := hr.cell (i := 2) (by decide); have t3 := hr.cell (i := 3) (by decide); have s0 := hr.frozen 0; have s1 := hr.frozen 1; have s2 := hr.frozen 2; have s3 := hr.frozen 3
    simp only [pick4] at t0 t1 t2 t3
    have HRS := Lib.hid hr
    clear hr hb1 c0 c1 c2 c3 c4
    go_wp2
    exact bodyPost_ret (results_row_tmp Tryz.results29 _ _ (w.heap.size + 1) 36 _ (0, 0) _ rfl (row4_heap (set4 _ _ _ _ HRS.out)) Tryz.underlying36 rfl (by kernel_rfl) _ rfl) rfl (HEND.out _ _ HX.out HBE.out)
  | true =>
    have HX := Lib.hid (show pinOfA f v = (pinZ, 10) by unfold pinOfA; rw [HRE.out, hm, if_neg (by decide), if_pos HK.out])
    rw [hm] at HM
    clear hm
    go_wp2_with fail
    refine HM.out.mono ?_
    clear c0 c1 c2 c3 c4
    rintro e w1 ⟨rfl, hb1⟩
    have HB1 := Lib.hid hb1
    obtain ⟨c0, c1, c2, c3, c4⟩ := HC.out w1 hb1
    have HOB := Lib.hid (pickOf_bad v.kind v.n v.t (.slice an v.names.length cn) (.slice ai v.items.length ci) w1 HK.out)
    clear hb1
    go_wp2_with fail
    refine HOB.out.mono ?_
    clear HOB c0 c1 c2 c3 c4
    rintro e w2 ⟨o, rfl, ho1, ho2, hpb, hb2⟩
    obtain ⟨W3, hW3⟩ : ∃ W3, W3 = w2.alloc (.cells #[.string f, .int .i64 0, .int .i64 (-1), .slice none 0 0] 36) := ⟨_, rfl⟩
    have hb3 : Below w2.heap.size w2 W3 := by rw [hW3]; exact (Below.refl _ _).alloc (Nat.le_refl _) _
    have hq3 : W3.rowIs w2.heap.size 36 4 (pick4 (.string f) (.int .i64 0) (.int .i64 (-1)) (.slice none 0 0)) := by rw [hW3]; exact rowIs_box4 _ _ _ _ _ _
    have HPB := Lib.hid (hpb.below hb3 ho2)
    have HQ3 := Lib.hid hq3
    have HB3 := Lib.hid (HB1.out.trans ((hb2.trans (hb3.mono hb2.size)).mono HB1.out.size))
    have HO := Lib.hid (show o < w2.heap.size ∧ w2.heap.size < W3.heap.size ∧ w1.heap.size ≤ w2.heap.size from ⟨ho2, hq3.lt, hb2.size⟩)
    have HN3 := Lib.hid (numBad o 10 verN 1 1099511627776 W3 HPB.out (Nat.lt_trans ho2 hq3.lt))
    clear hb3 hq3 hpb ho1 ho2 hb2
    go_upto_region 6 with fail
    rw [← hW3]
    clear hW3
    go_wp2_with fail
    refine HN3.out.mono ?_
    clear HN3
    rintro e w4 ⟨rfl, hb4⟩
    have hq4 := below_row hb4 HQ3.out HQ3.out.lt
    have hp4 := HPB.out.below hb4 (by have := HO.out; omega)
    obtain ⟨W5, hW5⟩ : ∃ W5, W5 = w4.setCell ⟨w2.heap.size, 1, none⟩ (.int .i64 0) := ⟨_, rfl⟩
    have ht5 : Touch (fun b => b = w2.heap.size) w4 W5 := by rw [hW5]; exact touch_put _
    have hp5 : PickBad o 10 W5 := by
      obtain ⟨h1, h2, k, h3⟩ := hp4
      have hz := hb4.size
      have ho := HO.out
      exact ⟨h1, by rw [ht5.cell (p := ⟨o, 6, none⟩) (show o < w4.heap.size by omega) (show ¬ o = w2.heap.size by omega)]; exact h2, k, by rw [ht5.cell (p := ⟨o, 0, none⟩) (show o < w4.heap.size by omega) (show ¬ o = w2.heap.size by omega)]; exact h3⟩
    have u1 := hq4.cell (i := 1) (by decide)
    have f1 := hq4.frozen 1
    simp only [pick4] at u1
    have HP5 := Lib.hid hp5
    have hB3 := HB3.out.trans (hb4.mono HB3.out.size)
    have HB5 := Lib.hid (hB3.setCell (p := ⟨w2.heap.size, 1, none⟩) (Nat.le_trans HB1.out.size HO.out.2.2) (.int .i64 0))
    rw [← hW5] at HB5
    have hr5 := below_row HB5.out HR0.out HR0.out.lt
    have HRS := Lib.hid hr5
    have HW5 := Lib.hid hW5
    clear hq4 hp4 ht5 hp5 hW5 hb4 hr5
    go_upto_region 7 with fail
    rw [← HW5.out]
    clear u1 f1
    go_wp2_with fail
    refine (hasBad o 10 lenN W5 HP5.out).mono ?_
    rintro e w' ⟨rfl, h'⟩
    subst h'
    go_wp2_with fail
    refine (hasBad o 10 hasN W5 HP5.out).mono ?_
    rintro e w' ⟨rfl, h'⟩
    subst h'
    obtain ⟨k5, hk5⟩ := HP5.out.2.2
    have HDE := Lib.hid (doneErr o 10 k5 W5 (by decide) HP5.out.2.1 hk5)
    clear hk5
    go_wp2_with fail
    refine HDE.out.mono ?_
    rintro e w' ⟨rfl, h'⟩
    subst h'
    have hr := HRS.out
    have t0 := hr.cell (i := 0) (by decide); have t1 := hr.cell (i := 1) (by decide); have t2 := hr.cell (i := 2) (by decide); have t3 := hr.cell (i := 3) (by decide); have s0 := hr.frozen 0; have s1 := hr.frozen 1; have s2 := hr.frozen 2; have s3 := hr.frozen 3
    simp only [pick4] at t0 t1 t2 t3
    clear hr
    go_wp2
    exact bodyPost_ret (results_row_tmp Tryz.results29 _ _ (w.heap.size + 1) 36 _ (0, 0) _ rfl (row4_heap (set4 _ _ _ _ HRS.out)) Tryz.underlying36 rfl (by kernel_rfl) _ rfl) rfl (HEND.out _ _ HX.out HB5.out)

/-- Of any value of the call's own. -/
theorem snapPinOfA (f : ByteArray) (v : JV) (x : Value) (w : World) (lo hi : Nat) (hN : v.wt ≤ 4294967296) (hlo : 0 < lo) (hhi : hi ≤ w.heap.size) (hR : Rep w lo hi v x) (hf : f.size ≤ 9223372036854775807) :
    Calls Tryz.prog 29 #[.string f, x] w (PinAPost (pinOfA f v) w) := by
  by_cases hk : v.kind = 5
  case neg => exact snapPinOfN f v x w hN (hR.carry (Nat.zero_le _) hhi (fun _ _ _ => rfl)) hk hf
  refine (snapPinOfG (fun u => u = v) f v x w hN (hR.carry (Nat.zero_le _) hhi (fun _ _ _ => rfl)) hk hf (fun hm w1 hb => by
    obtain ⟨hri, hle, _⟩ := may_obj hm hk
    exact (pickOf_good v x w1 lo hi hN (Nat.le_trans hhi hb.size) (hR.below hb hhi (Nat.le_refl _) (Nat.le_refl _)) hk hri hle (fun _ _ => .inl hlo)).mono fun e w' h => ⟨v, rfl, h⟩)).mono ?_
  rintro e w' ⟨r, ha, hc, hr, rfl, h1, h2, h3⟩
  have : r = pinOfA f v := by
    unfold pinOfA
    rcases hr with ⟨ha, rfl⟩ | ⟨ha, u, rfl, rfl⟩
    · rw [if_pos ha]
    · rw [if_neg (by rw [ha]; decide), if_neg (by simp [hk])]
  subst this
  exact ⟨ha, hc, rfl, h1, h2, h3⟩
end Go.Proofs.YtgghgcilpfdbjaaGreatDoor

namespace Go.Proofs.YtgghgcilpfdbjaaGreatDoor
open Go.RowKit

def digB (l : List UInt8) : Bool := l.all fun c => decide (48 ≤ c.toNat) && decide (c.toNat ≤ 57)
theorem pad2 : ∀ k : Fin 100, (padL k.val 2).length = 2 ∧ digsN (padL k.val 2) 0 = (k.val : Int) ∧ digB (padL k.val 2) = true := by decide +kernel
theorem pad4a : ∀ a b : Fin 100, (padL (a.val * 100 + b.val) 4).length = 4 ∧ digsN (padL (a.val * 100 + b.val) 4) 0 = ((a.val * 100 + b.val : Nat) : Int) ∧ digB (padL (a.val * 100 + b.val) 4) = true := by decide +kernel
theorem pad4 (k : Nat) (h : k < 10000) : (padL k 4).length = 4 ∧ digsN (padL k 4) 0 = (k : Int) ∧ digB (padL k 4) = true := by
  have := pad4a ⟨k / 100, by omega⟩ ⟨k % 100, by omega⟩
  dsimp only at this
  rw [show k / 100 * 100 + k % 100 = k by omega] at this
  exact this
/-- The days of a year ahead of a month. -/
def aheadN (y m : Nat) : Nat := beforeN (m - 1) + (if 2 < m ∧ leapN y = true then 1 else 0)
theorem days_eq (y m : Nat) (hy : 1970 ≤ y ∧ y ≤ 9999) (h1 : 1 ≤ m) (h2 : m ≤ 12) : daysN y m = beforeN m - beforeN (m - 1) + (if m = 2 ∧ leapN y = true then 1 else 0) := by
  unfold daysN
  rw [if_pos ⟨hy.1, hy.2, h1, h2⟩]
theorem ahead_step (y m : Nat) (hy : 1970 ≤ y ∧ y ≤ 9999) (h1 : 1 ≤ m) (h2 : m ≤ 11) : aheadN y (m + 1) = aheadN y m + daysN y m := by
  rw [days_eq y m hy h1 (by omega)]
  unfold aheadN
  have hm : m = 1 ∨ m = 2 ∨ m = 3 ∨ m = 4 ∨ m = 5 ∨ m = 6 ∨ m = 7 ∨ m = 8 ∨ m = 9 ∨ m = 10 ∨ m = 11 := by omega
  rcases hm with rfl | rfl | rfl | rfl | rfl | rfl | rfl | rfl | rfl | rfl | rfl <;> cases leapN y <;> simp [beforeN]
theorem month_spec (y : Nat) (hy : 1970 ≤ y ∧ y ≤ 9999) : ∀ (f m d : Nat), 1 ≤ m → m ≤ 12 → aheadN y m + d = aheadN y (monthN y f m d).1 + (monthN y f m d).2 ∧ m ≤ (monthN y f m d).1 ∧ (monthN y f m d).1 ≤ 12 ∧ (12 ≤ m + f → (monthN y f m d).1 = 12 ∨ (monthN y f m d).2 < daysN y (monthN y f m d).1)
  | 0, m, d, h1, h2 => ⟨rfl, Nat.le_refl _, h2, fun h => .inl (by show m = 12; omega)⟩
  | f + 1, m, d, h1, h2 => by
    unfold monthN
    split
    · rename_i h
      obtain ⟨a, b, c, e⟩ := month_spec y hy f (m + 1) (d - daysN y m) (by omega) (by omega)
      have hs := ahead_step y m hy h1 (by omega)
      exact ⟨by omega, by omega, c, fun hf => e (by omega)⟩
    · rename_i h
      refine ⟨rfl, Nat.le_refl _, h2, fun _ => ?_⟩
      by_cases hm : m = 12
      · exact .inl hm
      · exact .inr (by show d < daysN y m; omega)
theorem year_spec (T : Nat) (hT : T = 9999) (f : Nat) : ∀ (y d : Nat), y ≤ T → startN y ≤ d → startN (yearN f y d) ≤ d ∧ y ≤ yearN f y d ∧ yearN f y d ≤ T ∧ (T ≤ y + f → yearN f y d = T ∨ d < startN (yearN f y d + 1)) := by
  induction f with
  | zero => intro y d h1 h2; exact ⟨h2, Nat.le_refl _, h1, fun h => .inl (Nat.le_antisymm h1 h)⟩
  | succ f ih =>
    intro y d h1 h2
    have e : yearN (f + 1) y d = if y < T ∧ startN (y + 1) ≤ d then yearN f (y + 1) d else y := by subst hT; rfl
    rw [e]
    by_cases h : y < T ∧ startN (y + 1) ≤ d
    · rw [if_pos h]
      obtain ⟨a, b, c, k⟩ := ih (y + 1) d h.1 h.2
      exact ⟨a, by omega, c, fun hf => k (by omega)⟩
    · rw [if_neg h]
      refine ⟨h2, Nat.le_refl _, h1, fun _ => ?_⟩
      by_cases hm : y = T
      · exact .inl hm
      · exact .inr (Nat.lt_of_not_le fun h' => h ⟨by omega, h'⟩)
theorem start_next (y : Nat) (h : 1970 ≤ y) : startN (y + 1) = startN y + 365 + (if leapN y = true then 1 else 0) := by
  have e : leapsN y = leapsN (y - 1) + (if leapN y = true then 1 else 0) := by
    obtain ⟨z, rfl⟩ : ∃ z, y = z + 1 := ⟨y - 1, by omega⟩
    simp only [Nat.add_sub_cancel]
    unfold leapsN leapN
    by_cases h4 : (z + 1) % 4 = 0 <;> by_cases h100 : (z + 1) % 100 = 0 <;> by_cases h400 : (z + 1) % 400 = 0 <;> simp [h4, h100, h400] <;> omega
  have hm : leapsN 1969 ≤ leapsN (y - 1) := by unfold leapsN; omega
  unfold startN
  rw [show y + 1 - 1 = y by omega, e]
  omega
theorem list4 {α : Type} {l : List α} (h : l.length = 4) : ∃ a b c d, l = [a, b, c, d] := by
  match l, h with
  | [a, b, c, d], _ => exact ⟨a, b, c, d, rfl⟩
theorem list2 {α : Type} {l : List α} (h : l.length = 2) : ∃ a b, l = [a, b] := by
  match l, h with
  | [a, b], _ => exact ⟨a, b, rfl⟩
/-- The parts of a moment. -/
theorem date_parts (n : Nat) (h : n ≤ 253402300799) : ∃ y m d t, dateL n = padL y 4 ++ [45] ++ padL m 2 ++ [45] ++ padL (d + 1) 2 ++ [84] ++ padL (t / 3600) 2 ++ [58] ++ padL (t / 60 % 60) 2 ++ [58] ++ padL (t % 60) 2 ++ [90] ∧
    1970 ≤ y ∧ y ≤ 9999 ∧ 1 ≤ m ∧ m ≤ 12 ∧ d < daysN y m ∧ t < 86400 ∧ n = (startN y + aheadN y m + d) * 86400 + t := by
  have hd : n / 86400 ≤ 2932896 := by omega
  obtain ⟨y, hy⟩ : ∃ y, y = yearN 8030 1970 (n / 86400) := ⟨_, rfl⟩
  have h0 : startN 1970 = 0 := by decide
  obtain ⟨y1, y2, y3, y4⟩ := year_spec 9999 rfl 8030 1970 (n / 86400) (by decide) (by omega)
  rw [← hy] at y1 y2 y3 y4
  have y5 : n / 86400 < startN (y + 1) := by
    rcases y4 (by decide) with e | e
    · rw [e]; exact Nat.lt_of_le_of_lt hd (by decide)
    · exact e
  obtain ⟨md, hmd⟩ : ∃ md, md = monthN y 12 1 (n / 86400 - startN y) := ⟨_, rfl⟩
  obtain ⟨m1, m2, m3, m4⟩ := month_spec y ⟨y2, y3⟩ 12 1 (n / 86400 - startN y) (Nat.le_refl _) (by decide)
  rw [← hmd] at m1 m2 m3 m4
  have ha1 : aheadN y 1 = 0 := by simp [aheadN, beforeN]
  have hn := start_next y y2
  have m5 : md.2 < daysN y md.1 := by
    rcases m4 (by decide) with e | e
    · rw [e] at m1 ⊢
      have e12 : aheadN y 12 + daysN y 12 = 365 + (if leapN y = true then 1 else 0) := by
        rw [days_eq y 12 ⟨y2, y3⟩ (by decide) (by decide)]
        unfold aheadN
        cases leapN y <;> simp [beforeN]
      omega
    · exact e
  refine ⟨y, md.1, md.2, n % 86400, ?_, y2, y3, m2, m3, m5, Nat.mod_lt _ (by decide), by omega⟩
  have e1 : dateL n = padL (yearN 8030 1970 (n / 86400)) 4 ++ [45] ++ padL (monthN (yearN 8030 1970 (n / 86400)) 12 1 (n / 86400 - startN (yearN 8030 1970 (n / 86400)))).1 2 ++ [45] ++ padL ((monthN (yearN 8030 1970 (n / 86400)) 12 1 (n / 86400 - startN (yearN 8030 1970 (n / 86400)))).2 + 1) 2 ++ [84] ++ padL (n % 86400 / 3600) 2 ++ [58] ++ padL (n % 86400 / 60 % 60) 2 ++ [58] ++ padL (n % 86400 % 60) 2 ++ [90] := rfl
  rw [e1, ← hy, ← hmd]
/-- The moment of its text. -/
theorem read_date (n : Nat) (h : n ≤ 253402300799) : readD (dateL n) = ((n : Int), 0) := by
  obtain ⟨y, m, d, t, e, y1, y2, m1, m2, d1, t1, hn⟩ := date_parts n h
  have hdm : daysN y m ≤ 31 := by
    unfold daysN
    rw [if_pos ⟨y1, y2, m1, m2⟩]
    have : ∀ k : Fin 13, 1 ≤ k.val → beforeN k.val - beforeN (k.val - 1) ≤ 31 ∧ (k.val = 2 → beforeN k.val - beforeN (k.val - 1) = 28) := by decide
    have h1 := this ⟨m, by omega⟩ m1
    dsimp only at h1
    split
    · rename_i hc; have := h1.2 hc.1; omega
    · omega
  obtain ⟨a1, a2, -⟩ := pad4 y (by omega)
  obtain ⟨b1, b2, -⟩ := pad2 ⟨m, by omega⟩
  obtain ⟨c1, c2, -⟩ := pad2 ⟨d + 1, by omega⟩
  obtain ⟨e1, e2, -⟩ := pad2 ⟨t / 3600, by omega⟩
  obtain ⟨f1, f2, -⟩ := pad2 ⟨t / 60 % 60, by omega⟩
  obtain ⟨g1, g2, -⟩ := pad2 ⟨t % 60, by omega⟩
  dsimp only at a1 a2 b1 b2 c1 c2 e1 e2 f1 f2 g1 g2
  rw [e]
  clear e
  generalize padL y 4 = A at *
  generalize padL m 2 = B at *
  generalize padL (d + 1) 2 = C at *
  generalize padL (t / 3600) 2 = E at *
  generalize padL (t / 60 % 60) 2 = F at *
  generalize padL (t % 60) 2 = G at *
  obtain ⟨A0, A1, A2, A3, rfl⟩ := list4 a1
  obtain ⟨B0, B1, rfl⟩ := list2 b1
  obtain ⟨C0, C1, rfl⟩ := list2 c1
  obtain ⟨E0, E1, rfl⟩ := list2 e1
  obtain ⟨F0, F1, rfl⟩ := list2 f1
  obtain ⟨G0, G1, rfl⟩ := list2 g1
  show readD [A0, A1, A2, A3, 45, B0, B1, 45, C0, C1, 84, E0, E1, 58, F0, F1, 58, G0, G1, 90] = _
  unfold readD
  rw [if_neg (by simp), if_neg (by simp)]
  simp only [List.take_succ_cons, List.take_zero, List.drop_succ_cons, List.drop_zero]
  rw [a2, b2, c2, e2, f2, g2]
  simp only [Int.toNat_natCast]
  rw [if_neg (show ¬ ((y : Int) < 0 ∨ (m : Int) < 0) by omega), if_neg (by omega), if_neg (by omega)]
  unfold aheadN at hn
  have hx : (if (2 : Int) < (m : Int) ∧ leapN y = true then (1 : Int) else 0) = ((if 2 < m ∧ leapN y = true then 1 else 0 : Nat) : Int) := by
    by_cases hc : 2 < m ∧ leapN y = true
    · rw [if_pos hc, if_pos ⟨by omega, hc.2⟩]; rfl
    · rw [if_neg hc, if_neg (fun h => hc ⟨by omega, h.2⟩)]; rfl
  rw [hx, Prod.mk.injEq]
  refine ⟨?_, rfl⟩
  generalize (if 2 < m ∧ leapN y = true then 1 else 0 : Nat) = lp at *
  omega
/-- Its bytes are digits, and the five that part them; it has twenty. -/
theorem date_bytes (n : Nat) (h : n ≤ 253402300799) : (dateL n).length = 20 ∧ ∀ c ∈ dateL n, (48 ≤ c.toNat ∧ c.toNat ≤ 58) ∨ c = 45 ∨ c = 84 ∨ c = 90 := by
  obtain ⟨y, m, d, t, e, y1, y2, m1, m2, d1, t1, hn⟩ := date_parts n h
  have hdm : daysN y m ≤ 31 := by
    rw [days_eq y m ⟨y1, y2⟩ m1 m2]
    have : ∀ k : Fin 13, 1 ≤ k.val → beforeN k.val - beforeN (k.val - 1) ≤ 31 ∧ (k.val = 2 → beforeN k.val - beforeN (k.val - 1) = 28) := by decide
    have h1 := this ⟨m, by omega⟩ m1
    dsimp only at h1
    split
    · rename_i hc; have := h1.2 hc.1; omega
    · omega
  obtain ⟨a1, -, a2⟩ := pad4 y (by omega)
  obtain ⟨b1, -, b2⟩ := pad2 ⟨m, by omega⟩
  obtain ⟨c1, -, c2⟩ := pad2 ⟨d + 1, by omega⟩
  obtain ⟨e1, -, e2⟩ := pad2 ⟨t / 3600, by omega⟩
  obtain ⟨f1, -, f2⟩ := pad2 ⟨t / 60 % 60, by omega⟩
  obtain ⟨g1, -, g2⟩ := pad2 ⟨t % 60, by omega⟩
  dsimp only at b1 b2 c1 c2 e1 e2 f1 f2 g1 g2
  have hd : ∀ {l : List UInt8}, digB l = true → ∀ c ∈ l, 48 ≤ c.toNat ∧ c.toNat ≤ 57 := fun h c hc => by
    have := List.all_eq_true.1 h c hc
    simpa using this
  rw [e]
  refine ⟨by simp [a1, b1, c1, e1, f1, g1], fun c hc => ?_⟩
  simp only [List.mem_append, List.mem_singleton] at hc
  have k58 : (58 : UInt8).toNat = 58 := rfl
  rcases hc with (((((((((((hc | hc) | hc) | hc) | hc) | hc) | hc) | hc) | hc) | hc) | hc) | hc)
  · have := hd a2 c hc; exact .inl (by omega)
  · exact .inr (.inl hc)
  · have := hd b2 c hc; exact .inl (by omega)
  · exact .inr (.inl hc)
  · have := hd c2 c hc; exact .inl (by omega)
  · exact .inr (.inr (.inl hc))
  · have := hd e2 c hc; exact .inl (by omega)
  · exact .inl (by rw [hc]; decide)
  · have := hd f2 c hc; exact .inl (by omega)
  · exact .inl (by rw [hc]; decide)
  · have := hd g2 c hc; exact .inl (by omega)
  · exact .inr (.inr (.inr hc))
end Go.Proofs.YtgghgcilpfdbjaaGreatDoor

namespace Go.Proofs.YtgghgcilpfdbjaaGreatDoor
open Go.RowKit

structure PinsOwn (B : Nat) (w : World) (vs : Value) (qs : List PinC) : Prop where
  own : w.ownsRow B 36 4 vs qs.length (qs.flatMap encQ)
  cap : ∀ q ∈ qs, q.1.hs.length ≤ q.2.2
  keys : ∀ q ∈ qs, ∃ lo hi, B ≤ lo ∧ hi ≤ w.heap.size ∧ (∀ b, vs.ownBlock = some b → ¬ (lo ≤ b ∧ b < hi)) ∧ KeysW w lo hi q.2.1 q.1.hs
theorem PinsOwn.nil (B : Nat) (w : World) : PinsOwn B w (.slice none 0 0) [] := ⟨World.ownsRow_nil _ _ _ _, by simp, by simp⟩
theorem PinsOwn.touch {S : Nat → Prop} {B : Nat} {w w' : World} {vs : Value} {qs : List PinC} (h : PinsOwn B w vs qs) (hT : Touch S w w') (hS : ∀ k, B ≤ k → ¬ S k) : PinsOwn B w' vs qs :=
  ⟨owns_touch h.own hT hS, h.cap, fun q hq => by
    obtain ⟨lo, hi, h1, h2, h3, hk⟩ := h.keys q hq
    exact ⟨lo, hi, h1, Nat.le_trans h2 hT.size, h3, hk.carry (Nat.le_refl _) (Nat.le_refl _) (fun b b1 b2 => hT.block b (by omega) (hS b (by omega)))⟩⟩
theorem PinsOwn.below {B : Nat} {w w' : World} {vs : Value} {qs : List PinC} (h : PinsOwn B w vs qs) (hb : Below w.heap.size w w') : PinsOwn B w' vs qs :=
  h.touch (Touch.of_below (S := fun _ => False) hb (Nat.le_refl _)) (fun _ _ h => h)
theorem PinsOwn.mono {B B' : Nat} {w : World} {vs : Value} {qs : List PinC} (h : PinsOwn B w vs qs) (hB : B' ≤ B) : PinsOwn B' w vs qs :=
  ⟨owns_mono h.own hB, h.cap, fun q hq => by
    obtain ⟨lo, hi, h1, h2⟩ := h.keys q hq
    exact ⟨lo, hi, Nat.le_trans hB h1, h2⟩⟩
theorem PinsOwn.snoc {B : Nat} {w w' : World} {v v' : Value} {qs : List PinC} (h : PinsOwn B w v qs) (q : PinC) (lo hi : Nat) (h1 : B ≤ lo) (h2 : hi ≤ w.heap.size) (h3 : ∀ b, v.ownBlock = some b → ¬ (lo ≤ b ∧ b < hi)) (hc : q.1.hs.length ≤ q.2.2) (hk : KeysW w lo hi q.2.1 q.1.hs)
    (hg : w.grownBy w' v.ownBlock) (hown : w'.ownsRow B 36 4 v' (qs.length + 1) (qs.flatMap encQ ++ encQ q)) (hat : v'.ownBlock = v.ownBlock ∨ ∃ g, v'.ownBlock = some g ∧ w.heap.size ≤ g) : PinsOwn B w' v' (qs ++ [q]) := by
  have hx : ∀ {lo hi : Nat}, hi ≤ w.heap.size → (∀ b, v.ownBlock = some b → ¬ (lo ≤ b ∧ b < hi)) → ∀ b, v'.ownBlock = some b → ¬ (lo ≤ b ∧ b < hi) := fun hz hn b hb => by
    rcases hat with e | ⟨g, e, hge⟩
    · exact hn b (by rw [← e]; exact hb)
    · rw [e] at hb; simp at hb; omega
  have hcar : ∀ {lo hi : Nat} {a : Option Addr} {l : List Key2}, hi ≤ w.heap.size → (∀ b, v.ownBlock = some b → ¬ (lo ≤ b ∧ b < hi)) → KeysW w lo hi a l → KeysW w' lo hi a l := fun hz hn hr =>
    hr.carry (Nat.le_refl _) (Nat.le_refl _) (fun b hb1 hb2 => hg.block b (by omega) (fun e => hn b e.symm ⟨hb1, hb2⟩))
  refine ⟨?_, fun p hp => ?_, fun p hp => ?_⟩
  · rw [List.length_append, List.flatMap_append]; simpa using hown
  · rcases List.mem_append.1 hp with hp | hp
    · exact h.cap p hp
    · obtain rfl : p = q := by simpa using hp
      exact hc
  · rcases List.mem_append.1 hp with hp | hp
    · obtain ⟨lo', hi', k1, k2, k3, hk'⟩ := h.keys p hp
      exact ⟨lo', hi', k1, Nat.le_trans k2 hg.size, hx k2 k3, hcar k2 k3 hk'⟩
    · obtain rfl : p = q := by simpa using hp
      exact ⟨lo, hi, h1, Nat.le_trans h2 hg.size, hx h2 h3, hcar h2 h3 hk⟩
/-- As pins lie. -/
theorem PinsOwn.pins {B : Nat} {w : World} {a : Option Addr} {n c : Nat} {qs : List PinC} (h : PinsOwn B w (.slice a n c) qs) : n = qs.length ∧ PinsAt w B w.heap.size a (qs.map (·.1)) := by
  have ho := h.own
  rcases h.own.2 with ⟨hv, h0⟩ | ⟨g, cap, cur, hv, hg, hh, hc, hm, hs, ht⟩
  · simp only [Value.slice.injEq] at hv
    exact ⟨by omega, .inl (by rw [List.eq_nil_of_length_eq_zero h0]; rfl)⟩
  · simp only [Value.slice.injEq] at hv
    obtain ⟨rfl, rfl, rfl⟩ := hv
    refine ⟨rfl, .inr ⟨g, 0, rfl, hg, heap_lt hh, fun i hi2 => ?_⟩⟩
    have hi3 : i < qs.length := by simpa using hi2
    have cell : ∀ q (hq : q < 4), w.cell? ⟨g, 0 + i * 4 + q, none⟩ = some ((encQ qs[i])[q]'(by rw [encQ_len]; exact hq)) := fun q hq => by
      have e : (⟨g, 0, none⟩ : Addr).add (i * 4 + q) = ⟨g, i * 4 + q, none⟩ := by unfold Addr.add; split <;> simp_all
      have := ho.cells (g := g) rfl _ _ (flatQ_get qs i q hi3 hq)
      rw [e] at this
      rw [show 0 + i * 4 + q = i * 4 + q by omega]; exact this
    obtain ⟨lo, hi, k1, k2, _, hk⟩ := h.keys qs[i] (List.getElem_mem hi3)
    rw [List.getElem_map]
    exact ⟨cell 0 (by decide), cell 1 (by decide), cell 2 (by decide), qs[i].2.1, qs[i].2.2, cell 3 (by decide), h.cap _ (List.getElem_mem hi3), (hk.carry k1 k2 (fun _ _ _ => rfl)).1⟩
end Go.Proofs.YtgghgcilpfdbjaaGreatDoor

namespace Go.Proofs.YtgghgcilpfdbjaaGreatDoor
open Go.RowKit

/-- Block b has m cells from off on; it bears no mark. -/
def Room (w : World) (b off m : Nat) : Prop := ∃ cs t, w.heap[b]? = some (.cells cs t (0, 0)) ∧ off + m ≤ cs.size
theorem Room.cell {w : World} {b off m : Nat} (h : Room w b off m) (j : Nat) (hj : j < off + m) : ∃ v, w.cell? ⟨b, j, none⟩ = some v := by
  obtain ⟨cs, t, h1, h2⟩ := h
  exact ⟨cs[j]'(by omega), by simp [World.cell?, h1, Array.getElem?_eq_getElem (show j < cs.size by omega)]⟩
theorem Room.frozen {w : World} {b off m : Nat} (h : Room w b off m) (j : Nat) : w.frozen? ⟨b, j, none⟩ = false := by
  obtain ⟨cs, t, h1, h2⟩ := h
  simp [World.frozen?, h1]
theorem Room.set {w : World} {b off m : Nat} (h : Room w b off m) (j : Nat) (v : Value) : Room (w.setCell ⟨b, j, none⟩ v) b off m := by
  obtain ⟨cs, t, h1, h2⟩ := h
  exact ⟨cs.setIfInBounds j v, t, by simp [World.setCell, Array.getElem?_modify, h1], by simpa using h2⟩
theorem Room.of_block {w w' : World} {b off m : Nat} (h : Room w b off m) (e : w'.heap[b]? = w.heap[b]?) : Room w' b off m := by
  obtain ⟨cs, t, h1, h2⟩ := h
  exact ⟨cs, t, by rw [e]; exact h1, h2⟩
theorem Room.lt {w : World} {b off m : Nat} (h : Room w b off m) : b < w.heap.size := by
  obtain ⟨cs, t, h1, h2⟩ := h
  exact (Array.getElem?_eq_some_iff.1 h1).1
/-- The Items of a value of the call's own. -/
theorem ValsAt.room {w : World} {lo hi : Nat} {a : Option Addr} {l : List JV} (h : ValsAt w lo hi a l) (hlo : 0 < lo) :
    l.length = 0 ∨ ∃ b off, a = some ⟨b, off, none⟩ ∧ lo ≤ b ∧ b < hi ∧ Room w b off (l.length * 5) := by
  rcases h with h | ⟨b, off, ha, hb, hb', hu, hr⟩
  · exact .inl (by rw [h]; rfl)
  · by_cases h0 : l.length = 0
    · exact .inl h0
    · refine .inr ⟨b, off, ha, hb, hb', ?_⟩
      obtain ⟨cs, t, fr, h1, h2⟩ := hu
      rw [h2 hlo] at h1
      refine ⟨cs, t, h1, ?_⟩
      obtain ⟨c0, c1, c2, c3, c4, _, _, _, _, e4, _⟩ := hr.at (l.length - 1) (by omega)
      simp only [World.cell?, h1] at e4
      have := (Array.getElem?_eq_some_iff.1 (by simpa using e4)).1
      omega

/-- The Names of a value of the call's own. (Their block may bear a mark: nothing is said of that.) -/
def SpoilRel (B p n : Nat) (ai : Option Addr) (W : World) (i : Value) (wr : World) : Prop :=
  ∃ q : Nat, q ≤ n ∧ i = .int .i64 q ∧ Touch (fun k => B ≤ k ∧ k < p) W wr ∧ (n = 0 ∨ ∃ b off, ai = some ⟨b, off, none⟩ ∧ B ≤ b ∧ b < p ∧ Room wr b off (n * 5))

theorem SpoilRel.set {B p n : Nat} {W wr : World} {b off q : Nat} {v0 v1 v2 v3 v4 : Value} (hq : q < n) (ht : Touch (fun k => B ≤ k ∧ k < p) W wr) (hb : B ≤ b) (hb' : b < p) (hr : Room wr b off (n * 5)) :
    SpoilRel B p n (some ⟨b, off, none⟩) W (.int .i64 ((q : Int) + 1)) (((((wr.setCell ⟨b, off + q * 5, none⟩ v0).setCell ⟨b, off + q * 5 + 1, none⟩ v1).setCell ⟨b, off + q * 5 + 2, none⟩ v2).setCell ⟨b, off + q * 5 + 3, none⟩ v3).setCell ⟨b, off + q * 5 + 4, none⟩ v4) :=
  ⟨q + 1, by omega, by simp, ((((ht.setCell (.inl ⟨hb, hb'⟩) _).setCell (.inl ⟨hb, hb'⟩) _).setCell (.inl ⟨hb, hb'⟩) _).setCell (.inl ⟨hb, hb'⟩) _).setCell (.inl ⟨hb, hb'⟩) _, .inr ⟨b, off, rfl, hb, hb', ((((hr.set _ _).set _ _).set _ _).set _ _).set _ _⟩⟩

end Go.Proofs.YtgghgcilpfdbjaaGreatDoor
