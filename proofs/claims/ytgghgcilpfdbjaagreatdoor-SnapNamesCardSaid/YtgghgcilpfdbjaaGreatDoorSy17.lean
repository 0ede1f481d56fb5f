/- The contract of legateref08.Same: equal in all parts. -/
import Derived.Test.YtgghgcilpfdbjaaGreatDoorSy16
import Derived.Test.YtgghgcilpfdbjaaGreatDoorSy08
import Derived.Test.YtgghgcilpfdbjaaGreatDoorSy06
import Derived.Test.YtgghgcilpfdbjaaGreatDoorSy01
import Derived.Test.YtgghgcilpfdbjaaGreatDoorSy02
import Derived.Outline
import Derived.OwnWalk
import Derived.Test.YtgghgcilpfdbjaaGreatDoorSy04
import Derived.Test.YtgghgcilpfdbjaaGreatDoorSy15
import Derived.Test.YtgghgcilpfdbjaaGreatDoorSy14
import Derived.Test.YtgghgcilpfdbjaaGreatDoorSy00
import Derived.StillTailTactics

namespace Go.Proofs.YtgghgcilpfdbjaaGreatDoor
open Go.RowKit
def HashOfPost (v : JV) (w : World) (e : Ending) (w' : World) : Prop :=
 ∃ a c, e = .returned (.tuple #[.slice a (hashesOfJ v).1.length c, .int .i64 (hashesOfJ v).2]) ∧ KeysW w' w.heap.size w'.heap.size a (hashesOfJ v).1 ∧ (hashesOfJ v).1.length ≤ c ∧ Below w.heap.size w w'
theorem hashOf_no {v : JV} {er : Int} (h : hashesOfJ v = ([], er)) {w w' : World} (hb : Below w.heap.size w w') : HashOfPost v w (.returned (.tuple #[.slice none 0 0, .int .i64 er])) w' := by
 unfold HashOfPost
 rw [h]
 exact ⟨none, 0, rfl, KeysW.nil _ _ _ _, Nat.le_refl _, hb⟩
theorem owns_cap {w : World} {base e size n c : Nat} {a : Option Addr} {xs : List Value} (h : w.ownsRow base e size (.slice a n c) n xs) : n ≤ c := by
 rcases h.2 with ⟨hv, h0⟩ | ⟨g, cap, cur, hv, _, _, hc, _⟩
 · omega
 · simp only [Value.slice.injEq] at hv
   obtain ⟨-, -, rfl⟩ := hv
   exact hc
set_option maxHeartbeats 4000000 in
set_option maxRecDepth 100000 in
theorem recHashesOf (v : JV) (x : Value) (w : World) (hN : v.wt ≤ 4294967296) (hR : Rep w 0 w.heap.size v x) : Calls Tryz.prog 64 #[x] w (HashOfPost v w) := by
 obtain ⟨an, cn, ai, ci, hx, hcn, hci, h3, h4⟩ := hR.parts
 subst hx
 obtain ⟨W2, hW2⟩ : ∃ W2, W2 = w.alloc (.cells #[.int .u8 v.kind, .int .i64 v.n, .string v.t, .slice an v.names.length cn, .slice ai v.items.length ci] 30) := ⟨_, rfl⟩
 have hb2 : Below w.heap.size w W2 := by rw [hW2]; exact (Below.refl _ _).alloc (Nat.le_refl _) _
 have hx0 : W2.heap[w.heap.size]? = some (.cells #[.int .u8 v.kind, .int .i64 v.n, .string v.t, .slice an v.names.length cn, .slice ai v.items.length ci] 30 (0, 0)) := by rw [hW2]; exact heap_alloc_new w _
 have HM := Lib.hid (valueMay v _ W2 hN (hR.below hb2 (Nat.le_refl _) (Nat.zero_le _) hb2.size))
 have HC := Lib.hid (show ∀ w' : World, Below W2.heap.size W2 w' → w'.cell? ⟨w.heap.size, 0, none⟩ = some (.int .u8 v.kind) ∧ w'.cell? ⟨w.heap.size, 1, none⟩ = some (.int .i64 v.n) ∧ w'.cell? ⟨w.heap.size, 2, none⟩ = some (.string v.t) ∧ w'.cell? ⟨w.heap.size, 3, none⟩ = some (.slice an v.names.length cn) ∧ w'.cell? ⟨w.heap.size, 4, none⟩ = some (.slice ai v.items.length ci) from fun w' h => by
   have x := (h.block _ (heap_lt hx0)).trans hx0
   exact ⟨box_cell x rfl, box_cell x rfl, box_cell x rfl, box_cell x rfl, box_cell x rfl⟩)
 have HST := Lib.hid (show ∀ w' : World, Below W2.heap.size W2 w' → StrsAt w' 0 w'.heap.size an v.names ∧ ValsAt w' 0 w'.heap.size ai v.items from fun w' h => ⟨h3.below (hb2.trans (h.mono hb2.size)) (Nat.le_refl _) (Nat.zero_le _) (Nat.le_trans hb2.size h.size), h4.below (hb2.trans (h.mono hb2.size)) (Nat.le_refl _) (Nat.zero_le _) (Nat.le_trans hb2.size h.size)⟩)
 have HB2 := Lib.hid hb2
 have HW := Lib.hid hW2
 have HZ2 := Lib.hid (show w.heap.size < W2.heap.size from heap_lt hx0)
 clear h3 h4 hR hW2 hb2 hx0
 obtain ⟨c0, c1, c2, c3, c4⟩ := HC.out W2 (Below.refl _ _)
 go_enter Tryz.func64, Tryz.ntmps64
 go_upto_region 1 with fail
 rw [← HW.out]
 cases hm : v.mayB with
 | false =>
   have HX := Lib.hid (show hashesOfJ v = ([], 3) by unfold hashesOfJ; rw [if_pos hm])
   rw [hm] at HM
   clear hm
   go_wp2_with fail
   refine HM.out.mono ?_
   clear HM c0 c1 c2 c3 c4
   rintro r w1 ⟨rfl, hb1⟩
   have HB1 := Lib.hid (HB2.out.trans (hb1.mono HB2.out.size))
   clear hb1
   go_wp2
   go_ret2
   exact hashOf_no HX.out HB1.out
 | true =>
   have HMB := Lib.hid hm
   rw [hm] at HM
   clear hm
   go_wp2_with fail
   refine HM.out.mono ?_
   clear HM c0 c1 c2 c3 c4
   rintro r w1 ⟨rfl, hb1⟩
   have HB1 := Lib.hid hb1
   obtain ⟨c0, c1, c2, c3, c4⟩ := HC.out w1 hb1
   clear hb1
   by_cases hk : v.kind = 5
   case neg =>
     have hd : ((v.kind : Int) != 5) = true := bne_iff_ne.2 hk
     have HX := Lib.hid (show hashesOfJ v = ([], 10) by unfold hashesOfJ; rw [if_neg (by rw [HMB.out]; decide), if_pos hk])
     clear hk
     go_wp2
     go_ret2
     exact hashOf_no HX.out (HB2.out.trans (HB1.out.mono HB2.out.size))
   have hd : ((v.kind : Int) != 5) = false := by rw [hk]; rfl
   obtain ⟨hri, hle, htx⟩ := may_obj HMB.out hk
   have HTS := Lib.hid (show ∀ i (h : i < v.names.length), v.names[i].size ≤ 4294967296 from fun i hi => by
     have := List.all_eq_true.1 htx _ (List.getElem_mem hi)
     unfold txtOk at this; simp at this; omega)
   have HK := Lib.hid hk
   have HLE := Lib.hid hle
   clear hri htx hk hle
   by_cases h4 : 4 < v.names.length
   · have hd2 : decide ((4 : Int) < v.names.length) = true := by simp; omega
     have HX := Lib.hid (show hashesOfJ v = ([], 5) by unfold hashesOfJ; rw [if_neg (by rw [HMB.out]; decide), if_neg (by rw [HK.out]; decide), if_pos h4])
     go_wp2
     go_ret2
     exact hashOf_no HX.out (HB2.out.trans (HB1.out.mono HB2.out.size))
   have hd2 : decide ((4 : Int) < v.names.length) = false := by simp; omega
   by_cases h0 : v.names.length = 0
   · have hd3 : ((v.names.length : Int) == 0) = true := by rw [h0]; rfl
     have HX := Lib.hid (show hashesOfJ v = ([], 4) by unfold hashesOfJ; rw [if_neg (by rw [HMB.out]; decide), if_neg (by rw [HK.out]; decide), if_neg h4, if_pos h0])
     go_wp2
     go_ret2
     exact hashOf_no HX.out (HB2.out.trans (HB1.out.mono HB2.out.size))
   have hd3 : ((v.names.length : Int) == 0) = false := beq_eq_false_iff_ne.2 (by omega)
   have HX := Lib.hid (show hashesOfJ v = hashLoop v.names v.items [] by unfold hashesOfJ; rw [if_neg (by rw [HMB.out]; decide), if_neg (by rw [HK.out]; decide), if_neg h4, if_neg h0])
   obtain ⟨i1, hi1, hy0, hy1, hy2⟩ := info_parts infoHash
   have h1z : W2.heap.size ≤ w1.heap.size := HB1.out.size
   go_upto_region 11 with (at_make; refine wpList_make_own _ rfl (.const (.int .i64 0)) (.tmp 24) 34 rfl W2.heap.size 62 i1 _ 2 Tryz.underlying34 hi1 hy0 hy1 .i64 .i64 _ v.names.length rfl rfl rfl (by rw [hy2]; omega) (by unfold maxLen; omega) h1z ?_; intro w4 hown4 hgrow4; have HO4 := Lib.hid hown4; have HB4 := Lib.hid (below_grown (v := .slice none 0 0) HB1.out h1z hgrow4 (fun b hb => by cases hb)); obtain ⟨c0, c1, c2, c3, c4⟩ := HC.out w4 HB4.out; clear hown4 hgrow4)
   clear c0 c1 c2 c3 c4 hd hd2 hd3
   obtain ⟨nn, hnn⟩ : ∃ nn, nn = v.names.length := ⟨_, rfl⟩
   rw [← hnn] at HO4 ⊢
   have HNN := Lib.hid hnn
   have hn0 : 0 < nn := by omega
   have hn4 : nn ≤ 4 := by omega
   clear hnn h0 h4
   go_loopw [4, 5, 6, 7, 29] (fun s4 _ _ _ i wr => ∃ (k : Nat) (acc : List Key2), k ≤ nn ∧ i = .int .i64 k ∧ acc.length = k ∧ hashesOfJ v = hashLoop (v.names.drop k) (v.items.drop k) acc ∧ (∃ g cap, s4 = .slice (some ⟨g, 0, none⟩) k cap) ∧ wr.ownsRow W2.heap.size 62 2 s4 k (acc.flatMap encK) ∧ Below W2.heap.size W2 wr) (fun _ _ _ _ i _ => nn - (intOf i).toNat)
   case atStart => exact ⟨0, [], by omega, rfl, rfl, HX.out, ⟨_, _, rfl⟩, HO4.out, HB4.out⟩
   case round =>
     obtain ⟨k, acc, hk, rfl, hacc, hh, hsl, hown, hb⟩ := hrel
     have HB := Lib.hid hb
     have HH := Lib.hid hh
     have HOW := Lib.hid hown
     have HAC := Lib.hid hacc
     obtain ⟨g0, cap0, rfl⟩ := hsl
     clear HO4 HB4 HB1 h1z hh hown hacc
     obtain ⟨c0, c1, c2, c3, c4⟩ := HC.out wr hb
     by_cases hlt : k < nn
     · have hst := HST.out wr hb
       have hkn : k < v.names.length := by have := HNN.out; omega
       have hki : k < v.items.length := by have := HLE.out; have := HNN.out; omega
       have hs2k : ∃ b2 o2, an = some ⟨b2, o2, none⟩ ∧ b2 < wr.heap.size ∧ wr.cell? ⟨b2, o2 + k, none⟩ = some (.string v.names[k]) := by
         rcases hst.1 with h | ⟨b, off, ha, _, hb', hc⟩
         · have := congrArg List.length h; rw [List.length_nil] at this; omega
         · exact ⟨b, off, ha, hb', hc k hkn⟩
       have hs3k : ∃ b3 o3 an3 cn3 ai3 ci3, ai = some ⟨b3, o3, none⟩ ∧ b3 < wr.heap.size ∧ wr.cell? ⟨b3, o3 + k * 5, none⟩ = some (.int .u8 v.items[k].kind) ∧ wr.cell? ⟨b3, o3 + k * 5 + 1, none⟩ = some (.int .i64 v.items[k].n) ∧ wr.cell? ⟨b3, o3 + k * 5 + 2, none⟩ = some (.string v.items[k].t) ∧ wr.cell? ⟨b3, o3 + k * 5 + 3, none⟩ = some (.slice an3 v.items[k].names.length cn3) ∧ wr.cell? ⟨b3, o3 + k * 5 + 4, none⟩ = some (.slice ai3 v.items[k].items.length ci3) := by
         rcases hst.2 with h | ⟨b, off, ha, _, hb', _, hr⟩
         · have := congrArg List.length h; rw [List.length_nil] at this; omega
         · obtain ⟨x0, x1, x2, x3, x4, m0, m1, m2, m3, m4, _, hR⟩ := hr.at k hki
           obtain ⟨an3, cn3, ai3, ci3, hx, _, _, _, _⟩ := hR.parts
           simp only [Value.agg.injEq, Array.mk.injEq, List.cons.injEq, and_true] at hx
           obtain ⟨rfl, rfl, rfl, rfl, rfl⟩ := hx
           exact ⟨b, off, an3, cn3, ai3, ci3, ha, hb', m0, m1, m2, m3, m4⟩
       obtain ⟨b2, o2, rfl, hb2', n0⟩ := hs2k
       obtain ⟨b3, o3, an3, cn3, ai3, ci3, rfl, hb3', m0, m1, m2, m3, m4⟩ := hs3k
       have HSTEP := Lib.hid (HH.out.trans (hashLoop_at k hkn hki))
       have HNS := Lib.hid (HTS.out k hkn)
       have HIT := Lib.hid (show v.items[k].t.size ≤ 4294967296 by
         have h1 := wts_item v.items k hki
         have h2 := v.wt_bd
         have h3 := v.items[k].wt_bd
         omega)
       obtain ⟨nm, hnm⟩ : ∃ nm, nm = v.names[k]'hkn := ⟨_, rfl⟩
       obtain ⟨it, hit⟩ : ∃ it, it = v.items[k]'hki := ⟨_, rfl⟩
       rw [← hnm] at n0 HSTEP HNS
       rw [← hit] at m0 m1 m2 m3 m4 HSTEP HIT
       have HNR := Lib.hid (fun w' => nameRole nm w' (Nat.le_trans HNS.out (by decide)))
       have HDG := Lib.hid (fun w' => recDigits it.t w' (Nat.le_trans HIT.out (by decide)))
       clear hnm hit hst hb hkn
       cases hro : roleOk nm.data.toList with
       | false =>
         have HF := Lib.hid (show hashesOfJ v = ([], 3) by rw [HSTEP.out, if_pos hro])
         rw [hro] at HNR
         clear hro
         go_wp2_with fail
         refine (HNR.out wr).mono ?_
         rintro r w5 ⟨rfl, rfl⟩
         go_wp2
         go_ret2
         exact hashOf_no HF.out (HB2.out.trans (HB.out.mono HB2.out.size))
       | true =>
       have HRO := Lib.hid hro
       rw [hro] at HNR
       clear hro
       go_wp2_with fail
       refine (HNR.out wr).mono ?_
       rintro r w5 ⟨rfl, rfl⟩
       go_upto_region 16 with fail
       obtain ⟨W6, hW6⟩ : ∃ W6, W6 = wr.alloc (.cells #[.int .u8 it.kind, .int .i64 it.n, .string it.t, .slice an3 it.names.length cn3, .slice ai3 it.items.length ci3] 30) := ⟨_, rfl⟩
       have hb6 : Below wr.heap.size wr W6 := by rw [hW6]; exact (Below.refl _ _).alloc (Nat.le_refl _) _
       have hx6 : W6.heap[wr.heap.size]? = some (.cells #[.int .u8 it.kind, .int .i64 it.n, .string it.t, .slice an3 it.names.length cn3, .slice ai3 it.items.length ci3] 30 (0, 0)) := by rw [hW6]; exact heap_alloc_new wr _
       have y0 : W6.cell? ⟨wr.heap.size, 0, none⟩ = some (.int .u8 it.kind) := box_cell hx6 rfl
       have y2 : W6.cell? ⟨wr.heap.size, 2, none⟩ = some (.string it.t) := box_cell hx6 rfl
       have HB6 := Lib.hid (HB.out.trans (hb6.mono HB.out.size))
       have HO6 := Lib.hid (owns_below HOW.out hb6)
       rw [← hW6]
       clear hW6 hx6 hb6 m0 m1 m2 m3 m4 n0 c0 c1 c2 c3 c4
       by_cases hik : it.kind = 3
       case neg =>
         have hd : ((it.kind : Int) != 3) = true := bne_iff_ne.2 hik
         have HF := Lib.hid (show hashesOfJ v = ([], 10) by rw [HSTEP.out, if_neg (by rw [HRO.out]; decide), if_pos hik])
         clear hik
         go_wp2
         go_ret2
         exact hashOf_no HF.out (HB2.out.trans (HB6.out.mono HB2.out.size))
       have hd : ((it.kind : Int) != 3) = false := by rw [hik]; rfl
       have HIK := Lib.hid hik
       clear hik
       cases hpo : pubOk it.t.data.toList with
       | false =>
         have HF := Lib.hid (show hashesOfJ v = ([], 3) by rw [HSTEP.out, if_neg (by rw [HRO.out]; decide), if_neg (by rw [HIK.out]; decide), if_pos hpo])
         rw [hpo] at HDG
         clear hpo
         go_wp2_with fail
         refine (HDG.out W6).mono ?_
         rintro r w7 ⟨rfl, rfl⟩
         go_wp2
         go_ret2
         exact hashOf_no HF.out (HB2.out.trans (HB6.out.mono HB2.out.size))
       | true =>
       have HF := Lib.hid (show hashesOfJ v = hashLoop (v.names.drop (k + 1)) (v.items.drop (k + 1)) (acc ++ [(nm, it.t)]) by rw [HSTEP.out, if_neg (by rw [HRO.out]; decide), if_neg (by rw [HIK.out]; decide), if_neg (by rw [hpo]; decide)])
       rw [hpo] at HDG
       clear hpo
       go_wp2_with fail
       refine (HDG.out W6).mono ?_
       rintro r w7 ⟨rfl, rfl⟩
       have h6z : W2.heap.size ≤ W6.heap.size := HB6.out.size
       have hbe : Below W6.heap.size W6 (W6.alloc (.cells #[.string nm, .string it.t] 62)) := (Below.refl _ _).alloc (Nat.le_refl _) _
       have HO7 := Lib.hid (owns_below HO6.out hbe)
       have HB7 := Lib.hid (HB6.out.trans (hbe.mono h6z))
       have h7z : W2.heap.size ≤ (W6.alloc (.cells #[.string nm, .string it.t] 62)).heap.size := HB7.out.size
       clear hbe
       go_wp2_with (at_builtin; refine wpList_append_lies _ rfl (.tmp 49) (.tmp 54) 34 rfl W2.heap.size 62 i1 _ 2 32 Tryz.underlying34 hi1 hy0 hy1 hy2 rfl (by omega) (.slice (some ⟨g0, 0, none⟩) k cap0) k (acc.flatMap encK) rfl HO7.out ⟨W6.heap.size, 0, none⟩ 1 1 (encK (nm, it.t)) rfl rfl (World.news_of_block (cs := #[.string nm, .string it.t]) (t := 62) (fr := (0, 0)) (heap_alloc_new W6 _)) (fun u hu => by simp [encK] at hu; rcases hu with rfl | rfl <;> rfl) (by omega) (by unfold maxLen; omega) (by omega) h7z _ rfl ?_; intro g2 cap3 w8 hown8 hgrow8 hat8 hlt8; have HO8 := Lib.hid hown8; have HB8 := Lib.hid (below_grown HB7.out h7z hgrow8 (fun b hb => (HO7.out.lt b hb).1)); clear hown8 hgrow8 hat8)
       go_roundw
       case rel => exact ⟨k + 1, acc ++ [(nm, it.t)], by omega, by go_num, by rw [List.length_append, HAC.out]; rfl, HF.out, ⟨g2, cap3, rfl⟩, by rw [List.flatMap_append]; simpa using HO8.out, HB8.out⟩
       case measure => simp [intOf]; omega
     · have hkk : v.names.length ≤ k := by have := HNN.out; omega
       have HE := Lib.hid (HH.out.trans (hashLoop_end k hkk))
       have HKA := Lib.hid (owns_keysW HOW.out HAC.out.symm)
       have hkn : k = nn := by omega
       subst hkn
       clear hb
       go_wp2
       go_ret2
       obtain ⟨z, zc, hz, hzk⟩ := HKA.out
       show HashOfPost v w (.returned (.tuple #[.slice (some ⟨g0, 0, none⟩) k cap0, .int .i64 0])) wr
       unfold HashOfPost
       rw [HE.out]
       have hcap := owns_cap HOW.out
       simp only [Value.slice.injEq] at hz
       obtain ⟨rfl, hz2, rfl⟩ := hz
       exact ⟨_, _, by rw [← hz2], hzk.carry (Nat.le_of_lt HZ2.out) (Nat.le_refl _) (fun _ _ _ => rfl), by rw [← hz2]; exact hcap, HB2.out.trans (HB.out.mono HB2.out.size)⟩
end Go.Proofs.YtgghgcilpfdbjaaGreatDoor

namespace Go.Proofs.YtgghgcilpfdbjaaGreatDoor
open Go.RowKit Go.WideMaps Go.Maps
set_option maxHeartbeats 400000 in
theorem hasBad (o : Nat) (err : Int) (y : ByteArray) (w : World) (h : PickBad o err w) :
   Calls Tryz.prog 63 #[.pointer (some ⟨o, 0, none⟩), .string y] w fun e w' => e = .returned (.bool false) ∧ w = w' := by
 obtain ⟨he, c6, k, c0⟩ := h
 have he' : (err == 0) = false := by simpa using he
 have he2 : (err != 0) = true := by simpa using he
 have HE := Lib.hid he
 clear he
 go_enter Tryz.func63, Tryz.ntmps63
 go_wp2_with fail
 refine (pickErr o err k w c6 c0 (fun h => absurd h HE.out)).mono ?_
 rintro r w' ⟨rfl, rfl⟩
 go_wp2
 go_ret
 exact ⟨rfl, rfl⟩
set_option maxHeartbeats 400000 in
theorem numBad (o : Nat) (err : Int) (y : ByteArray) (l h : Int) (w : World) (hb : PickBad o err w) (ho : o < w.heap.size) :
   Calls Tryz.prog 62 #[.pointer (some ⟨o, 0, none⟩), .string y, .int .i64 l, .int .i64 h] w fun e w' => e = .returned (.int .i64 0) ∧ Below w.heap.size w w' := by
 obtain ⟨W2, hW2⟩ : ∃ W2, W2 = (w.alloc (.cells #[.int .i64 l] 2)).alloc (.cells #[.int .i64 h] 2) := ⟨_, rfl⟩
 have hb2 : Below w.heap.size w W2 := by rw [hW2]; exact ((Below.refl _ _).alloc (Nat.le_refl _) _).alloc (by simp) _
 obtain ⟨he, c6, k, c0⟩ := hb.below hb2 ho
 have HB2 := Lib.hid hb2
 have HW := Lib.hid hW2
 clear hW2 hb2 hb
 have HT := Lib.hid (show ∀ fv, Calls Tryz.prog 102 #[.pointer (some ⟨o, 0, none⟩), .string y, fv] W2 (fun e w' => e = .returned (.int .i64 0) ∧ W2 = w') from fun fv => by
   have he' : (err == 0) = false := by simpa using he
   have he2 : (err != 0) = true := by simpa using he
   have HE := Lib.hid he
   clear he
   go_enter Tryz.func102, Tryz.ntmps102
   go_wp2_with fail
   refine (pickErr o err k W2 c6 c0 (fun h => absurd h HE.out)).mono ?_
   rintro r w' ⟨rfl, rfl⟩
   go_wp2
   go_ret
   exact ⟨rfl, rfl⟩)
 clear he c6 c0
 go_enter Tryz.func62, Tryz.ntmps62
 go_wp2_with fail
 rw [← HW.out]
 refine (HT.out _).mono ?_
 rintro e w' ⟨rfl, rfl⟩
 go_wp2
 go_ret
 exact ⟨rfl, HB2.out⟩
set_option maxHeartbeats 400000 in
theorem failBad (o : Nat) (err e : Int) (w : World) (h : PickBad o err w) :
   Calls Tryz.prog 66 #[.pointer (some ⟨o, 0, none⟩), .int .i64 e] w fun r w' => r = .returned (.tuple #[]) ∧ w' = w := by
 obtain ⟨he, c6, k, c0⟩ := h
 have he' : (err == 0) = false := by simpa using he
 have he2 : (err != 0) = true := by simpa using he
 have HE := Lib.hid he
 clear he
 go_enter Tryz.func66, Tryz.ntmps66
 go_wp2_with fail
 refine (pickErr o err k w c6 c0 (fun h => absurd h HE.out)).mono ?_
 rintro r w' ⟨rfl, rfl⟩
 go_wp2
 go_end0
 exact ⟨rfl, rfl⟩
end Go.Proofs.YtgghgcilpfdbjaaGreatDoor

namespace Go.Proofs.YtgghgcilpfdbjaaGreatDoor
open Go.RowKit
mutual
def JV.partB : JV → Bool
 | .mk k n t ns xs => properB k n t ns xs.length && JV.partsB xs
def JV.partsB : List JV → Bool
 | [] => true
 | x :: r => JV.partB x && JV.partsB r
end
mutual
def JV.depth : JV → Nat
 | .mk k _ _ _ xs => if k ≠ 4 ∧ k ≠ 5 then 0 else JV.depths xs + 1
def JV.depths : List JV → Nat
 | [] => 0
 | x :: r => max (JV.depth x) (JV.depths r)
end
theorem JV.partB_eq (v : JV) : v.partB = (properB v.kind v.n v.t v.names v.items.length && JV.partsB v.items) := by cases v; rw [JV.partB]; rfl
theorem JV.depth_eq (v : JV) : v.depth = if v.kind ≠ 4 ∧ v.kind ≠ 5 then 0 else JV.depths v.items + 1 := by cases v; rw [JV.depth]; rfl
theorem JV.count_eq (v : JV) : v.count = 1 + JV.counts v.items := by cases v; rw [JV.count]; rfl
theorem JV.partsB_bad (l : List JV) (k : Nat) (h : k < l.length) (hb : JV.partB l[k] = false) : JV.partsB l = false := by
 induction l generalizing k with
 | nil => simp at h
 | cons x r ih =>
   cases k with
   | zero => simp only [List.getElem_cons_zero] at hb; rw [JV.partsB, hb]; rfl
   | succ k => rw [JV.partsB, ih k (by simpa using h) (by simpa using hb), Bool.and_false]
mutual
theorem JV.depth_le : ∀ v : JV, v.depth ≤ v.wt
 | .mk k _ _ _ xs => by have := JV.depths_le xs; rw [JV.depth, JV.wt]; split <;> omega
theorem JV.depths_le : ∀ l : List JV, JV.depths l ≤ JV.wts l
 | [] => by simp [JV.depths]
 | x :: r => by have := JV.depth_le x; have := JV.depths_le r; rw [JV.depths, JV.wts]; omega
end
theorem JV.proper_leaf {v : JV} (h : properB v.kind v.n v.t v.names v.items.length = true) (h4 : v.kind ≠ 4) (h5 : v.kind ≠ 5) : v.items = [] := by
 unfold properB at h
 split at h
 · simp at h; exact h.2.2.1
 split at h
 · simp at h; exact h.2.2
 split at h
 · simp at h; exact h.1.2.2
 · first | (cases h; done) | (rw [if_neg h4, if_neg h5] at h; cases h)
mutual
theorem JV.may_iff : ∀ (v : JV) (d : Nat) (l : Int), 0 ≤ l → ((v.may d l).1 = true ↔ v.partB = true ∧ (v.count : Int) ≤ l ∧ v.depth ≤ d) ∧ ((v.may d l).1 = true → (v.may d l).2 = l - v.count)
 | .mk k n t ns xs, d, l, hl => by
   rw [JV.may, JV.partB, JV.count, JV.depth]
   by_cases h0 : l - 1 < 0
   · rw [if_pos h0]; simp; omega
   rw [if_neg h0]
   cases hp : properB k n t ns xs.length
   · simp
   simp only [Bool.true_eq_false, if_false, Bool.true_and]
   by_cases hk : k ≠ 4 ∧ k ≠ 5
   · have hx : xs = [] := JV.proper_leaf (v := .mk k n t ns xs) hp hk.1 hk.2
     subst hx
     rw [if_pos hk, if_pos hk]
     simp [JV.partsB, JV.counts]; omega
   · rw [if_neg hk, if_neg hk]
     by_cases hd : d = 0
     · rw [if_pos hd]; simp; omega
     · rw [if_neg hd]
       obtain ⟨i1, i2⟩ := JV.mays_iff xs (d - 1) (l - 1) (by omega)
       refine ⟨?_, fun h => ?_⟩
       · rw [i1]; constructor
         · rintro ⟨a, b, c⟩; exact ⟨a, by push_cast; omega, by omega⟩
         · rintro ⟨a, b, c⟩; exact ⟨a, by push_cast at b; omega, by omega⟩
       · rw [i2 h]; push_cast; omega
theorem JV.mays_iff : ∀ (xs : List JV) (d : Nat) (l : Int), 0 ≤ l → ((JV.mays xs d l).1 = true ↔ JV.partsB xs = true ∧ (JV.counts xs : Int) ≤ l ∧ JV.depths xs ≤ d) ∧ ((JV.mays xs d l).1 = true → (JV.mays xs d l).2 = l - JV.counts xs)
 | [], d, l, hl => by simp [JV.mays, JV.partsB, JV.counts, JV.depths]; omega
 | x :: r, d, l, hl => by
   obtain ⟨a1, a2⟩ := JV.may_iff x d l hl
   rw [JV.mays, JV.partsB, JV.counts, JV.depths]
   cases h : (JV.may x d l).1
   · rw [h] at a1
     simp only [Bool.false_eq_true, if_false, false_iff, not_and, Bool.and_eq_true, false_implies, and_true] at a1 ⊢
     intro hp hc
     have := a1 hp.1 (by push_cast at hc; omega)
     omega
   · rw [if_pos rfl]
     have hb := (JV.may_bd x d l hl).2.2 h
     obtain ⟨c1, c2, c3⟩ := a1.1 h
     have e2 := a2 h
     obtain ⟨i1, i2⟩ := JV.mays_iff r d _ hb
     rw [i1, e2]
     refine ⟨?_, fun hh => ?_⟩
     · rw [c1, Bool.true_and]; constructor
       · rintro ⟨a, b, c⟩; exact ⟨a, by push_cast; omega, by omega⟩
       · rintro ⟨a, b, c⟩; exact ⟨a, by push_cast at b; omega, by omega⟩
     · have hh' : (JV.mays r d (JV.may x d l).2).1 = true := by rw [e2]; exact i1.2 (by rw [e2]; exact hh) |> fun z => by rwa [e2] at z
       have := i2 hh'
       rw [e2] at this
       rw [this]; push_cast; omega
end
theorem JV.mayB_iff (v : JV) : v.mayB = (v.partB && decide (v.count ≤ 8192) && decide (v.depth ≤ 12)) := by
 unfold JV.mayB
 rw [Bool.eq_iff_iff, (JV.may_iff v 12 8192 (by omega)).1]
 simp only [Bool.and_eq_true, decide_eq_true_eq]
 constructor
 · rintro ⟨a, b, c⟩; exact ⟨⟨a, by omega⟩, c⟩
 · rintro ⟨⟨a, b⟩, c⟩; exact ⟨a, by omega, c⟩
end Go.Proofs.YtgghgcilpfdbjaaGreatDoor

namespace Go.Proofs.YtgghgcilpfdbjaaGreatDoor
open Go.RowKit Go.Shelf Go.Sort
def flatM (ms : List Mem) : List Value := ms.flatMap encM
theorem flatM_get (ms : List Mem) (i c : Nat) (hi : i < ms.length) (hc : c < 6) : (flatM ms)[i * 6 + c]? = some ((encM ms[i])[c]'(by rw [encM_len]; exact hc)) := by
 induction ms generalizing i with
 | nil => simp at hi
 | cons v r ih =>
   unfold flatM
   rw [List.flatMap_cons]
   rcases i with _ | i
   · rw [List.getElem?_append_left (by rw [encM_len]; omega)]
     simp
   · rw [List.getElem?_append_right (by rw [encM_len]; omega), encM_len]
     have := ih i (by simpa using hi)
     rw [show (i + 1) * 6 + c - 6 = i * 6 + c by omega]
     simpa [flatM] using this
structure MemsAt (W0 : Nat) (w : World) (v : Value) (ms : List Mem) (its : List JV) : Prop where
 own : w.ownsRow W0 74 6 v ms.length (flatM ms)
 len : its.length = ms.length
 reps : ∀ i (h : i < its.length), ∃ lo hi, W0 ≤ lo ∧ hi ≤ w.heap.size ∧ (∀ b, v.ownBlock = some b → ¬ (lo ≤ b ∧ b < hi)) ∧ Rep w lo hi its[i] (ms[i]'(by omega)).val
theorem MemsAt.below {W0 : Nat} {w w' : World} {v : Value} {ms : List Mem} {its : List JV} (h : MemsAt W0 w v ms its) (hb : Below w.heap.size w w') : MemsAt W0 w' v ms its :=
 ⟨owns_below h.own hb, h.len, fun i hi => by
   obtain ⟨lo, hi', h1, h2, h3, hr⟩ := h.reps i hi
   exact ⟨lo, hi', h1, Nat.le_trans h2 hb.size, h3, Rep.carry (Nat.le_refl _) (Nat.le_refl _) (fun b _ h => hb.block b (by omega)) _ _ hr⟩⟩
theorem MemsAt.nil (W0 : Nat) (w : World) : MemsAt W0 w (.slice none 0 0) [] [] := ⟨World.ownsRow_nil _ _ _ _, rfl, fun i h => by simp at h⟩
theorem MemsAt.snoc {W0 : Nat} {w w' : World} {v v' : Value} {ms : List Mem} {its : List JV} (h : MemsAt W0 w v ms its) (m : Mem) (it : JV) (lo hi : Nat) (h1 : W0 ≤ lo) (h2 : hi ≤ w.heap.size) (h3 : ∀ b, v.ownBlock = some b → ¬ (lo ≤ b ∧ b < hi)) (hr : Rep w lo hi it m.val)
   (hg : w.grownBy w' v.ownBlock) (hown : w'.ownsRow W0 74 6 v' (ms.length + 1) (flatM ms ++ encM m)) (hat : v'.ownBlock = v.ownBlock ∨ ∃ g, v'.ownBlock = some g ∧ w.heap.size ≤ g) : MemsAt W0 w' v' (ms ++ [m]) (its ++ [it]) := by
 have hx : ∀ {lo hi : Nat}, hi ≤ w.heap.size → (∀ b, v.ownBlock = some b → ¬ (lo ≤ b ∧ b < hi)) → ∀ b, v'.ownBlock = some b → ¬ (lo ≤ b ∧ b < hi) := fun hz hn b hb => by
   rcases hat with e | ⟨g, e, hge⟩
   · exact hn b (by rw [← e]; exact hb)
   · rw [e] at hb; simp at hb; omega
 have hc : ∀ {lo hi : Nat} {it : JV} {x : Value}, hi ≤ w.heap.size → (∀ b, v.ownBlock = some b → ¬ (lo ≤ b ∧ b < hi)) → Rep w lo hi it x → Rep w' lo hi it x := fun hz hn hr =>
   Rep.carry (Nat.le_refl _) (Nat.le_refl _) (fun b hb1 hb2 => hg.block b (by omega) (fun e => hn b e.symm ⟨hb1, hb2⟩)) _ _ hr
 have hl := h.len
 refine ⟨?_, by simp [hl], fun i hi' => ?_⟩
 · have e : flatM (ms ++ [m]) = flatM ms ++ encM m := by simp [flatM]
   rw [e, List.length_append]; exact hown
 · by_cases e : i < its.length
   · obtain ⟨lo', hi'', k1, k2, k3, hr'⟩ := h.reps i e
     refine ⟨lo', hi'', k1, Nat.le_trans k2 hg.size, hx k2 k3, ?_⟩
     rw [List.getElem_append_left e, List.getElem_append_left (by omega)]
     exact hc k2 k3 hr'
   · obtain rfl : i = its.length := by simp at hi'; omega
     refine ⟨lo, hi, h1, Nat.le_trans h2 hg.size, hx h2 h3, ?_⟩
     rw [List.getElem_append_right (by omega), List.getElem_append_right (by omega)]
     simpa using hc h2 h3 hr
theorem MemsAt.one {W0 : Nat} {w : World} {blk : Nat} (m : Mem) (it : JV) (lo hi : Nat) (h0 : W0 ≤ blk) (h1 : W0 ≤ lo) (h2 : hi ≤ blk) (hr : Rep w lo hi it m.val) (hx : w.heap[blk]? = some (.cells (encM m).toArray 74 (0, 0))) : MemsAt W0 w (.slice (some ⟨blk, 0, none⟩) 1 1) [m] [it] := by
 have hb := heap_lt hx
 refine ⟨⟨rfl, .inr ⟨blk, 1, _, rfl, h0, hx, Nat.le_refl _, by unfold maxLen; omega, rfl, ?_⟩⟩, rfl, fun i hi' => ?_⟩
 · simp [flatM, encM]
 · obtain rfl : i = 0 := by simp at hi'; omega
   exact ⟨lo, hi, h1, by omega, fun b hb => by simp [Value.ownBlock] at hb; omega, hr⟩
theorem holds_own {W0 : Nat} {w : World} {v : Value} {ms : List Mem} (ho : w.ownsRow W0 74 6 v ms.length (flatM ms)) (h0 : 0 < ms.length) : ∃ g cap, v = .slice (some ⟨g, 0, none⟩) ms.length cap ∧ g < w.heap.size ∧ HoldsK encM 6 w g 0 ms.toArray := by
 rcases ho.2 with ⟨rfl, h00⟩ | ⟨g, cap, cur, rfl, hg, hh, hc, hm, hs, ht⟩
 · omega
 · refine ⟨g, cap, rfl, heap_lt hh, fun j hj => ⟨?_, by simp [World.frozen?, hh]⟩⟩
   have hj2 : j < ms.length * 6 := by simpa using hj
   have e : (⟨g, 0, none⟩ : Addr).add j = ⟨g, j, none⟩ := by unfold Addr.add; split <;> simp_all
   have hf := flatM_get ms (j / 6) (j % 6) (by omega) (by omega)
   rw [show j / 6 * 6 + j % 6 = j by omega] at hf
   have := ho.cells (g := g) rfl j _ hf
   rw [e] at this
   rw [Nat.zero_add, this, get_flatK encM 6 ms.toArray j (by simpa using hj2)]
   have h6 : j % 6 < (encM (ms[j / 6]'(by omega))).length := by rw [encM_len]; omega
   have h7 : ms.toArray[j / 6]! = ms[j / 6]'(by omega) := by rw [getElem!_pos _ _ (by simp; omega)]; simp
   rw [h7, getElem!_pos (encM (ms[j / 6]'(by omega))) (j % 6) h6]
   rfl
theorem MemsAt.holds {W0 : Nat} {w : World} {v : Value} {ms : List Mem} {its : List JV} (h : MemsAt W0 w v ms its) (h0 : 0 < ms.length) : ∃ g cap, v = .slice (some ⟨g, 0, none⟩) ms.length cap ∧ g < w.heap.size ∧ HoldsK encM 6 w g 0 ms.toArray := holds_own h.own h0
theorem rep_num (w : World) (lo hi : Nat) (n : Int) : Rep w lo hi (numJ n) (.agg #[.int .u8 2, .int .i64 n, .string { data := #[] }, .slice none 0 0, .slice none 0 0]) := by
 unfold numJ Rep
 exact ⟨none, 0, none, 0, rfl, Nat.le_refl _, Nat.le_refl _, .inl rfl, .inl rfl⟩
theorem heap_2nd (w : World) (o o' : Obj) : ((w.alloc o).alloc o').heap[w.heap.size + 1]? = some o' := by
 have := heap_alloc_new (w.alloc o) o'
 rwa [show (w.alloc o).heap.size = w.heap.size + 1 by simp] at this
def memN (nm : ByteArray) (n : Int) : Mem := ⟨nm, 2, n, { data := #[] }, none, 0, 0, none, 0, 0⟩
end Go.Proofs.YtgghgcilpfdbjaaGreatDoor

namespace Go.Proofs.YtgghgcilpfdbjaaGreatDoor
open Go.RowKit
theorem pickNumOf (n : Int) (w : World) : Calls Tryz.prog 46 #[.int .i64 n] w fun e w' => e = .returned (.agg #[.int .u8 2, .int .i64 n, .string { data := #[] }, .slice none 0 0, .slice none 0 0]) ∧ w' = w.alloc (.cells #[.int .u8 2, .int .i64 n, .string { data := #[] }, .slice none 0 0, .slice none 0 0] 30) := by
 go_enter Tryz.func46, Tryz.ntmps46
 go_wp2
 exact bodyPost_ret (results_cell_row Tryz.results46 _ _ w.heap.size 30 _ (0, 0) _ rfl (heap_alloc_new w _) Tryz.underlying30 rfl (by kernel_rfl)) rfl ⟨rfl, rfl⟩
theorem lawNum (n : Int) (w : World) : Calls Tryz.prog 37 #[.int .i64 n] w fun e w' => e = .returned (.agg #[.int .u8 2, .int .i64 n, .string { data := #[] }, .slice none 0 0, .slice none 0 0]) ∧ w' = w.alloc (.cells #[.int .u8 2, .int .i64 n, .string { data := #[] }, .slice none 0 0, .slice none 0 0] 30) := by
 go_enter Tryz.func37, Tryz.ntmps37
 go_wp2
 exact bodyPost_ret (results_cell_row Tryz.results37 _ _ w.heap.size 30 _ (0, 0) _ rfl (heap_alloc_new w _) Tryz.underlying30 rfl (by kernel_rfl)) rfl ⟨rfl, rfl⟩
theorem lawText (t : ByteArray) (w : World) : Calls Tryz.prog 39 #[.string t] w fun e w' => e = .returned (.agg #[.int .u8 3, .int .i64 0, .string t, .slice none 0 0, .slice none 0 0]) ∧ w' = w.alloc (.cells #[.int .u8 3, .int .i64 0, .string t, .slice none 0 0, .slice none 0 0] 30) := by
 go_enter Tryz.func39, Tryz.ntmps39
 go_wp2
 exact bodyPost_ret (results_cell_row Tryz.results39 _ _ w.heap.size 30 _ (0, 0) _ rfl (heap_alloc_new w _) Tryz.underlying30 rfl (by kernel_rfl)) rfl ⟨rfl, rfl⟩
theorem lawObj (a b : Option Addr) (n c m d : Nat) (w : World) : Calls Tryz.prog 36 #[.slice a n c, .slice b m d] w fun e w' => e = .returned (.agg #[.int .u8 5, .int .i64 0, .string { data := #[] }, .slice a n c, .slice b m d]) ∧ w' = w.alloc (.cells #[.int .u8 5, .int .i64 0, .string { data := #[] }, .slice a n c, .slice b m d] 30) := by
 go_enter Tryz.func36, Tryz.ntmps36
 go_wp2
 exact bodyPost_ret (results_cell_row Tryz.results36 _ _ w.heap.size 30 _ (0, 0) _ rfl (heap_alloc_new w _) Tryz.underlying30 rfl (by kernel_rfl)) rfl ⟨rfl, rfl⟩
end Go.Proofs.YtgghgcilpfdbjaaGreatDoor

namespace Go.Proofs.YtgghgcilpfdbjaaGreatDoor
open Go.RowKit Go.Shelf Go.Sort
theorem ins_two (a b : Mem) (h : ltOf cfM b a = true) : insertionSort (ltOf cfM) #[a, b] 0 2 = #[b, a] := by
 unfold insertionSort insOuter
 rw [if_pos (by decide)]
 unfold insOuter
 rw [if_neg (by decide)]
 unfold insInner
 have e : (decide (0 + 1 > 0) && ltOf cfM #[a, b][0 + 1]! #[a, b][0]!) = true := by simpa using h
 rw [if_pos e]
 unfold insInner
 rfl
theorem objVL (ln vr : Int) (blk cap : Nat) (w : World) (hH : HoldsK encM 6 w blk 0 #[memN verN vr, memN lenN ln]) (hb : blk < w.heap.size) :
   Calls Tryz.prog 42 #[.slice (some ⟨blk, 0, none⟩) 2 cap] w (ObjPost [lenN, verN] [numJ ln, numJ vr] w) := by
 refine pickObjectOf #[memN verN vr, memN lenN ln] #[memN lenN ln, memN verN vr] [numJ ln, numJ vr] blk 0 cap w 0 0 hH hb (by simp) ?_ rfl ?_ ?_ (by omega)
 · refine ins_two _ _ ?_
   show decide (Lib.compareBytes lenN.data.toList verN.data.toList < 0) = true
   decide
 · intro i hi
   match i, hi with
   | 0, _ => exact ⟨rep_num _ _ _ _, by simp [numJ, JV.wt, JV.wts, bytesSum, ByteArray.size], fun k h => by simp [numJ, JV.items] at h⟩
   | 1, _ => exact ⟨rep_num _ _ _ _, by simp [numJ, JV.wt, JV.wts, bytesSum, ByteArray.size], fun k h => by simp [numJ, JV.items] at h⟩
 · intro i hi
   obtain rfl : i = 0 := by simp at hi; omega
   show lenN ≠ verN
   decide
theorem objV (vr : Int) (blk cap : Nat) (w : World) (hH : HoldsK encM 6 w blk 0 #[memN verN vr]) (hb : blk < w.heap.size) :
   Calls Tryz.prog 42 #[.slice (some ⟨blk, 0, none⟩) 1 cap] w (ObjPost [verN] [numJ vr] w) := by
 refine pickObjectOf #[memN verN vr] #[memN verN vr] [numJ vr] blk 0 cap w 0 0 hH hb (by simp) ?_ rfl ?_ ?_ (by omega)
 · exact ins_sorted _ _ _ fun j hj => by simp at hj
 · intro i hi
   match i, hi with
   | 0, _ => exact ⟨rep_num _ _ _ _, by simp [numJ, JV.wt, JV.wts, bytesSum, ByteArray.size], fun k h => by simp [numJ, JV.items] at h⟩
 · intro i hi; simp at hi
theorem pinJ_len (nm : ByteArray) (vr : Int) {ln : Int} (h : ¬ ln = -1) : pinJ ⟨nm, vr, ln, []⟩ = .mk 5 0 { data := #[] } [lenN, verN] [numJ ln, numJ vr] := by simp [pinJ, pinM, h]
def PinValPost (p : PinV) (w : World) (e : Ending) (w' : World) : Prop :=
 ∃ an cn ai ci, e = .returned (.tuple #[.agg #[.int .u8 5, .int .i64 0, .string { data := #[] }, .slice an (pinJ p).names.length cn, .slice ai (pinJ p).items.length ci], .int .i64 0]) ∧
   Rep w' w.heap.size w'.heap.size (pinJ p) (.agg #[.int .u8 5, .int .i64 0, .string { data := #[] }, .slice an (pinJ p).names.length cn, .slice ai (pinJ p).items.length ci]) ∧ Below w.heap.size w w'
set_option maxHeartbeats 4000000 in
set_option maxRecDepth 100000 in
theorem snapPinValue (nm : ByteArray) (vr ln : Int) (ha : Option Addr) (hc : Nat) (w : World) (hn : nm.size ≤ 9223372036854775807) (hm : mayPin ⟨nm, vr, ln, []⟩ = true) :
   Calls Tryz.prog 27 #[.agg #[.string nm, .int .i64 vr, .int .i64 ln, .slice ha 0 hc]] w (PinValPost ⟨nm, vr, ln, []⟩ w) := by
 obtain ⟨W2, hW2⟩ : ∃ W2, W2 = (w.alloc (.cells #[.string nm, .int .i64 vr, .int .i64 ln, .slice ha 0 hc] 36)).alloc (.cells #[.int .u8 0, .int .i64 0, .string { data := #[] }, .slice none 0 0, .slice none 0 0] 30) := ⟨_, rfl⟩
 have hz1 : (w.alloc (.cells #[.string nm, .int .i64 vr, .int .i64 ln, .slice ha 0 hc] 36)).heap.size = w.heap.size + 1 := by simp
 have hz2 : W2.heap.size = w.heap.size + 2 := by rw [hW2]; simp
 have hb2 : Below w.heap.size w W2 := by rw [hW2]; exact ((Below.refl _ _).alloc (Nat.le_refl _) _).alloc (by simp) _
 have hx0 : W2.heap[w.heap.size]? = some (.cells #[.string nm, .int .i64 vr, .int .i64 ln, .slice ha 0 hc] 36 (0, 0)) := by rw [hW2, Below.heap_alloc _ _ _ (by simp)]; exact heap_alloc_new w _
 have hr0 : W2.rowIs (w.heap.size + 1) 30 5 (pick5 (.int .u8 0) (.int .i64 0) (.string { data := #[] }) (.slice none 0 0) (.slice none 0 0)) := by
   have := rowIs_box5 (w.alloc (.cells #[.string nm, .int .i64 vr, .int .i64 ln, .slice ha 0 hc] 36)) (.int .u8 0) (.int .i64 0) (.string { data := #[] }) (.slice none 0 0) (.slice none 0 0) 30
   rw [hz1, ← hW2] at this
   exact this
 have HMP := Lib.hid (snapMayPin nm vr ln [] ha hc W2 (.inl rfl) hn (by simp) (by simp))
 rw [hm] at HMP
 have HC := Lib.hid (show ∀ w' : World, Below W2.heap.size W2 w' → w'.cell? ⟨w.heap.size, 0, none⟩ = some (.string nm) ∧ w'.cell? ⟨w.heap.size, 1, none⟩ = some (.int .i64 vr) ∧ w'.cell? ⟨w.heap.size, 2, none⟩ = some (.int .i64 ln) ∧ w'.cell? ⟨w.heap.size, 3, none⟩ = some (.slice ha 0 hc) from fun w' h => by
   have x := (h.block _ (heap_lt hx0)).trans hx0
   exact ⟨box_cell x rfl, box_cell x rfl, box_cell x rfl, box_cell x rfl⟩)
 have HR0 := Lib.hid hr0
 have HB2 := Lib.hid hb2
 have HW := Lib.hid hW2
 have HZ2 := Lib.hid hz2
 have hz2' : w.heap.size < W2.heap.size := by omega
 clear hW2 hb2 hx0 hr0 hz1 hm
 obtain ⟨q0, q1, q2, q3⟩ := HC.out W2 (Below.refl _ _)
 go_enter Tryz.func27, Tryz.ntmps27
 go_upto_region 1 with fail
 rw [← HW.out]
 go_wp2_with fail
 refine HMP.out.mono ?_
 clear HMP q0 q1 q2 q3
 rintro e w1 ⟨rfl, hb1⟩
 have HB1 := Lib.hid hb1
 obtain ⟨q0, q1, q2, q3⟩ := HC.out w1 HB1.out
 clear hb1
 go_wp2_with fail
 refine (pickNumOf vr w1).mono ?_
 rintro e w' ⟨rfl, rfl⟩
 clear q0 q1 q2 q3
 go_upto_region 4 with fail
 obtain ⟨W3, hW3⟩ : ∃ W3, W3 = (w1.alloc (.cells #[.int .u8 2, .int .i64 vr, .string { data := #[] }, .slice none 0 0, .slice none 0 0] 30)).alloc (.cells #[.string { data := #[118, 101, 114, 115, 105, 111, 110] }, .int .u8 2, .int .i64 vr, .string { data := #[] }, .slice none 0 0, .slice none 0 0] 74) := ⟨_, rfl⟩
 have hzz : (w1.alloc (.cells #[.int .u8 2, .int .i64 vr, .string { data := #[] }, .slice none 0 0, .slice none 0 0] 30)).heap.size = w1.heap.size + 1 := by simp
 have hb3 : Below W2.heap.size W2 W3 := by rw [hW3]; exact (HB1.out.alloc HB1.out.size _).alloc (by have := HB1.out.size; simp; omega) _
 have hx3 : W3.heap[w1.heap.size + 1]? = some (.cells (encM (memN verN vr)).toArray 74 (0, 0)) := by
   rw [hW3, ← hzz]; exact heap_alloc_new _ _
 have hM3 := MemsAt.one (W0 := W2.heap.size) (memN verN vr) (numJ vr) w1.heap.size w1.heap.size (by have := HB1.out.size; omega) (by have := HB1.out.size; omega) (by omega) (rep_num W3 w1.heap.size w1.heap.size vr) hx3
 have HB3 := Lib.hid hb3
 have HM3 := Lib.hid hM3
 rw [← hW3]
 have HZ3 := Lib.hid (show w1.heap.size + 1 < W3.heap.size from heap_lt hx3)
 generalize w1.heap.size + 1 = g0 at *
 clear hW3 hzz hb3 hx3 hM3 HB1
 obtain ⟨q0, q1, q2, q3⟩ := HC.out W3 HB3.out
 by_cases hl : ln = -1
 · subst hl
   go_wp2_with fail
   obtain ⟨g, cap, hv, hlt, hH⟩ := HM3.out.holds (by simp)
   obtain ⟨rfl, rfl⟩ : g0 = g ∧ 1 = cap := by simpa using hv
   refine (objV vr g0 1 W3 hH hlt).mono ?_
   clear hv hlt hH q0 q1 q2 q3
   rintro e w5 ⟨an, cn, ai, ci, rfl, hr5, hb5⟩
   have hb25 : Below W2.heap.size W2 w5 := HB3.out.trans (hb5.mono HB3.out.size)
   have hres := below_row hb25 HR0.out (by omega)
   have HRS := Lib.hid hres
   have HR5 := Lib.hid hr5
   have HZ5 := Lib.hid (show w.heap.size ≤ W3.heap.size by have := HB3.out.size; omega)
   have HB5 := Lib.hid (HB2.out.trans (hb25.mono (by omega)))
   have t0 := hres.cell (i := 0) (by decide); have t1 := hres.cell (i := 1) (by decide); have t2 := hres.cell (i := 2) (by decide); have t3 := hres.cell (i := 3) (by decide); have t4 := hres.cell (i := 4) (by decide)
   have s0 := hres.frozen 0; have s1 := hres.frozen 1; have s2 := hres.frozen 2; have s3 := hres.frozen 3; have s4 := hres.frozen 4
   simp only [pick5] at t0 t1 t2 t3 t4
   clear hres hr5 hb5 hb25
   go_wp2
   refine bodyPost_ret (results_row_tmp Tryz.results27 _ _ (w.heap.size + 1) 30 _ (0, 0) _ rfl (row5_heap (set5 _ _ _ _ _ HRS.out)) Tryz.underlying30 rfl (by kernel_rfl) _ rfl) rfl ?_
   have e : pinJ ⟨nm, vr, -1, []⟩ = .mk 5 0 { data := #[] } [verN] [numJ vr] := by simp [pinJ, pinM]
   unfold PinValPost
   rw [e]
   refine ⟨an, cn, ai, ci, rfl, ?_, below5 _ _ _ _ _ HB5.out (by omega)⟩
   exact Rep.carry HZ5.out (show w5.heap.size ≤ _ by simp [World.setCell]) (fun j hj _ => heap5 _ _ _ _ _ (by have := HB2.out.size; have := HB3.out.size; omega)) _ _ HR5.out
 · have hd : (ln != -1) = true := by simpa using hl
   clear hl
   go_upto_region 5 with fail
   obtain ⟨i1, hi1, hy0, hy1, hy2⟩ := info_parts infoMember
   have HOD := Lib.hid (show W3.ownsRow W2.heap.size 74 6 (.slice (some ⟨g0, 0, none⟩) 1 1) 1 (flatM [memN verN vr]) from HM3.out.own)
   have hwz : W2.heap.size ≤ W3.heap.size := HB3.out.size
   go_wp2_with (first | (go_at_call 46; refine (pickNumOf ln _).mono ?_; rintro e w' ⟨rfl, rfl⟩) | (at_builtin; refine wpList_append_lies _ rfl (.tmp 19) (.tmp 24) 70 rfl W2.heap.size 74 i1 _ 6 96 Tryz.underlying70 hi1 hy0 hy1 hy2 rfl (by omega) (.slice (some ⟨g0, 0, none⟩) 1 1) 1 (flatM [memN verN vr]) rfl ((HOD.out.alloc _).alloc _) ⟨W3.heap.size + 1, 0, none⟩ 1 1 (encM (memN lenN ln)) rfl rfl (World.news_of_block (cs := (encM (memN lenN ln)).toArray) (t := 74) (fr := (0, 0)) (heap_2nd W3 _ _)) (encM_one _) (by omega) (by unfold maxLen; omega) (by omega) (by simp; omega) (W3.heap.size + 2) (by simp) ?_; intro g2 cap3 w4 hown4 hgrow4 hat4 hlt4; have HO4 := Lib.hid hown4; have HG4 := Lib.hid hgrow4; have HA4 := Lib.hid hat4; have HB4 := Lib.hid (below_grown ((HB3.out.alloc HB3.out.size (.cells #[.int .u8 2, .int .i64 ln, .string { data := #[] }, .slice none 0 0, .slice none 0 0] 30)).alloc (by simp; omega) (.cells (encM (memN lenN ln)).toArray 74)) (by simp; omega) hgrow4 (fun b hb => (HOD.out.lt b hb).1)); obtain ⟨-, -, -, q3⟩ := HC.out w4 HB4.out; clear hown4 hgrow4 hat4))
   obtain ⟨g, cap, hv, hlt, hH⟩ := holds_own (ms := [memN verN vr, memN lenN ln]) HO4.out (by simp)
   obtain ⟨rfl, rfl⟩ : g2 = g ∧ cap3 = cap := by simpa using hv
   refine (objVL ln vr g2 cap3 w4 hH hlt).mono ?_
   clear hv hlt hH q0 q1 q2 q3 HO4 HG4 HA4
   rintro e w5 ⟨an, cn, ai, ci, rfl, hr5, hb5⟩
   have hb25 : Below W2.heap.size W2 w5 := HB4.out.trans (hb5.mono HB4.out.size)
   have hres := below_row hb25 HR0.out (by omega)
   have HRS := Lib.hid hres
   have HR5 := Lib.hid hr5
   have HZ5 := Lib.hid (show w.heap.size ≤ w4.heap.size by have := HB4.out.size; omega)
   have HB5 := Lib.hid (HB2.out.trans (hb25.mono (by omega)))
   have t0 := hres.cell (i := 0) (by decide); have t1 := hres.cell (i := 1) (by decide); have t2 := hres.cell (i := 2) (by decide); have t3 := hres.cell (i := 3) (by decide); have t4 := hres.cell (i := 4) (by decide)
   have s0 := hres.frozen 0; have s1 := hres.frozen 1; have s2 := hres.frozen 2; have s3 := hres.frozen 3; have s4 := hres.frozen 4
   simp only [pick5] at t0 t1 t2 t3 t4
   clear hres hr5 hb5 hb25
   go_wp2
   refine bodyPost_ret (results_row_tmp Tryz.results27 _ _ (w.heap.size + 1) 30 _ (0, 0) _ rfl (row5_heap (set5 _ _ _ _ _ HRS.out)) Tryz.underlying30 rfl (by kernel_rfl) _ rfl) rfl ?_
   have e : pinJ ⟨nm, vr, ln, []⟩ = .mk 5 0 { data := #[] } [lenN, verN] [numJ ln, numJ vr] := pinJ_len nm vr (by simpa using hd)
   unfold PinValPost
   rw [e]
   refine ⟨an, cn, ai, ci, rfl, ?_, below5 _ _ _ _ _ HB5.out (by omega)⟩
   exact Rep.carry HZ5.out (show w5.heap.size ≤ _ by simp [World.setCell]) (fun j hj _ => heap5 _ _ _ _ _ (by have := HB2.out.size; have := HB4.out.size; omega)) _ _ HR5.out
end Go.Proofs.YtgghgcilpfdbjaaGreatDoor

namespace Go.Proofs.YtgghgcilpfdbjaaGreatDoor
open Go.RowKit
theorem rep_obj {w : World} {lo hi bn bi T T' : Nat} {ns : List ByteArray} {its : List JV} {csn cs : Array Value} (h1 : w.heap[bn]? = some (.cells csn T (0, 0))) (hn : ∀ i (h : i < ns.length), csn[i]? = some (.string ns[i]))
   (h2 : w.heap[bi]? = some (.cells cs T' (0, 0))) (hc : ∀ i (h : i < its.length), ∃ c0 c1 c2 c3 c4, cs[i * 5]? = some c0 ∧ cs[i * 5 + 1]? = some c1 ∧ cs[i * 5 + 2]? = some c2 ∧ cs[i * 5 + 3]? = some c3 ∧ cs[i * 5 + 4]? = some c4 ∧ Rep w lo hi its[i] (.agg #[c0, c1, c2, c3, c4]))
   (b1 : lo ≤ bn ∧ bn < hi) (b2 : lo ≤ bi ∧ bi < hi) {n m : Nat} (en : n = ns.length) (em : m = its.length) :
   Rep w lo hi (.mk 5 0 { data := #[] } ns its) (.agg #[.int .u8 5, .int .i64 0, .string { data := #[] }, .slice (some ⟨bn, 0, none⟩) n n, .slice (some ⟨bi, 0, none⟩) m m]) := by
 subst en em
 refine Rep.mk (v := .mk 5 0 { data := #[] } ns its) (Nat.le_refl _) (Nat.le_refl _) (.inr ⟨bn, 0, rfl, b1.1, b1.2, fun i hi => ?_⟩) (.inr ⟨bi, 0, rfl, b2.1, b2.2, ⟨_, _, _, h2, fun _ => rfl⟩, RepL.of_at fun i hi => ?_⟩)
 · rw [Nat.zero_add]; exact box_cell h1 (hn i hi)
 · obtain ⟨c0, c1, c2, c3, c4, k0, k1, k2, k3, k4, hr⟩ := hc i hi
   rw [Nat.zero_add]
   exact ⟨c0, c1, c2, c3, c4, box_cell h2 k0, box_cell h2 k1, box_cell h2 k2, box_cell h2 k3, box_cell h2 k4, by simp [World.frozen?, h2], hr⟩
theorem lawNumB (n : Int) (w : World) : Calls Tryz.prog 37 #[.int .i64 n] w fun e w' => e = .returned (.agg #[.int .u8 2, .int .i64 n, .string { data := #[] }, .slice none 0 0, .slice none 0 0]) ∧ Below w.heap.size w w' :=
 (lawNum n w).mono fun e w' h => ⟨h.1, by rw [h.2]; exact (Below.refl _ _).alloc (Nat.le_refl _) _⟩
theorem lawTextB (t : ByteArray) (w : World) : Calls Tryz.prog 39 #[.string t] w fun e w' => e = .returned (.agg #[.int .u8 3, .int .i64 0, .string t, .slice none 0 0, .slice none 0 0]) ∧ Below w.heap.size w w' :=
 (lawText t w).mono fun e w' h => ⟨h.1, by rw [h.2]; exact (Below.refl _ _).alloc (Nat.le_refl _) _⟩
theorem rep_numS (w : World) (lo hi : Nat) (n : Int) : Rep w lo hi (numJ n) (.agg #[.int .u8 2, .int .i64 n, .string { data := #[] }, .slice none 0 0, .slice none 0 0]) := by
 unfold numJ Rep
 exact ⟨none, 0, none, 0, rfl, Nat.le_refl _, Nat.le_refl _, .inl rfl, .inl rfl⟩
def SnapObjPost (lo : Nat) (k e : ByteArray) (m : JV) (n : Int) (w : World) (r : Ending) (w' : World) : Prop :=
 ∃ an ai, r = .returned (.agg #[.int .u8 5, .int .i64 0, .string { data := #[] }, .slice an 4 4, .slice ai 4 4]) ∧ Rep w' lo w'.heap.size (snapO k e m n) (.agg #[.int .u8 5, .int .i64 0, .string { data := #[] }, .slice an 4 4, .slice ai 4 4]) ∧ Below w.heap.size w w'
set_option maxHeartbeats 4000000 in
set_option maxRecDepth 100000 in
theorem lawSnapshot (kd ex : ByteArray) (m : JV) (an ai : Option Addr) (cn ci : Nat) (n : Int) (w : World) (lo hi : Nat) (hR : Rep w lo hi m (.agg #[.int .u8 m.kind, .int .i64 m.n, .string m.t, .slice an m.names.length cn, .slice ai m.items.length ci])) (hlo : lo ≤ w.heap.size) (hhi : hi ≤ w.heap.size) :
   Calls Tryz.prog 38 #[.string kd, .string ex, .agg #[.int .u8 m.kind, .int .i64 m.n, .string m.t, .slice an m.names.length cn, .slice ai m.items.length ci], .int .i64 n] w (SnapObjPost lo kd ex m n w) := by
 obtain ⟨W2, hW2⟩ : ∃ W2, W2 = (w.alloc (.cells #[.int .u8 m.kind, .int .i64 m.n, .string m.t, .slice an m.names.length cn, .slice ai m.items.length ci] 30)).alloc (.cells #[.int .u8 0, .int .i64 0, .string { data := #[] }, .slice none 0 0, .slice none 0 0] 30) := ⟨_, rfl⟩
 have hz2 : W2.heap.size = w.heap.size + 2 := by rw [hW2]; simp
 have hb2 : Below w.heap.size w W2 := by rw [hW2]; exact ((Below.refl _ _).alloc (Nat.le_refl _) _).alloc (by simp) _
 have hx : W2.heap[w.heap.size]? = some (.cells #[.int .u8 m.kind, .int .i64 m.n, .string m.t, .slice an m.names.length cn, .slice ai m.items.length ci] 30 (0, 0)) := by rw [hW2, Below.heap_alloc _ _ _ (by simp)]; exact heap_alloc_new w _
 have hr0 : W2.rowIs (w.heap.size + 1) 30 5 (pick5 (.int .u8 0) (.int .i64 0) (.string { data := #[] }) (.slice none 0 0) (.slice none 0 0)) := by
   have := rowIs_box5 (w.alloc (.cells #[.int .u8 m.kind, .int .i64 m.n, .string m.t, .slice an m.names.length cn, .slice ai m.items.length ci] 30)) (.int .u8 0) (.int .i64 0) (.string { data := #[] }) (.slice none 0 0) (.slice none 0 0) 30
   rw [show (w.alloc (.cells #[.int .u8 m.kind, .int .i64 m.n, .string m.t, .slice an m.names.length cn, .slice ai m.items.length ci] 30)).heap.size = w.heap.size + 1 by simp, ← hW2] at this
   exact this
 have HC := Lib.hid (show ∀ w' : World, Below W2.heap.size W2 w' → w'.cell? ⟨w.heap.size, 0, none⟩ = some (.int .u8 m.kind) ∧ w'.cell? ⟨w.heap.size, 1, none⟩ = some (.int .i64 m.n) ∧ w'.cell? ⟨w.heap.size, 2, none⟩ = some (.string m.t) ∧ w'.cell? ⟨w.heap.size, 3, none⟩ = some (.slice an m.names.length cn) ∧ w'.cell? ⟨w.heap.size, 4, none⟩ = some (.slice ai m.items.length ci) from fun w' h => by
   have x := (h.block _ (heap_lt hx)).trans hx
   exact ⟨box_cell x rfl, box_cell x rfl, box_cell x rfl, box_cell x rfl, box_cell x rfl⟩)
 have HR := Lib.hid hR
 have HLH := Lib.hid (And.intro hlo hhi)
 have HR0 := Lib.hid hr0
 have HB2 := Lib.hid hb2
 have HW := Lib.hid hW2
 have HZ := Lib.hid hz2
 clear hR hlo hhi hW2 hb2 hx hr0 hz2
 go_enter Tryz.func38, Tryz.ntmps38
 go_upto_region 1 with fail
 rw [← HW.out]
 obtain ⟨V, hV⟩ : ∃ V : List MP, V = [.row W2.heap.size 4 9 #[.string { data := #[95, 116, 121, 112, 101] }, .string { data := #[101, 120, 112, 105, 114, 101, 115] }, .string { data := #[109, 101, 116, 97] }, .string { data := #[118, 101, 114, 115, 105, 111, 110] }], .con (.string kd), .con (.agg #[.int .u8 3, .int .i64 0, .string kd, .slice none 0 0, .slice none 0 0]), .con (.string ex), .con (.agg #[.int .u8 3, .int .i64 0, .string ex, .slice none 0 0, .slice none 0 0]), .con (.agg #[.int .u8 m.kind, .int .i64 m.n, .string m.t, .slice an m.names.length cn, .slice ai m.items.length ci]), .con (.int .i64 n), .con (.agg #[.int .u8 2, .int .i64 n, .string { data := #[] }, .slice none 0 0, .slice none 0 0]), .row W2.heap.size 4 30 #[.int .u8 3, .int .i64 0, .string kd, .slice none 0 0, .slice none 0 0, .int .u8 3, .int .i64 0, .string ex, .slice none 0 0, .slice none 0 0, .int .u8 m.kind, .int .i64 m.n, .string m.t, .slice an m.names.length cn, .slice ai m.items.length ci, .int .u8 2, .int .i64 n, .string { data := #[] }, .slice none 0 0, .slice none 0 0]] := ⟨_, rfl⟩
 have HV := Lib.hid hV
 clear hV
 refine wp_region_inv 9 (fun d a' w' => ∃ x9 x10 x11 x12 x13 x14 x15 x16 x17, a' = ⟨#[.string kd, .string ex, .agg #[.int .u8 m.kind, .int .i64 m.n, .string m.t, .slice an m.names.length cn, .slice ai m.items.length ci], .int .i64 n, undef, undef, .pointer (some ⟨w.heap.size, 0, none⟩), undef, .pointer (some ⟨w.heap.size + 1, 0, none⟩), x9, x10, x11, x12, x13, x14, x15, x16, x17, undef], []⟩ ∧ RegI W2 V d w' [x9, x10, x11, x12, x13, x14, x15, x16, x17]) (by kernel_rfl) (by kernel_rfl) ?first ?step ?last
 case first => exact ⟨_, _, _, _, _, _, _, _, _, rfl, RegI.first _ _ _ (by rw [HV.out]; rfl)⟩
 case step =>
   rintro d a' w' ⟨x9, x10, x11, x12, x13, x14, x15, x16, x17, rfl, h⟩ q hq hn hw
   rcases q with _ | _ | _ | _ | _ | _ | _ | _ | _ | q
   · refine wpOp_step rfl fun K hK => ?_
     go_simp
     exact hK _ _ ⟨_, x10, x11, x12, x13, x14, x15, x16, x17, rfl, h.new _ 0 _ (.row W2.heap.size 4 9 #[.string { data := #[95, 116, 121, 112, 101] }, .string { data := #[101, 120, 112, 105, 114, 101, 115] }, .string { data := #[109, 101, 116, 97] }, .string { data := #[118, 101, 114, 115, 105, 111, 110] }]) (by rw [HV.out]; rfl) (IsRow.made _ h.1.size)⟩
   · refine wpOp_step rfl fun K hK => ?_
     go_simp
     exact hK _ _ ⟨x9, _, x11, x12, x13, x14, x15, x16, x17, rfl, h.same 1 _ (.con (.string kd)) (by rw [HV.out]; rfl) rfl⟩
   · obtain rfl : x10 = .string kd := h.get 1 (hw _ rfl ⟨1, .data⟩ (by simp) rfl) (.con (.string kd)) (by rw [HV.out]; rfl) _ rfl
     obtain ⟨q0, q1, q2, q3, q4⟩ := HC.out w' h.1
     refine wpOp_step rfl fun K hK => ?_
     go_simp
     refine (lawTextB kd w').mono ?_
     rintro e w2 ⟨rfl, hb2⟩
     exact hK _ _ ⟨x9, _, _, x12, x13, x14, x15, x16, x17, rfl, h.did hb2 2 _ (.con (.agg #[.int .u8 3, .int .i64 0, .string kd, .slice none 0 0, .slice none 0 0])) (by rw [HV.out]; rfl) rfl⟩
   · refine wpOp_step rfl fun K hK => ?_
     go_simp
     exact hK _ _ ⟨x9, x10, x11, _, x13, x14, x15, x16, x17, rfl, h.same 3 _ (.con (.string ex)) (by rw [HV.out]; rfl) rfl⟩
   · obtain rfl : x12 = .string ex := h.get 3 (hw _ rfl ⟨3, .data⟩ (by simp) rfl) (.con (.string ex)) (by rw [HV.out]; rfl) _ rfl
     obtain ⟨q0, q1, q2, q3, q4⟩ := HC.out w' h.1
     refine wpOp_step rfl fun K hK => ?_
     go_simp
     refine (lawTextB ex w').mono ?_
     rintro e w2 ⟨rfl, hb2⟩
     exact hK _ _ ⟨x9, x10, x11, _, _, x14, x15, x16, x17, rfl, h.did hb2 4 _ (.con (.agg #[.int .u8 3, .int .i64 0, .string ex, .slice none 0 0, .slice none 0 0])) (by rw [HV.out]; rfl) rfl⟩
   · obtain ⟨q0, q1, q2, q3, q4⟩ := HC.out w' h.1
     refine wpOp_step rfl fun K hK => ?_
     go_simp
     exact hK _ _ ⟨x9, x10, x11, x12, x13, _, x15, x16, x17, rfl, h.same 5 _ (.con (.agg #[.int .u8 m.kind, .int .i64 m.n, .string m.t, .slice an m.names.length cn, .slice ai m.items.length ci])) (by rw [HV.out]; rfl) rfl⟩
   · refine wpOp_step rfl fun K hK => ?_
     go_simp
     exact hK _ _ ⟨x9, x10, x11, x12, x13, x14, _, x16, x17, rfl, h.same 6 _ (.con (.int .i64 n)) (by rw [HV.out]; rfl) rfl⟩
   · obtain rfl : x15 = .int .i64 n := h.get 6 (hw _ rfl ⟨6, .data⟩ (by simp) rfl) (.con (.int .i64 n)) (by rw [HV.out]; rfl) _ rfl
     obtain ⟨q0, q1, q2, q3, q4⟩ := HC.out w' h.1
     refine wpOp_step rfl fun K hK => ?_
     go_simp
     refine (lawNumB n w').mono ?_
     rintro e w2 ⟨rfl, hb2⟩
     exact hK _ _ ⟨x9, x10, x11, x12, x13, x14, _, _, x17, rfl, h.did hb2 7 _ (.con (.agg #[.int .u8 2, .int .i64 n, .string { data := #[] }, .slice none 0 0, .slice none 0 0])) (by rw [HV.out]; rfl) rfl⟩
   · obtain rfl : x11 = .agg #[.int .u8 3, .int .i64 0, .string kd, .slice none 0 0, .slice none 0 0] := h.get 2 (hw _ rfl ⟨2, .data⟩ (by simp) rfl) (.con (.agg #[.int .u8 3, .int .i64 0, .string kd, .slice none 0 0, .slice none 0 0])) (by rw [HV.out]; rfl) _ rfl
     obtain rfl : x13 = .agg #[.int .u8 3, .int .i64 0, .string ex, .slice none 0 0, .slice none 0 0] := h.get 4 (hw _ rfl ⟨4, .data⟩ (by simp) rfl) (.con (.agg #[.int .u8 3, .int .i64 0, .string ex, .slice none 0 0, .slice none 0 0])) (by rw [HV.out]; rfl) _ rfl
     obtain rfl : x14 = .agg #[.int .u8 m.kind, .int .i64 m.n, .string m.t, .slice an m.names.length cn, .slice ai m.items.length ci] := h.get 5 (hw _ rfl ⟨5, .data⟩ (by simp) rfl) (.con (.agg #[.int .u8 m.kind, .int .i64 m.n, .string m.t, .slice an m.names.length cn, .slice ai m.items.length ci])) (by rw [HV.out]; rfl) _ rfl
     obtain rfl : x16 = .agg #[.int .u8 2, .int .i64 n, .string { data := #[] }, .slice none 0 0, .slice none 0 0] := h.get 7 (hw _ rfl ⟨7, .data⟩ (by simp) rfl) (.con (.agg #[.int .u8 2, .int .i64 n, .string { data := #[] }, .slice none 0 0, .slice none 0 0])) (by rw [HV.out]; rfl) _ rfl
     refine wpOp_step rfl fun K hK => ?_
     go_simp
     exact hK _ _ ⟨x9, x10, _, x12, _, _, x15, _, _, rfl, h.new _ 8 _ (.row W2.heap.size 4 30 #[.int .u8 3, .int .i64 0, .string kd, .slice none 0 0, .slice none 0 0, .int .u8 3, .int .i64 0, .string ex, .slice none 0 0, .slice none 0 0, .int .u8 m.kind, .int .i64 m.n, .string m.t, .slice an m.names.length cn, .slice ai m.items.length ci, .int .u8 2, .int .i64 n, .string { data := #[] }, .slice none 0 0, .slice none 0 0]) (by rw [HV.out]; rfl) (IsRow.made _ h.1.size)⟩
   · omega
 case last =>
   rintro d a' w' hall ⟨x9, x10, x11, x12, x13, x14, x15, x16, x17, rfl, h⟩
   have hle := h.1
   obtain ⟨b9, k9, rfl, m9⟩ := h.get 0 (hall _ (by omega)) (.row W2.heap.size 4 9 #[.string { data := #[95, 116, 121, 112, 101] }, .string { data := #[101, 120, 112, 105, 114, 101, 115] }, .string { data := #[109, 101, 116, 97] }, .string { data := #[118, 101, 114, 115, 105, 111, 110] }]) (by rw [HV.out]; rfl) _ rfl
   obtain ⟨b17, k17, rfl, m17⟩ := h.get 8 (hall _ (by omega)) (.row W2.heap.size 4 30 #[.int .u8 3, .int .i64 0, .string kd, .slice none 0 0, .slice none 0 0, .int .u8 3, .int .i64 0, .string ex, .slice none 0 0, .slice none 0 0, .int .u8 m.kind, .int .i64 m.n, .string m.t, .slice an m.names.length cn, .slice ai m.items.length ci, .int .u8 2, .int .i64 n, .string { data := #[] }, .slice none 0 0, .slice none 0 0]) (by rw [HV.out]; rfl) _ rfl
   have HLE := Lib.hid hle
   clear h hall hle HV
   have hb3 := HLE.out
   have hres := below_row hb3 HR0.out (by have := HZ.out; omega)
   have HRS := Lib.hid hres
   have HBX := Lib.hid (show Below W2.heap.size W2 w' from hb3)
   have HM9 := Lib.hid m9
   have HM17 := Lib.hid m17
   have HK := Lib.hid (And.intro k9 k17)
   clear hb3 hres m9 m17 k9 k17
   go_wp2_with fail
   refine (lawObj _ _ _ _ _ _ w').mono ?_
   rintro e w3 ⟨rfl, h3⟩
   have hb3 : Below w'.heap.size w' w3 := by rw [h3]; exact (Below.refl _ _).alloc (Nat.le_refl _) _
   have hz3 : w'.heap.size < w3.heap.size := by rw [h3]; simp
   clear h3
   have HB3 := Lib.hid (HBX.out.trans (hb3.mono HBX.out.size))
   have HBB := Lib.hid hb3
   have hres := below_row hb3 HRS.out HRS.out.lt
   have HR3 := Lib.hid hres
   have s0 := hres.frozen 0; have s1 := hres.frozen 1; have s2 := hres.frozen 2; have s3 := hres.frozen 3; have s4 := hres.frozen 4
   have t0 := hres.cell (i := 0) (by decide); have t1 := hres.cell (i := 1) (by decide); have t2 := hres.cell (i := 2) (by decide); have t3 := hres.cell (i := 3) (by decide); have t4 := hres.cell (i := 4) (by decide)
   simp only [pick5] at t0 t1 t2 t3 t4
   clear hres hb3
   go_wp2
   refine bodyPost_ret (results_cell_row Tryz.results38 _ _ (w.heap.size + 1) 30 _ (0, 0) _ rfl (row5_heap (set5 _ _ _ _ _ HR3.out)) Tryz.underlying30 rfl (by kernel_rfl)) rfl ?_
   refine ⟨some ⟨b9, 0, none⟩, some ⟨b17, 0, none⟩, rfl, ?_, below5 _ _ _ _ _ (HB2.out.trans (HB3.out.mono HB2.out.size)) (by omega)⟩
   have hz := HZ.out
   have hlh := HLH.out
   have hk := HK.out
   have l9 : b9 < w'.heap.size := heap_lt HM9.out
   have l17 : b17 < w'.heap.size := heap_lt HM17.out
   have hbf := below5 (b := w.heap.size + 1) (.int .u8 5) (.int .i64 0) (.string { data := #[] }) (.slice (some ⟨b9, 0, none⟩) 4 4) (.slice (some ⟨b17, 0, none⟩) 4 4) (HB2.out.trans (HB3.out.mono HB2.out.size)) (by omega)
   have hsf : ∀ {v0 v1 v2 v3 v4 : Value}, (((((w3.setCell ⟨w.heap.size + 1, 0, none⟩ v0).setCell ⟨w.heap.size + 1, 1, none⟩ v1).setCell ⟨w.heap.size + 1, 2, none⟩ v2).setCell ⟨w.heap.size + 1, 3, none⟩ v3).setCell ⟨w.heap.size + 1, 4, none⟩ v4).heap.size = w3.heap.size := size5
   rw [hsf]
   refine rep_obj (ns := [typN, expN, metN, verN]) (its := [txtJ kd, txtJ ex, m, numJ n]) ((heap5 _ _ _ _ _ (by omega)).trans ((HBB.out.block _ l9).trans HM9.out)) (fun i hi => ?_) ((heap5 _ _ _ _ _ (by omega)).trans ((HBB.out.block _ l17).trans HM17.out)) (fun i hi => ?_) ⟨by omega, by omega⟩ ⟨by omega, by omega⟩ rfl rfl
   · match i, hi with
     | 0, _ => rfl
     | 1, _ => rfl
     | 2, _ => rfl
     | 3, _ => rfl
   · match i, hi with
     | 0, _ => exact ⟨_, _, _, _, _, rfl, rfl, rfl, rfl, rfl, rep_txt _ _ _ _⟩
     | 1, _ => exact ⟨_, _, _, _, _, rfl, rfl, rfl, rfl, rfl, rep_txt _ _ _ _⟩
     | 2, _ => exact ⟨_, _, _, _, _, rfl, rfl, rfl, rfl, rfl, HR.out.below hbf hlh.2 (Nat.le_refl _) (by have := HB2.out.size; have := HB3.out.size; omega)⟩
     | 3, _ => exact ⟨_, _, _, _, _, rfl, rfl, rfl, rfl, rfl, rep_numS _ _ _ _⟩
theorem take_eq_snoc {α : Type} {l m : List α} {k : Nat} (h : k < l.length) (h' : k < m.length) (e : l.take k = m.take k) (e2 : l[k] = m[k]) : l.take (k + 1) = m.take (k + 1) := by
 rw [List.take_succ_eq_append_getElem h, List.take_succ_eq_append_getElem h', e, e2]
set_option maxRecDepth 100000 in
set_option maxHeartbeats 2000000 in
theorem refSame (N : Nat) : ∀ (v u : JV) (x y : Value) (lo hi : Nat) (w : World), v.wt ≤ N → u.wt ≤ 4294967296 → N ≤ 4294967296 → hi ≤ w.heap.size → Rep w lo hi v x → Rep w lo hi u y →
   Calls Tryz.prog 19 #[x, y] w fun e w' => e = .returned (.bool (v.sameB u)) ∧ Below w.heap.size w w' := by
 induction N with
 | zero => intro v u x y lo hi w h; have := v.wt_pos; omega
 | succ N ih =>
   intro v u x y lo hi w hN hU hM hhi hR hS
   have IH := Lib.hid ih
   clear ih
   obtain ⟨an, cn, ai, ci, rfl, _, _, h3, h4⟩ := hR.parts
   obtain ⟨an', cn', ai', ci', rfl, _, _, h3', h4'⟩ := hS.parts
   have HEQ := Lib.hid (v.sameB_eq u)
   obtain ⟨b1, b2, b3, b4⟩ := v.wt_bd
   obtain ⟨d1, d2, d3, d4⟩ := u.wt_bd
   have H3 := Lib.hid h3
   have H4 := Lib.hid h4
   have H3' := Lib.hid h3'
   have H4' := Lib.hid h4'
   clear h3 h4 h3' h4' hR hS
   have HB0 := Lib.hid (show Below w.heap.size w ((w.alloc (.cells #[.int .u8 v.kind, .int .i64 v.n, .string v.t, .slice an v.names.length cn, .slice ai v.items.length ci] 30)).alloc (.cells #[.int .u8 u.kind, .int .i64 u.n, .string u.t, .slice an' u.names.length cn', .slice ai' u.items.length ci'] 30)) from ((Below.refl _ _).alloc (Nat.le_refl _) _).alloc (by simp) _)
   by_cases hk : v.kind = u.kind
   case neg =>
     have t1 : (v.kind == u.kind) = false := by simpa using hk
     have t2 : (v.kind != u.kind) = true := by simpa using hk
     rw [decide_eq_false hk] at HEQ
     clear hk
     go_enter Tryz.func19, Tryz.ntmps19
     go_wp2
     go_ret
     exact ⟨by rw [HEQ.out]; rfl, HB0.out⟩
   have t1 : (v.kind != u.kind) = false := by simpa using hk
   have HK := Lib.hid hk
   rw [decide_eq_true hk] at HEQ
   clear hk
   by_cases hn : v.n = u.n
   case neg =>
     have t3 : (v.n != u.n) = true := by simpa using hn
     rw [decide_eq_false hn] at HEQ
     clear hn
     go_enter Tryz.func19, Tryz.ntmps19
     go_wp2
     go_ret
     exact ⟨by rw [HEQ.out]; rfl, HB0.out⟩
   have t2 : (v.n != u.n) = false := by simpa using hn
   rw [decide_eq_true hn] at HEQ
   clear hn
   by_cases ht : v.t = u.t
   case neg =>
     have t3 : (v.t.toList == u.t.toList) = false := beq_eq_false_iff_ne.2 (fun e => ht (ba_ext2 e))
     have t4 : (v.t.toList != u.t.toList) = true := bne_iff_ne.2 (fun e => ht (ba_ext2 e))
     rw [decide_eq_false ht] at HEQ
     clear ht
     go_enter Tryz.func19, Tryz.ntmps19
     go_wp2
     go_ret
     exact ⟨by rw [HEQ.out]; rfl, HB0.out⟩
   have t3 : (v.t.toList == u.t.toList) = true := by rw [ht]; simp
   have t4 : (v.t.toList != u.t.toList) = false := by rw [ht]; simp
   rw [decide_eq_true ht] at HEQ
   clear ht
   by_cases hm : v.names.length = u.names.length
   case neg =>
     have t5 : ((v.names.length : Int) != (u.names.length : Int)) = true := by rw [bne_iff_ne]; omega
     have t6 : (v.names.length != u.names.length) = true := by rw [bne_iff_ne]; omega
     rw [decide_eq_false (fun e : v.names = u.names => hm (by rw [e]))] at HEQ
     clear hm
     go_enter Tryz.func19, Tryz.ntmps19
     go_wp2
     go_ret
     exact ⟨by rw [HEQ.out]; rfl, HB0.out⟩
   by_cases hl : v.items.length = u.items.length
   case neg =>
     have t5 : ((v.items.length : Int) != (u.items.length : Int)) = true := by rw [bne_iff_ne]; omega
     have t6 : (v.items.length != u.items.length) = true := by rw [bne_iff_ne]; omega
     have t7 : ((v.names.length : Int) != (u.names.length : Int)) = false := by rw [bne_eq_false_iff_eq]; omega
     have t8 : (v.names.length != u.names.length) = false := by rw [bne_eq_false_iff_eq]; omega
     rw [decide_eq_false hl] at HEQ
     clear hl hm
     go_enter Tryz.func19, Tryz.ntmps19
     go_wp2
     go_ret
     exact ⟨by rw [HEQ.out]; simp, HB0.out⟩
   rw [decide_eq_true hl] at HEQ
   simp only [Bool.true_and] at HEQ
   rw [← hl, ← hm]
   obtain ⟨ni, hni⟩ : ∃ ni, ni = v.items.length := ⟨_, rfl⟩
   obtain ⟨nn, hnn⟩ : ∃ nn, nn = v.names.length := ⟨_, rfl⟩
   rw [← hni, ← hnn]
   rw [← hni] at b3
   rw [← hnn] at b2
   have HNI := Lib.hid hni
   have HNU := Lib.hid (show u.items.length = ni by rw [hni, hl])
   have HNN := Lib.hid hnn
   have HNM := Lib.hid (show u.names.length = nn by rw [hnn, hm])
   clear hl hni hm hnn HB0
   have hx0 : ((w.alloc (.cells #[.int .u8 v.kind, .int .i64 v.n, .string v.t, .slice an nn cn, .slice ai ni ci] 30)).alloc (.cells #[.int .u8 u.kind, .int .i64 u.n, .string u.t, .slice an' nn cn', .slice ai' ni ci'] 30)).heap[w.heap.size]? = some (.cells #[.int .u8 v.kind, .int .i64 v.n, .string v.t, .slice an nn cn, .slice ai ni ci] 30 (0, 0)) := (Below.heap_alloc _ _ _ (by simp)).trans (heap_alloc_new w _)
   have hy0 : ((w.alloc (.cells #[.int .u8 v.kind, .int .i64 v.n, .string v.t, .slice an nn cn, .slice ai ni ci] 30)).alloc (.cells #[.int .u8 u.kind, .int .i64 u.n, .string u.t, .slice an' nn cn', .slice ai' ni ci'] 30)).heap[w.heap.size + 1]? = some (.cells #[.int .u8 u.kind, .int .i64 u.n, .string u.t, .slice an' nn cn', .slice ai' ni ci'] 30 (0, 0)) := by
     have := heap_alloc_new (w.alloc (.cells #[.int .u8 v.kind, .int .i64 v.n, .string v.t, .slice an nn cn, .slice ai ni ci] 30)) (.cells #[.int .u8 u.kind, .int .i64 u.n, .string u.t, .slice an' nn cn', .slice ai' ni ci'] 30)
     rwa [show (w.alloc (.cells #[.int .u8 v.kind, .int .i64 v.n, .string v.t, .slice an nn cn, .slice ai ni ci] 30)).heap.size = w.heap.size + 1 by simp] at this
   have HB0 := Lib.hid (show Below w.heap.size w ((w.alloc (.cells #[.int .u8 v.kind, .int .i64 v.n, .string v.t, .slice an nn cn, .slice ai ni ci] 30)).alloc (.cells #[.int .u8 u.kind, .int .i64 u.n, .string u.t, .slice an' nn cn', .slice ai' ni ci'] 30)) from ((Below.refl _ _).alloc (Nat.le_refl _) _).alloc (by simp) _)
   have HX0 := Lib.hid hx0
   have HY0 := Lib.hid hy0
   clear hx0 hy0
   -- what each later world gives
   have HW := Lib.hid (show ∀ w' : World, Below (w.heap.size + 2) ((w.alloc (.cells #[.int .u8 v.kind, .int .i64 v.n, .string v.t, .slice an nn cn, .slice ai ni ci] 30)).alloc (.cells #[.int .u8 u.kind, .int .i64 u.n, .string u.t, .slice an' nn cn', .slice ai' ni ci'] 30)) w' →
       Below w.heap.size w w' ∧ w.heap.size + 2 ≤ w'.heap.size ∧ w'.cell? ⟨w.heap.size, 3, none⟩ = some (.slice an nn cn) ∧ w'.cell? ⟨w.heap.size, 4, none⟩ = some (.slice ai ni ci) ∧ w'.cell? ⟨w.heap.size + 1, 3, none⟩ = some (.slice an' nn cn') ∧ w'.cell? ⟨w.heap.size + 1, 4, none⟩ = some (.slice ai' ni ci') from fun w' h => by
     have hx : w'.heap[w.heap.size]? = _ := (h.block _ (by omega)).trans HX0.out
     have hy : w'.heap[w.heap.size + 1]? = _ := (h.block _ (by omega)).trans HY0.out
     exact ⟨HB0.out.trans (h.mono (by omega)), by have := h.size; simpa using this, box_cell hx rfl, box_cell hx rfl, box_cell hy rfl, box_cell hy rfl⟩)
   go_enter Tryz.func19, Tryz.ntmps19
   go_wp2
   clear t1 t2 t3 t4
   go_loopw [5] (fun i wr => ∃ k : Nat, k ≤ nn ∧ i = .int .i64 k ∧ v.names.take k = u.names.take k ∧ Below (w.heap.size + 2) ((w.alloc (.cells #[.int .u8 v.kind, .int .i64 v.n, .string v.t, .slice an nn cn, .slice ai ni ci] 30)).alloc (.cells #[.int .u8 u.kind, .int .i64 u.n, .string u.t, .slice an' nn cn', .slice ai' ni ci'] 30)) wr) (fun i _ => nn - (intOf i).toNat)
   case atStart => exact ⟨0, by omega, rfl, by simp, Below.refl _ _⟩
   case round =>
     obtain ⟨k, hk, rfl, hall, hbel⟩ := hrel
     obtain ⟨hbw, hz, c3, c4, d3', d4'⟩ := HW.out wr hbel
     have HA := Lib.hid hall
     have HB := Lib.hid hbel
     have HBW := Lib.hid hbw
     clear hall hbel hbw
     by_cases hlt : k < nn
     · have hl1 : k < v.names.length := by rw [← HNN.out]; exact hlt
       have hl2 : k < u.names.length := by rw [HNM.out]; exact hlt
       obtain ⟨p, f, rfl, _, _, y1⟩ := (H3.out.below HBW.out hhi (Nat.le_refl _) (Nat.le_refl _)).at k hl1
       obtain ⟨p', f', rfl, _, _, y2⟩ := (H3'.out.below HBW.out hhi (Nat.le_refl _) (Nat.le_refl _)).at k hl2
       have g1 : 0 ≤ (k : Int) := by omega
       have g2 : (k : Int) < (nn : Int) := by omega
       by_cases he : v.names[k] = u.names[k]
       · have HF := Lib.hid (take_eq_snoc hl1 hl2 HA.out he)
         have t1 : (v.names[k].toList == u.names[k].toList) = true := by rw [he]; simp
         have t2 : (v.names[k].toList != u.names[k].toList) = false := by rw [he]; simp
         clear he
         generalize v.names[k] = na at *
         generalize u.names[k] = nb at *
         go_wp2_with fail
         go_quiet (fail)
         go_wp2
         go_roundw
         case rel => exact ⟨k + 1, by omega, by go_num, HF.out, Below.drewN HB.out _⟩
         case measure => simp [intOf]; omega
       · have HF := Lib.hid (show decide (v.names = u.names) = false from decide_eq_false (fun e => he (by simp only [e])))
         have t1 : (v.names[k].toList == u.names[k].toList) = false := beq_eq_false_iff_ne.2 (fun e => he (ba_ext2 e))
         have t2 : (v.names[k].toList != u.names[k].toList) = true := bne_iff_ne.2 (fun e => he (ba_ext2 e))
         clear he
         generalize v.names[k] = na at *
         generalize u.names[k] = nb at *
         go_wp2_with fail
         go_quiet (fail)
         go_wp2
         go_ret
         exact ⟨by rw [HEQ.out, HF.out]; rfl, Below.drewN HBW.out _⟩
     · have HNE := Lib.hid (show v.names = u.names by
         have := HA.out; rwa [List.take_of_length_le (by rw [← HNN.out]; omega), List.take_of_length_le (by rw [HNM.out]; omega)] at this)
       rw [decide_eq_true HNE.out, Bool.true_and] at HEQ
       obtain ⟨k1, rfl⟩ : ∃ k1 : Nat, k1 = k := ⟨_, rfl⟩
       obtain ⟨wa, rfl⟩ : ∃ wa : World, wa = wr := ⟨_, rfl⟩
       go_wp2
       clear c3 c4 d3' d4'
       go_loopw [6] (fun i wr => ∃ k : Nat, k ≤ ni ∧ i = .int .i64 k ∧ JV.sameL (v.items.take k) (u.items.take k) = true ∧ Below (w.heap.size + 2) ((w.alloc (.cells #[.int .u8 v.kind, .int .i64 v.n, .string v.t, .slice an nn cn, .slice ai ni ci] 30)).alloc (.cells #[.int .u8 u.kind, .int .i64 u.n, .string u.t, .slice an' nn cn', .slice ai' ni ci'] 30)) wr) (fun i _ => ni - (intOf i).toNat)
       case atStart => exact ⟨0, by omega, rfl, by simp [JV.sameL], HB.out⟩
       case round =>
         clear HA HB HBW hz
         obtain ⟨k, hk2, rfl, hall, hbel⟩ := hrel
         obtain ⟨hbw, hz, c3, c4, d3', d4'⟩ := HW.out wr hbel
         have HA := Lib.hid hall
         have HB := Lib.hid hbel
         have HBW := Lib.hid hbw
         clear hall hbel hbw c3 d3'
         by_cases hlt2 : k < ni
         · have hltv : k < v.items.length := by rw [← HNI.out]; exact hlt2
           have hltu : k < u.items.length := by rw [HNU.out]; exact hlt2
           obtain ⟨p, f, e0, e1, e2, e3, e4, rfl, _, _, g0, g1, g2, g3, g4, hr⟩ := (H4.out.below HBW.out hhi (Nat.le_refl _) (Nat.le_refl _)).at k hltv
           obtain ⟨p', f', e0', e1', e2', e3', e4', rfl, _, _, g0', g1', g2', g3', g4', hr'⟩ := (H4'.out.below HBW.out hhi (Nat.le_refl _) (Nat.le_refl _)).at k hltu
           have hw1 := JV.wts_get v.items k hltv
           have hw2 := JV.wts_get u.items k hltu
           have HTK := Lib.hid (JV.sameL_take v.items u.items k hltv hltu)
           have HTB := Lib.hid (JV.sameL_bad v.items u.items k hltv hltu)
           have HC := Lib.hid (IH.out v.items[k] u.items[k] _ _ lo hi wr.drew (by omega) (by omega) (by omega) (by show hi ≤ wr.heap.size; omega) (Rep.carry (w := wr) (w' := wr.drew) (Nat.le_refl _) (Nat.le_refl _) (fun _ _ _ => rfl) _ _ hr) (Rep.carry (w := wr) (w' := wr.drew) (Nat.le_refl _) (Nat.le_refl _) (fun _ _ _ => rfl) _ _ hr'))
           clear hr hr'
           generalize v.items[k] = it at *
           generalize u.items[k] = jt at *
           have m1 : 0 ≤ (k : Int) := by omega
           have m2 : (k : Int) < (ni : Int) := by omega
           cases hsb : it.sameB jt
           · have HF := Lib.hid (HTB.out hsb)
             rw [hsb] at HC
             clear hsb
             go_wp2_with fail
             go_still_tail 10, (by kernel_rfl)
             go_wp2_with fail
             refine HC.out.mono ?_
             rintro e w5 ⟨rfl, hb5⟩
             have HB5 := Lib.hid (HBW.out.drew.trans (hb5.mono (by show w.heap.size ≤ wr.heap.size; omega)))
             clear hb5 g0 g1 g2 g3 g4 g0' g1' g2' g3' g4' c4 d4'
             go_wp2
             go_ret
             exact ⟨by rw [HEQ.out, HF.out]; rfl, HB5.out⟩
           · have HF := Lib.hid (show JV.sameL (v.items.take (k + 1)) (u.items.take (k + 1)) = true by rw [HTK.out, HA.out, hsb]; rfl)
             rw [hsb] at HC
             clear hsb
             go_wp2_with fail
             go_still_tail 10, (by kernel_rfl)
             go_wp2_with fail
             refine HC.out.mono ?_
             rintro e w5 ⟨rfl, hb5⟩
             have HB5 := Lib.hid (HB.out.drew.trans (hb5.mono (by show w.heap.size + 2 ≤ wr.heap.size; omega)))
             clear hb5 g0 g1 g2 g3 g4 g0' g1' g2' g3' g4' c4 d4'
             go_wp2
             go_roundw
             case rel => exact ⟨k + 1, by omega, by go_num, HF.out, HB5.out⟩
             case measure => simp [intOf]; omega
         · have HF := Lib.hid (show JV.sameL v.items u.items = true by
             have := HA.out; rwa [List.take_of_length_le (by rw [← HNI.out]; omega), List.take_of_length_le (by rw [HNU.out]; omega)] at this)
           go_wp2
           go_ret
           exact ⟨by rw [HEQ.out, HF.out]; rfl, HBW.out⟩
end Go.Proofs.YtgghgcilpfdbjaaGreatDoor
