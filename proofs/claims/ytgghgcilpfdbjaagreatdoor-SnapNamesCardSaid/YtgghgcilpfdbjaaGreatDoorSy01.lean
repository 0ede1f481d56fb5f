/- append of a slice that may be empty, onto a row that the call owns: a law for the walk, in and out of drawn regions. No program in sight. -/
import Derived.Test.YtgghgcilpfdbjaaGreatDoorSy00
import Derived.Deep.AppendLies
import Derived.Test.YtgghgcilpfdbjaaGreatDoorProg
import Derived.WalkKit
import Derived.WalkSpells
import Derived.WalkLawsBesides
import Derived.Lib.Hide
import Derived.LaidEqlPtr
import Derived.Laws.ResultCell
import Derived.Laws.AppendOwnNone

namespace Go.Proofs.YtgghgcilpfdbjaaGreatDoor
open Go.RowKit
theorem StrsAt.inj {w : World} {lo hi lo' hi' : Nat} {a : Option Addr} {l m : List ByteArray} (hl : l.length = m.length) (h : StrsAt w lo hi a l) (h' : StrsAt w lo' hi' a m) : l = m := by
 rcases h with rfl | ⟨b, off, ha, _, _, hc⟩
 · exact (List.eq_nil_of_length_eq_zero (by rw [← hl]; rfl)).symm
 · rcases h' with rfl | ⟨b', off', ha', _, _, hc'⟩
   · exact List.eq_nil_of_length_eq_zero (by rw [hl]; rfl)
   · rw [ha] at ha'
     simp only [Option.some.injEq, Addr.mk.injEq, and_true] at ha'
     obtain ⟨rfl, rfl⟩ := ha'
     apply List.ext_getElem hl
     intro i h1 h2
     have e1 := hc i h1
     have e2 := hc' i h2
     rw [e1] at e2
     simpa using e2
mutual
theorem Rep.inj {w : World} {lo hi lo' hi' : Nat} : ∀ (v u : JV) (x : Value), Rep w lo hi v x → Rep w lo' hi' u x → v = u
 | .mk k n t ns xs, .mk k' n' t' ns' xs', x, h, h' => by
   unfold Rep at h h'
   obtain ⟨an, cn, ai, ci, hx, h1, h2, h3, h4⟩ := h
   obtain ⟨an', cn', ai', ci', hx', h1', h2', h3', h4'⟩ := h'
   rw [hx] at hx'
   simp only [Value.agg.injEq, Array.mk.injEq, List.cons.injEq, and_true, Value.int.injEq, true_and, Value.string.injEq, Value.slice.injEq] at hx'
   obtain ⟨rfl, rfl, rfl, ⟨rfl, e1, _⟩, rfl, e2, _⟩ := hx'
   have en := h3.inj e1 h3'
   subst en
   rcases h4 with rfl | ⟨b, off, ha, _, _, _, hr⟩
   · have : xs' = [] := List.eq_nil_of_length_eq_zero (by rw [← e2]; rfl)
     subst this; rfl
   · rcases h4' with rfl | ⟨b', off', ha', _, _, _, hr'⟩
     · have : xs = [] := List.eq_nil_of_length_eq_zero (by rw [e2]; rfl)
       subst this; rfl
     · rw [ha] at ha'
       simp only [Option.some.injEq, Addr.mk.injEq, and_true] at ha'
       obtain ⟨rfl, rfl⟩ := ha'
       rw [RepL.inj xs xs' b off e2 hr hr']
theorem RepL.inj {w : World} {lo hi lo' hi' : Nat} : ∀ (l m : List JV) (b off : Nat), l.length = m.length → RepL w lo hi l b off → RepL w lo' hi' m b off → l = m
 | [], m, _, _, hl, _, _ => (List.eq_nil_of_length_eq_zero (by rw [← hl]; rfl)).symm
 | v :: r, [], _, _, hl, _, _ => by simp at hl
 | v :: r, u :: s, b, off, hl, h, h' => by
   unfold RepL at h h'
   obtain ⟨⟨c0, c1, c2, c3, c4, e0, e1, e2, e3, e4, _, hv⟩, hr⟩ := h
   obtain ⟨⟨d0, d1, d2, d3, d4, f0, f1, f2, f3, f4, _, hu⟩, hs⟩ := h'
   rw [e0] at f0; rw [e1] at f1; rw [e2] at f2; rw [e3] at f3; rw [e4] at f4
   simp only [Option.some.injEq] at f0 f1 f2 f3 f4
   subst f0 f1 f2 f3 f4
   rw [Rep.inj v u _ hv hu, RepL.inj r s b (off + 5) (by simpa using hl) hr hs]
end
def VAt (w : World) (lo hi : Nat) (v : JV) (b o : Nat) : Prop := ∃ c0 c1 c2 c3 c4, w.cell? ⟨b, o, none⟩ = some c0 ∧ w.cell? ⟨b, o + 1, none⟩ = some c1 ∧ w.cell? ⟨b, o + 2, none⟩ = some c2 ∧ w.cell? ⟨b, o + 3, none⟩ = some c3 ∧ w.cell? ⟨b, o + 4, none⟩ = some c4 ∧ Rep w lo hi v (.agg #[c0, c1, c2, c3, c4])
theorem VAt.inj {w : World} {lo hi lo' hi' : Nat} {v u : JV} {b o : Nat} (h : VAt w lo hi v b o) (h' : VAt w lo' hi' u b o) : v = u := by
 obtain ⟨c0, c1, c2, c3, c4, e0, e1, e2, e3, e4, hv⟩ := h
 obtain ⟨d0, d1, d2, d3, d4, f0, f1, f2, f3, f4, hu⟩ := h'
 rw [e0] at f0; rw [e1] at f1; rw [e2] at f2; rw [e3] at f3; rw [e4] at f4
 simp only [Option.some.injEq] at f0 f1 f2 f3 f4
 subst f0 f1 f2 f3 f4
 exact Rep.inj v u _ hv hu
def Above (w : World) (lo hi : Nat) (n : Nat) (p : Option Addr) : Prop := p = none ∨ ∃ b o v, p = some ⟨b, o, none⟩ ∧ VAt w lo hi v b o ∧ n < v.wt ∧ BlkU w lo b ∧ w.frozen? ⟨b, o, none⟩ = false
def RepRow (w : World) (base : Nat) (X : Nat → Prop) (l : List JV) (cs : List Value) : Prop :=
 cs.length = 5 * l.length ∧ ∀ i (h : i < l.length), ∃ lo hi an cn ai ci, base ≤ lo ∧ hi ≤ w.heap.size ∧ (∀ b, X b → ¬ (lo ≤ b ∧ b < hi)) ∧
   cs[5 * i]? = some (.int .u8 l[i].kind) ∧ cs[5 * i + 1]? = some (.int .i64 l[i].n) ∧ cs[5 * i + 2]? = some (.string l[i].t) ∧ cs[5 * i + 3]? = some (.slice an l[i].names.length cn) ∧ cs[5 * i + 4]? = some (.slice ai l[i].items.length ci) ∧
   Rep w lo hi l[i] (.agg #[.int .u8 l[i].kind, .int .i64 l[i].n, .string l[i].t, .slice an l[i].names.length cn, .slice ai l[i].items.length ci])
theorem RepRow.nil (w : World) (base : Nat) (X : Nat → Prop) : RepRow w base X [] [] := ⟨rfl, fun i h => by simp at h⟩
theorem RepRow.carry {w w' : World} {base base' : Nat} {X X' : Nat → Prop} {l : List JV} {cs : List Value} (h : RepRow w base X l cs) (hsz : w.heap.size ≤ w'.heap.size)
   (hb : base' ≤ base) (hs : ∀ b, b < w.heap.size → ¬ X b → w'.heap[b]? = w.heap[b]?) (hX : ∀ b, X' b → X b ∨ w.heap.size ≤ b) : RepRow w' base' X' l cs := by
 refine ⟨h.1, fun i hi => ?_⟩
 obtain ⟨lo, hi', an, cn, ai, ci, h1, h2, h3, e0, e1, e2, e3, e4, hr⟩ := h.2 i hi
 refine ⟨lo, hi', an, cn, ai, ci, by omega, by omega, fun b hx hb => ?_, e0, e1, e2, e3, e4, Rep.carry (Nat.le_refl _) (Nat.le_refl _) (fun b hb1 hb2 => hs b (by omega) fun hx => h3 b hx ⟨hb1, hb2⟩) _ _ hr⟩
 rcases hX b hx with hx | hx
 · exact h3 b hx hb
 · omega
theorem RepRow.snoc {w : World} {base : Nat} {X : Nat → Prop} {l : List JV} {cs : List Value} (h : RepRow w base X l cs) (v : JV) (lo hi : Nat) (an : Option Addr) (cn : Nat) (ai : Option Addr) (ci : Nat) (h1 : base ≤ lo) (h2 : hi ≤ w.heap.size) (h3 : ∀ b, X b → ¬ (lo ≤ b ∧ b < hi))
   (hr : Rep w lo hi v (.agg #[.int .u8 v.kind, .int .i64 v.n, .string v.t, .slice an v.names.length cn, .slice ai v.items.length ci])) :
   RepRow w base X (l ++ [v]) (cs ++ [.int .u8 v.kind, .int .i64 v.n, .string v.t, .slice an v.names.length cn, .slice ai v.items.length ci]) := by
 refine ⟨by simp [h.1]; omega, fun i hi' => ?_⟩
 have hl := h.1
 by_cases e : i < l.length
 · obtain ⟨lo', hi'', an', cn', ai', ci', k1, k2, k3, e0, e1, e2, e3, e4, hr'⟩ := h.2 i e
   have ei : (l ++ [v])[i] = l[i] := List.getElem_append_left e
   rw [ei]
   refine ⟨lo', hi'', an', cn', ai', ci', k1, k2, k3, ?_, ?_, ?_, ?_, ?_, hr'⟩
   · rw [List.getElem?_append_left (by omega)]; exact e0
   · rw [List.getElem?_append_left (by omega)]; exact e1
   · rw [List.getElem?_append_left (by omega)]; exact e2
   · rw [List.getElem?_append_left (by omega)]; exact e3
   · rw [List.getElem?_append_left (by omega)]; exact e4
 · obtain rfl : i = l.length := by simp at hi'; omega
   have ei : (l ++ [v])[l.length] = v := by simp
   rw [ei]
   refine ⟨lo, hi, an, cn, ai, ci, h1, h2, h3, ?_, ?_, ?_, ?_, ?_, hr⟩
   · rw [List.getElem?_append_right (by omega), show 5 * l.length - cs.length = 0 by omega]; rfl
   · rw [List.getElem?_append_right (by omega), show 5 * l.length + 1 - cs.length = 1 by omega]; rfl
   · rw [List.getElem?_append_right (by omega), show 5 * l.length + 2 - cs.length = 2 by omega]; rfl
   · rw [List.getElem?_append_right (by omega), show 5 * l.length + 3 - cs.length = 3 by omega]; rfl
   · rw [List.getElem?_append_right (by omega), show 5 * l.length + 4 - cs.length = 4 by omega]; rfl
theorem owns_vals {w : World} {base e : Nat} {X : Nat → Prop} {v : Value} {n : Nat} {cs : List Value} {l : List JV} (h : w.ownsRow base e 5 v n cs) (hr : RepRow w base X l cs) (hn : n = l.length) :
   ∃ a c, v = .slice a l.length c ∧ l.length ≤ c ∧ ValsAt w base w.heap.size a l := by
 subst hn
 rcases h.2 with ⟨rfl, h0⟩ | ⟨g, cap, cur, rfl, hg, hh, hc, hm, hs, ht⟩
 · exact ⟨none, 0, by rw [h0], by omega, .inl (List.eq_nil_of_length_eq_zero h0)⟩
 · refine ⟨_, _, rfl, hc, ?_⟩
   by_cases h0 : l = []
   · exact .inl h0
   · have hlt : g < w.heap.size := by
       rcases Nat.lt_or_ge g w.heap.size with hlt | hge
       · exact hlt
       · rw [Array.getElem?_eq_none hge] at hh; cases hh
     have hcell : ∀ j u, cs[j]? = some u → w.cell? ⟨g, j, none⟩ = some u := fun j u hj => by
       have := h.cells (g := g) rfl j u hj
       have e : (⟨g, 0, none⟩ : Addr).add j = ⟨g, j, none⟩ := by unfold Addr.add; split <;> simp_all
       rwa [e] at this
     refine .inr ⟨g, 0, rfl, hg, hlt, ⟨cur, e, (0, 0), hh, fun _ => rfl⟩, RepL.of_at fun i hi => ?_⟩
     obtain ⟨lo, hi', an, cn, ai, ci, k1, k2, k3, e0, e1, e2, e3, e4, hr'⟩ := hr.2 i hi
     have z : ∀ j, 0 + i * 5 + j = 5 * i + j := fun j => by omega
     refine ⟨_, _, _, _, _, hcell _ _ ?_, hcell _ _ ?_, hcell _ _ ?_, hcell _ _ ?_, hcell _ _ ?_, ?_, Rep.carry k1 k2 (fun _ _ _ => rfl) _ _ hr'⟩
     · rw [show 0 + i * 5 = 5 * i by omega]; exact e0
     · rw [z 1]; exact e1
     · rw [z 2]; exact e2
     · rw [z 3]; exact e3
     · rw [z 4]; exact e4
     · simp [World.frozen?, hh]
theorem row_step {W wr w3 w4 : World} {cb e T : Nat} {f : Nat → Value} {j k g cap : Nat} {vi : Value} {cs : List Value} {l : List JV} {it : JV} {an ai : Option Addr} {cn ci : Nat} {o o' : Obj}
   (hcb : cb < W.heap.size) (htc : Touch (· = cb) W wr) (hrow : wr.rowIs cb T 5 f) (hown : wr.ownsRow W.heap.size e 5 vi k cs) (hrr : RepRow wr W.heap.size (fun b => b = cb ∨ vi.ownBlock = some b) l cs)
   (hb3 : Below (wr.heap.size + 1) (wr.alloc o).drew w3) (hr3 : Rep w3 (wr.heap.size + 1) w3.heap.size it (.agg #[.int .u8 it.kind, .int .i64 it.n, .string it.t, .slice an it.names.length cn, .slice ai it.items.length ci]))
   (hg : (w3.alloc o').grownBy w4 vi.ownBlock) (hat : vi.ownBlock = some g ∨ g = w3.heap.size + 1)
   (ho4 : w4.ownsRow W.heap.size e 5 (.slice (some ⟨g, 0, none⟩) (k + 1) cap) (k + 1) (cs ++ [.int .u8 it.kind, .int .i64 it.n, .string it.t, .slice an it.names.length cn, .slice ai it.items.length ci])) :
   Touch (· = cb) W (w4.setCell ⟨cb, j, none⟩ (.slice (some ⟨g, 0, none⟩) (k + 1) cap)) ∧
   (w4.setCell ⟨cb, j, none⟩ (.slice (some ⟨g, 0, none⟩) (k + 1) cap)).rowIs cb T 5 (fun i => if i = j then .slice (some ⟨g, 0, none⟩) (k + 1) cap else f i) ∧
   (w4.setCell ⟨cb, j, none⟩ (.slice (some ⟨g, 0, none⟩) (k + 1) cap)).ownsRow W.heap.size e 5 (.slice (some ⟨g, 0, none⟩) (k + 1) cap) (k + 1) (cs ++ [.int .u8 it.kind, .int .i64 it.n, .string it.t, .slice an it.names.length cn, .slice ai it.items.length ci]) ∧
   RepRow (w4.setCell ⟨cb, j, none⟩ (.slice (some ⟨g, 0, none⟩) (k + 1) cap)) W.heap.size (fun b => b = cb ∨ (Value.slice (some ⟨g, 0, none⟩) (k + 1) cap).ownBlock = some b) (l ++ [it]) (cs ++ [.int .u8 it.kind, .int .i64 it.n, .string it.t, .slice an it.names.length cn, .slice ai it.items.length ci]) := by
 have hwz : W.heap.size ≤ wr.heap.size := htc.size
 have hz3 : wr.heap.size + 1 ≤ w3.heap.size := by have := hb3.size; simp at this; omega
 have hz4 : w3.heap.size + 1 ≤ w4.heap.size := by have := hg.size; simp at this; omega
 have hz5 : (w4.setCell ⟨cb, j, none⟩ (.slice (some ⟨g, 0, none⟩) (k + 1) cap)).heap.size = w4.heap.size := by simp [World.setCell]
 have hoz : ∀ b, vi.ownBlock = some b → W.heap.size ≤ b ∧ b < wr.heap.size := fun b hb => hown.lt b hb
 -- from wr on
 have s1 : ∀ b, b < wr.heap.size → w3.heap[b]? = wr.heap[b]? := fun b hb => by
   rw [hb3.block b (by omega)]; exact Below.heap_alloc wr o b hb
 have s2 : ∀ b, b < w3.heap.size → vi.ownBlock ≠ some b → w4.heap[b]? = w3.heap[b]? := fun b hb hne => by
   rw [hg.block b (by simp; omega) (fun e => hne e.symm)]; exact Below.heap_alloc w3 o' b hb
 have s3 : ∀ b, b ≠ cb → (w4.setCell ⟨cb, j, none⟩ (.slice (some ⟨g, 0, none⟩) (k + 1) cap)).heap[b]? = w4.heap[b]? := fun b hb => Below.heap_setCell _ _ _ _ hb
 have hcn : vi.ownBlock ≠ some cb := fun e => by have := (hoz cb e).1; omega
 refine ⟨⟨?_, ?_, ?_, by omega, fun b hb hne => ?_⟩, ?_, ?_, ?_⟩
 · show w4.os = _; rw [hg.os, show (w3.alloc o').os = w3.os from rfl, hb3.os, show ((wr.alloc o).drew).os = wr.os from rfl, htc.os]
 · show w4.tape = _; rw [hg.tape, show (w3.alloc o').tape = w3.tape from rfl, hb3.tape, show ((wr.alloc o).drew).tape = wr.tape from rfl, htc.tape]
 · show w4.output = _; rw [hg.output, show (w3.alloc o').output = w3.output from rfl, hb3.output, show ((wr.alloc o).drew).output = wr.output from rfl, htc.output]
 · rw [s3 b hne, s2 b (by omega) (fun e => by have := (hoz b e).1; omega), s1 b (by omega)]; exact htc.block b hb hne
 · have h4 : w4.rowIs cb T 5 f := hrow.of_block (by rw [s2 cb (by omega) hcn, s1 cb (by omega)])
   exact h4.set j _
 · exact ownsRow_setCell_below ho4 hcb _
 · have hgb : ∀ b, (Value.slice (some ⟨g, 0, none⟩) (k + 1) cap).ownBlock = some b → b = g := fun b hb => by
     simp [Value.ownBlock] at hb; exact hb.symm
   have c1 : RepRow (w4.setCell ⟨cb, j, none⟩ (.slice (some ⟨g, 0, none⟩) (k + 1) cap)) W.heap.size (fun b => b = cb ∨ (Value.slice (some ⟨g, 0, none⟩) (k + 1) cap).ownBlock = some b) l cs := by
     refine hrr.carry (by omega) (Nat.le_refl _) (fun b hb hx => ?_) (fun b hx => ?_)
     · rw [s3 b (fun e => hx (.inl e)), s2 b (by omega) (fun e => hx (.inr e)), s1 b hb]
     · rcases hx with hx | hx
       · exact .inl (.inl hx)
       · rw [hgb b hx]
         rcases hat with ha | ha
         · exact .inl (.inr ha)
         · exact .inr (by omega)
   refine c1.snoc it (wr.heap.size + 1) w3.heap.size an cn ai ci (by omega) (by omega) (fun b hx hb => ?_) (Rep.carry (Nat.le_refl _) (Nat.le_refl _) (fun b h1 h2 => ?_) _ _ hr3)
   · rcases hx with hx | hx
     · omega
     · rw [hgb b hx] at hb
       rcases hat with ha | ha
       · have := (hoz g ha).2; omega
       · omega
   · rw [s3 b (by omega), s2 b h2 (fun e => by have := (hoz b e).2; omega)]
theorem owns_strs {w : World} {base e : Nat} {v : Value} {n : Nat} {l : List ByteArray} (h : w.ownsRow base e 1 v n (l.map .string)) (hn : n = l.length) :
   ∃ a c, v = .slice a l.length c ∧ l.length ≤ c ∧ StrsAt w base w.heap.size a l := by
 subst hn
 rcases h.2 with ⟨rfl, h0⟩ | ⟨g, cap, cur, rfl, hg, hh, hc, hm, hs, ht⟩
 · exact ⟨none, 0, by rw [h0], by omega, .inl (List.eq_nil_of_length_eq_zero h0)⟩
 · refine ⟨_, _, rfl, hc, ?_⟩
   by_cases h0 : l = []
   · exact .inl h0
   · have hlt : g < w.heap.size := by
       rcases Nat.lt_or_ge g w.heap.size with hlt | hge
       · exact hlt
       · rw [Array.getElem?_eq_none hge] at hh; cases hh
     refine .inr ⟨g, 0, rfl, hg, hlt, fun i hi => ?_⟩
     have := h.cells (g := g) rfl i (.string l[i]) (by simp [hi])
     have e : (⟨g, 0, none⟩ : Addr).add i = ⟨g, 0 + i, none⟩ := by unfold Addr.add; split <;> simp_all
     rwa [e] at this
theorem infoVal : ∃ j, Tryz.prog.info? 30 = some j ∧ j.size ≠ 0 := by
 have h : (Tryz.prog.info? 30).map (·.size) = some 5 := by kernel_rfl
 cases hj : Tryz.prog.info? 30 with
 | none => rw [hj] at h; cases h
 | some j =>
   rw [hj] at h
   have e : j.size = 5 := by simpa using h
   exact ⟨j, rfl, by rw [e]; decide⟩
set_option maxRecDepth 100000 in
set_option maxHeartbeats 1000000 in
theorem valueEndless (N : Nat) : ∀ (l : List JV) (a : Option Addr) (c lv : Nat) (p : Option Addr) (lo hi : Nat) (w : World), 0 < lo → JV.wts l ≤ N → lv + N ≤ 1099511627776 → ValsAt w lo hi a l → Above w lo hi (JV.wts l) p →
   Calls Tryz.prog 124 #[.slice a l.length c, .int .i64 lv, .pointer p, .bool false] w fun e w' => e = .returned (.bool false) ∧ w = w' := by
 induction N with
 | zero =>
   intro l a c lv p lo hi w hlo hN hlv hV hA
   have hlen := JV.wts_len l
   obtain rfl : l = [] := List.eq_nil_of_length_eq_zero (by omega)
   clear hV hA
   go_enter Tryz.func124, Tryz.ntmps124
   go_wp2
   refine wp_loop_rounds 1 ?_
   rw [rounds_succ]
   go_wp2
   go_ret
   exact ⟨rfl, rfl⟩
 | succ N ih =>
   intro l a c lv p lo hi w hlo hN hlv hV hA
   have IH := Lib.hid ih; clear ih
   have HV := Lib.hid hV; clear hV
   have HA := Lib.hid hA; clear hA
   have hlen := JV.wts_len l
   obtain ⟨n, hn⟩ : ∃ n, n = l.length := ⟨_, rfl⟩
   rw [← hn]
   rw [← hn] at hlen
   have HN := Lib.hid hn; clear hn
   go_enter Tryz.func124, Tryz.ntmps124
   go_wp2
   go_loop [9, 10, 11, 14] (fun _ _ _ i => ∃ k : Nat, k ≤ n ∧ i = .int .i64 k) (fun _ _ _ i => n - (intOf i).toNat)
   case atStart => exact ⟨0, by omega, rfl⟩
   case round =>
     obtain ⟨k, hk, rfl⟩ := hrel
     by_cases hlt : k < n
     · have hlt' : k < l.length := by rw [← HN.out]; exact hlt
       obtain ⟨b, off, an, cn, ai, ci, rfl, _, hb, y0, y1, y2, y3, y4, hrep⟩ := HV.out.get k hlt'
       have hwk := JV.wts_get l k hlt'
       have HVA : Hid (VAt w lo hi l[k] b (off + k * 5)) := ⟨_, _, _, _, _, y0, y1, y2, y3, y4, hrep⟩
       obtain ⟨_, _, _, hwi⟩ := l[k].wt_bd
       have HI := Lib.hid (show ValsAt w lo hi ai l[k].items by
         obtain ⟨an', cn', ai', ci', hx, _, _, _, h5⟩ := hrep.parts
         simp only [Value.agg.injEq, Array.mk.injEq, List.cons.injEq, and_true, Value.slice.injEq] at hx
         obtain ⟨_, _, _, _, rfl, _, _⟩ := hx
         exact h5)
       have hblk := HV.out.blk k hlt'
       have HBK := Lib.hid hblk
       clear hblk
       generalize l[k] = it at *
       have hblk := HBK.out
       clear hrep y1 y2 y3
       have HA1 : Hid (Above w lo hi (JV.wts it.items) (some ⟨b, off + k * 5, none⟩)) := .inr ⟨b, off + k * 5, it, rfl, HVA.out, by omega, hblk.1, hblk.2⟩
       clear hblk
       rcases HA.out with rfl | ⟨pb, po, pv, rfl, hpv, hpw, hpu, hpf⟩
       · have HA2 : Hid (Above w lo hi (JV.wts it.items) none) := .inl rfl
         cases hbit : (bits BinOp.and IntKind.i64 (lv : Int) ((lv : Int) - 1) == 0)
         · go_wp2_with fail
           rw [show (lv : Int) + 1 = ((lv + 1 : Nat) : Int) by omega]
           refine (IH.out it.items ai ci (lv + 1) none lo hi w hlo (by omega) (by omega) HI.out HA2.out).mono ?_
           rintro e w1 ⟨rfl, rfl⟩
           go_wp2
           go_round
           case rel => exact ⟨k + 1, by omega, by go_num⟩
           case measure => simp [intOf]; omega
         · go_wp2_with fail
           rw [show (lv : Int) + 1 = ((lv + 1 : Nat) : Int) by omega]
           refine (IH.out it.items ai ci (lv + 1) _ lo hi w hlo (by omega) (by omega) HI.out HA1.out).mono ?_
           rintro e w1 ⟨rfl, rfl⟩
           go_wp2
           go_round
           case rel => exact ⟨k + 1, by omega, by go_num⟩
           case measure => simp [intOf]; omega
       · have HA2 : Hid (Above w lo hi (JV.wts it.items) (some ⟨pb, po, none⟩)) := .inr ⟨pb, po, pv, rfl, hpv, by omega, hpu, hpf⟩
         have hne : ¬ (b = pb ∧ off + k * 5 = po) := fun ⟨e1, e2⟩ => by
           subst e1 e2
           have := hpv.inj HVA.out
           subst this
           omega
         have heq : (binOp .eql 159 (.pointer (some ⟨b, off + k * 5, none⟩)) (.pointer (some ⟨pb, po, none⟩))).run Tryz.prog w = .ok (.bool false) w := by
           obtain ⟨ca, ta, fa, ha, ha'⟩ := HBK.out.1
           obtain ⟨cb, tb, fb, hb', hb''⟩ := hpu
           rw [ha' hlo] at ha
           rw [hb'' hlo] at hb'
           obtain ⟨j, hj1, hj2⟩ := infoVal
           exact run_eql_ptr_other w Tryz.underlying159 hj1 hj2 (fun e => hne (by simpa using e)) ha hb'
         clear hne hpv hpu hpf
         cases hbit : (bits BinOp.and IntKind.i64 (lv : Int) ((lv : Int) - 1) == 0)
         · go_wp2_with fail
           rw [show (lv : Int) + 1 = ((lv + 1 : Nat) : Int) by omega]
           refine (IH.out it.items ai ci (lv + 1) _ lo hi w hlo (by omega) (by omega) HI.out HA2.out).mono ?_
           rintro e w1 ⟨rfl, rfl⟩
           go_wp2
           go_round
           case rel => exact ⟨k + 1, by omega, by go_num⟩
           case measure => simp [intOf]; omega
         · go_wp2_with fail
           rw [show (lv : Int) + 1 = ((lv + 1 : Nat) : Int) by omega]
           refine (IH.out it.items ai ci (lv + 1) _ lo hi w hlo (by omega) (by omega) HI.out HA1.out).mono ?_
           rintro e w1 ⟨rfl, rfl⟩
           go_wp2
           go_round
           case rel => exact ⟨k + 1, by omega, by go_num⟩
           case measure => simp [intOf]; omega
     · go_wp2
       go_ret
       exact ⟨rfl, rfl⟩
set_option maxHeartbeats 400000 in
theorem endlessNil (a : Option Addr) (c lv : Nat) (p : Option Addr) (w : World) :
   Calls Tryz.prog 124 #[.slice a 0 c, .int .i64 lv, .pointer p, .bool false] w fun e w' => e = .returned (.bool false) ∧ w = w' := by
 go_enter Tryz.func124, Tryz.ntmps124
 go_wp2
 refine wp_loop_rounds 1 ?_
 rw [rounds_succ]
 go_wp2
 go_ret
 exact ⟨rfl, rfl⟩
set_option maxRecDepth 100000 in
set_option maxHeartbeats 1000000 in
theorem endlessFlat (l : List JV) (a : Option Addr) (c lv : Nat) (lo hi : Nat) (w : World) (hN : JV.wts l ≤ 4294967296) (hlv : lv ≤ 1099511627776) (hV : ValsAt w lo hi a l) (hf : ∀ k (h : k < l.length), l[k].items = []) :
   Calls Tryz.prog 124 #[.slice a l.length c, .int .i64 lv, .pointer none, .bool false] w fun e w' => e = .returned (.bool false) ∧ w = w' := by
 have HV := Lib.hid hV; clear hV
 have HF := Lib.hid hf; clear hf
 have hlen := JV.wts_len l
 obtain ⟨n, hn⟩ : ∃ n, n = l.length := ⟨_, rfl⟩
 rw [← hn]
 rw [← hn] at hlen
 have HN := Lib.hid hn; clear hn
 go_enter Tryz.func124, Tryz.ntmps124
 go_wp2
 go_loop [9, 10, 11, 14] (fun _ _ _ i => ∃ k : Nat, k ≤ n ∧ i = .int .i64 k) (fun _ _ _ i => n - (intOf i).toNat)
 case atStart => exact ⟨0, by omega, rfl⟩
 case round =>
   obtain ⟨k, hk, rfl⟩ := hrel
   by_cases hlt : k < n
   · have hlt' : k < l.length := by rw [← HN.out]; exact hlt
     obtain ⟨b, off, an, cn, ai, ci, rfl, _, hb, y0, y1, y2, y3, y4, hrep⟩ := HV.out.get k hlt'
     rw [HF.out k hlt'] at y4
     simp only [List.length_nil] at y4
     clear hrep y1 y2 y3
     generalize l[k] = it at *
     cases hbit : (bits BinOp.and IntKind.i64 (lv : Int) ((lv : Int) - 1) == 0)
     · go_wp2_with fail
       rw [show (lv : Int) + 1 = ((lv + 1 : Nat) : Int) by omega]
       refine (endlessNil ai ci (lv + 1) none w).mono ?_
       rintro e w1 ⟨rfl, rfl⟩
       go_wp2
       go_round
       case rel => exact ⟨k + 1, by omega, by go_num⟩
       case measure => simp [intOf]; omega
     · go_wp2_with fail
       rw [show (lv : Int) + 1 = ((lv + 1 : Nat) : Int) by omega]
       refine (endlessNil ai ci (lv + 1) _ w).mono ?_
       rintro e w1 ⟨rfl, rfl⟩
       go_wp2
       go_round
       case rel => exact ⟨k + 1, by omega, by go_num⟩
       case measure => simp [intOf]; omega
   · go_wp2
     go_ret
     exact ⟨rfl, rfl⟩
def Seen (lo : Nat) (v : JV) : Prop := 0 < lo ∨ ∀ k (h : k < v.items.length), v.items[k].items = []
theorem endlessItem (it : JV) (ai : Option Addr) (ci : Nat) (lo hi : Nat) (w : World) (hN : it.wt ≤ 4294967296) (hV : ValsAt w lo hi ai it.items) (hs : Seen lo it) :
   Calls Tryz.prog 124 #[.slice ai it.items.length ci, .int .i64 1, .pointer none, .bool false] w fun e w' => e = .returned (.bool false) ∧ w = w' := by
 have := it.wt_bd
 rcases hs with h | h
 · exact valueEndless 4294967296 it.items ai ci 1 none lo hi w h (by omega) (by omega) hV (.inl rfl)
 · exact endlessFlat it.items ai ci 1 lo hi w (by omega) (by omega) hV h
theorem set5 {W : World} {b t : Nat} {f : Nat → Value} (v0 v1 v2 v3 v4 : Value) (h : W.rowIs b t 5 f) :
   (((((W.setCell ⟨b, 0, none⟩ v0).setCell ⟨b, 1, none⟩ v1).setCell ⟨b, 2, none⟩ v2).setCell ⟨b, 3, none⟩ v3).setCell ⟨b, 4, none⟩ v4).rowIs b t 5 (pick5 v0 v1 v2 v3 v4) := by
 refine (((((h.set 0 v0).set 1 v1).set 2 v2).set 3 v3).set 4 v4).congr fun j hj => ?_
 rcases j with _ | _ | _ | _ | _ | j <;> first | rfl | omega
theorem below5 {B : Nat} {a W : World} {b : Nat} (v0 v1 v2 v3 v4 : Value) (h : Below B a W) (hb : B ≤ b) :
   Below B a (((((W.setCell ⟨b, 0, none⟩ v0).setCell ⟨b, 1, none⟩ v1).setCell ⟨b, 2, none⟩ v2).setCell ⟨b, 3, none⟩ v3).setCell ⟨b, 4, none⟩ v4) :=
 ((((h.setCell hb v0).setCell hb v1).setCell hb v2).setCell hb v3).setCell hb v4
theorem heap5 {W : World} {b k : Nat} (v0 v1 v2 v3 v4 : Value) (hk : k ≠ b) :
   (((((W.setCell ⟨b, 0, none⟩ v0).setCell ⟨b, 1, none⟩ v1).setCell ⟨b, 2, none⟩ v2).setCell ⟨b, 3, none⟩ v3).setCell ⟨b, 4, none⟩ v4).heap[k]? = W.heap[k]? := by
 rw [Below.heap_setCell _ _ _ _ hk, Below.heap_setCell _ _ _ _ hk, Below.heap_setCell _ _ _ _ hk, Below.heap_setCell _ _ _ _ hk, Below.heap_setCell _ _ _ _ hk]
theorem results_row_tmp {P : Program} {fn : Func} {p u : Tmp} {ty : TypeId} (h : fn.results = #[.cell p ty, .tmp u]) (tmps : Array Value) (w : World) (g : Nat) (t : TypeId) (cs : Array Value) (fr : Nat × Nat) (d : TypeDesc)
   (hp : tmps.getD p undef = .pointer (some ⟨g, 0, none⟩)) (hg : w.heap[g]? = some (.cells cs t fr))
   (hu : P.underlying ty = some d) (hd : (match d with | .struct _ | .array _ _ => true | _ => false) = true) (hi : (P.info? ty).map (·.size) = some cs.size) (x : Value) (hx : tmps.getD u undef = x) :
   (results fn tmps).run P w = .ok (.tuple #[.agg cs, x]) w := by
 rw [results_cell_tmp h, hp, hx]
 simp [asAddr, run_loadVar_row w g t ty cs fr d hg hu hd hi]
def zeroAgg : Value := .agg #[.int .u8 0, .int .i64 0, .string { data := #[] }, .slice none 0 0, .slice none 0 0]
def zeroJ : JV := .mk 0 0 { data := #[] } [] []
def zeroAggW : Value := .agg #[.int .u8 0, .int .i64 0, .string { data := #[] }, .slice none 0 0, .slice none 0 0]
theorem rep_zeroJW (w : World) (lo hi : Nat) : Rep w lo hi zeroJ zeroAggW := by
 unfold zeroJ Rep; exact ⟨none, 0, none, 0, rfl, Nat.le_refl _, Nat.le_refl _, .inl rfl, .inl rfl⟩
def pick3 (v0 v1 v2 : Value) : Nat → Value
 | 0 => v0 | 1 => v1 | _ => v2
theorem rowIs_box3 (w : World) (v0 v1 v2 : Value) (t : Nat) : (w.alloc (.cells #[v0, v1, v2] t)).rowIs w.heap.size t 3 (pick3 v0 v1 v2) := rowIs_eq rfl
theorem row3_heap {w : World} {b t : Nat} {v0 v1 v2 : Value} (h : w.rowIs b t 3 (pick3 v0 v1 v2)) : w.heap[b]? = some (.cells #[v0, v1, v2] t (0, 0)) := by
 obtain ⟨c, hc, hn, hf⟩ := h
 have e : c = #[v0, v1, v2] := by
   apply Array.ext (by simp [hn])
   intro i h1 h2
   have := hf i (by omega)
   rw [Array.getElem?_eq_getElem h1] at this
   have h3 := Option.some.inj this
   rw [h3]
   rcases i with _ | _ | _ | i <;> first | rfl | (simp at h2; omega)
 rw [hc, e]
theorem set3 {W : World} {b t : Nat} {f : Nat → Value} (v0 v1 v2 : Value) (h : W.rowIs b t 3 f) : (((W.setCell ⟨b, 0, none⟩ v0).setCell ⟨b, 1, none⟩ v1).setCell ⟨b, 2, none⟩ v2).rowIs b t 3 (pick3 v0 v1 v2) := by
 refine (((h.set 0 v0).set 1 v1).set 2 v2).congr fun j hj => ?_
 rcases j with _ | _ | _ | j <;> first | rfl | omega
theorem below3 {B : Nat} {a W : World} {b : Nat} (v0 v1 v2 : Value) (h : Below B a W) (hb : B ≤ b) : Below B a (((W.setCell ⟨b, 0, none⟩ v0).setCell ⟨b, 1, none⟩ v1).setCell ⟨b, 2, none⟩ v2) := (((h.setCell hb v0).setCell hb v1).setCell hb v2)
def pick4 (v0 v1 v2 v3 : Value) : Nat → Value
 | 0 => v0 | 1 => v1 | 2 => v2 | _ => v3
theorem rowIs_box4 (w : World) (v0 v1 v2 v3 : Value) (t : Nat) : (w.alloc (.cells #[v0, v1, v2, v3] t)).rowIs w.heap.size t 4 (pick4 v0 v1 v2 v3) := rowIs_eq rfl
theorem row4_heap {w : World} {b t : Nat} {v0 v1 v2 v3 : Value} (h : w.rowIs b t 4 (pick4 v0 v1 v2 v3)) : w.heap[b]? = some (.cells #[v0, v1, v2, v3] t (0, 0)) := by
 obtain ⟨c, hc, hn, hf⟩ := h
 have e : c = #[v0, v1, v2, v3] := by
   apply Array.ext (by simp [hn])
   intro i h1 h2
   have := hf i (by omega)
   rw [Array.getElem?_eq_getElem h1] at this
   have h3 := Option.some.inj this
   rw [h3]
   rcases i with _ | _ | _ | _ | i <;> first | rfl | (simp at h2; omega)
 rw [hc, e]
theorem set4 {W : World} {b t : Nat} {f : Nat → Value} (v0 v1 v2 v3 : Value) (h : W.rowIs b t 4 f) : ((((W.setCell ⟨b, 0, none⟩ v0).setCell ⟨b, 1, none⟩ v1).setCell ⟨b, 2, none⟩ v2).setCell ⟨b, 3, none⟩ v3).rowIs b t 4 (pick4 v0 v1 v2 v3) := by
 refine ((((h.set 0 v0).set 1 v1).set 2 v2).set 3 v3).congr fun j hj => ?_
 rcases j with _ | _ | _ | _ | j <;> first | rfl | omega
theorem below4 {B : Nat} {a W : World} {b : Nat} (v0 v1 v2 v3 : Value) (h : Below B a W) (hb : B ≤ b) : Below B a ((((W.setCell ⟨b, 0, none⟩ v0).setCell ⟨b, 1, none⟩ v1).setCell ⟨b, 2, none⟩ v2).setCell ⟨b, 3, none⟩ v3) := ((((h.setCell hb v0).setCell hb v1).setCell hb v2).setCell hb v3)
theorem heap4 {W : World} {b k : Nat} (v0 v1 v2 v3 : Value) (hk : k ≠ b) : ((((W.setCell ⟨b, 0, none⟩ v0).setCell ⟨b, 1, none⟩ v1).setCell ⟨b, 2, none⟩ v2).setCell ⟨b, 3, none⟩ v3).heap[k]? = W.heap[k]? := by
 rw [Below.heap_setCell _ _ _ _ hk, Below.heap_setCell _ _ _ _ hk, Below.heap_setCell _ _ _ _ hk, Below.heap_setCell _ _ _ _ hk]
theorem size4 {W : World} {b : Nat} {v0 v1 v2 v3 : Value} : ((((W.setCell ⟨b, 0, none⟩ v0).setCell ⟨b, 1, none⟩ v1).setCell ⟨b, 2, none⟩ v2).setCell ⟨b, 3, none⟩ v3).heap.size = W.heap.size := by simp [World.setCell]
def encK (k : Key2) : List Value := [.string k.1, .string k.2]
theorem flatK_get {M : List Key2} (i : Nat) (hi : i < M.length) : (M.flatMap encK)[i * 2]? = some (.string M[i].1) ∧ (M.flatMap encK)[i * 2 + 1]? = some (.string M[i].2) := by
 induction M generalizing i with
 | nil => simp at hi
 | cons k r ih =>
   rw [List.flatMap_cons]
   rcases i with _ | i
   · exact ⟨rfl, rfl⟩
   · have := ih i (by simpa using hi)
     rw [List.getElem?_append_right (by simp [encK]; omega), List.getElem?_append_right (by simp [encK]; omega)]
     have e1 : (i + 1) * 2 - (encK k).length = i * 2 := by simp [encK]; omega
     have e2 : (i + 1) * 2 + 1 - (encK k).length = i * 2 + 1 := by simp [encK]; omega
     rw [e1, e2]
     exact this
theorem owns_keys {w : World} {base e : Nat} {v : Value} {n : Nat} {M : List Key2} (h : w.ownsRow base e 2 v n (M.flatMap encK)) (hn : n = M.length) :
   ∃ a c, v = .slice a M.length c ∧ KeysAt w base w.heap.size a M := by
 subst hn
 rcases h.2 with ⟨rfl, h0⟩ | ⟨g, cap, cur, rfl, hg, hh, hc, hm, hs, ht⟩
 · exact ⟨none, 0, by rw [h0], .inl (List.eq_nil_of_length_eq_zero h0)⟩
 · refine ⟨_, _, rfl, .inr ⟨g, 0, rfl, hg, heap_lt hh, fun i hi => ?_⟩⟩
   have ea : ∀ j, (⟨g, 0, none⟩ : Addr).add j = ⟨g, 0 + j, none⟩ := fun j => by unfold Addr.add; split <;> simp_all
   have h1 := h.cells (g := g) rfl _ _ (flatK_get i hi).1
   have h2 := h.cells (g := g) rfl _ _ (flatK_get i hi).2
   rw [ea] at h1 h2
   exact ⟨h1, by rw [Nat.add_assoc]; exact h2⟩
theorem below_grown {B : Nat} {W w w' : World} {v : Value} (hb : Below B W w) (hBw : B ≤ w.heap.size) (hg : w.grownBy w' v.ownBlock) (hown : ∀ b, v.ownBlock = some b → B ≤ b) : Below B W w' := by
 refine ⟨by rw [hg.os, hb.os], by rw [hg.tape, hb.tape], by rw [hg.output, hb.output], Nat.le_trans hb.size hg.size, fun b hlt => ?_⟩
 rw [hg.block b (by omega) (fun e => by have := hown b e.symm; omega)]
 exact hb.block b hlt
theorem grown_refl (w : World) (row : Option Nat) : w.grownBy w row := ⟨rfl, rfl, rfl, Nat.le_refl _, fun _ _ _ => rfl⟩
theorem run_append_zero {P : Program} {w : World} (base : Nat) (t ty e : TypeId) (i : TypeInfo) (size : Nat) (ht : P.underlying t = some (.slice e)) (hi : P.info? e = some i)
   (v : Value) (n : Nat) (xs : List Value) (hown : w.ownsRow base e size v n xs) (sa : Option Addr) (c : Nat) :
   (Builtin.append_ #[t, t] ty #[v, .slice sa 0 c]).run P w = .ok v w := by
 rcases hown.2 with ⟨rfl, rfl⟩ | ⟨g, cap, cur, rfl, _, _, hnc, _⟩
 · cases sa <;> simp [Builtin.append_, run_underlying ht, sizeOf, typeInfo, hi, Builtin.lenOf, Builtin.firstCells, loadCells, loadCellsFrom]
 · cases sa <;> simp [Builtin.append_, run_underlying ht, sizeOf, typeInfo, hi, Builtin.lenOf, Builtin.firstCells, hnc, storeCells, loadCells, loadCellsFrom]
theorem owns_slice {w : World} {base e size n : Nat} {v : Value} {xs : List Value} (h : w.ownsRow base e size v n xs) : ∃ a c, v = .slice a n c := by
 rcases h.2 with ⟨rfl, rfl⟩ | ⟨g, cap, cur, rfl, _⟩
 · exact ⟨none, 0, rfl⟩
 · exact ⟨_, _, rfl⟩
theorem wp_append_any {P : Program} {w : World} {o : Oper} {a : Act} {K : Act → World → Prop} {Q : Exit → Act → World → Prop} (s x : Operand) (t : TypeId)
   (ho : o.op = .call { callee := .builtin .append, args := #[s, x], argTypes := #[t, t] })
   (base : Nat) (e : TypeId) (i : TypeInfo) (z : Value) (size bytes : Nat) (ht : P.underlying t = some (.slice e)) (hi : P.info? e = some i) (hz : i.zero = some z)
   (hsize : i.size = size) (hby : i.bytes = bytes) (hzs : z.cells.size = size) (hsz : 0 < size)
   (v : Value) (n : Nat) (xs : List Value) (hs : a.eval s = v) (hown : w.ownsRow base e size v n xs)
   (sa : Option Addr) (m c : Nat) (news : List Value) (hx : a.eval x = .slice sa m c) (hl : news.length = m * size) (hnews : 0 < m → ∃ ad, sa = some ad ∧ ∀ j u, news[j]? = some u → w.cell? (ad.add j) = some u) (h1 : ∀ u ∈ news, u.oneCell' = true)
   (h63 : n + m ≤ maxLen) (hbytes : (n + m) * bytes ≤ 140737488355328) (hbase : base ≤ w.heap.size) (H : Nat) (hH : w.heap.size = H)
   (h : ∀ a2 c2 w', w'.ownsRow base e size (.slice a2 (n + m) c2) (n + m) (xs ++ news) → w.grownBy w' v.ownBlock → ((Value.slice a2 (n + m) c2).ownBlock = v.ownBlock ∨ (Value.slice a2 (n + m) c2).ownBlock = some H) → K (a.put o.dst (.slice a2 (n + m) c2)) w') : Oper.wp P o a w K Q := by
 by_cases hm : 0 < m
 · obtain ⟨ad, rfl, hn⟩ := hnews hm
   refine wp_append_lies w s x t ho base e i z size bytes ht hi hz hsize hby hzs hsz v n xs hs hown ad m c news hx hl hn h1 hm h63 hbytes hbase H hH fun g cap w' h2 h3 h4 _ => h _ _ _ h2 h3 ?_
   rcases h4 with h4 | h4
   · exact .inl h4.symm
   · exact .inr (by rw [h4]; rfl)
 · obtain rfl : m = 0 := by omega
   obtain rfl : news = [] := List.eq_nil_of_length_eq_zero (by simpa using hl)
   obtain ⟨a2, c2, rfl⟩ := owns_slice hown
   have hrun := run_append_zero (P := P) (w := w) base t o.type e i size ht hi _ n xs hown sa c
   unfold Oper.wp
   simp [execOp, ho, resolve, invoke, builtin, hs, hx, hrun, Result.andThen]
   exact h a2 c2 w (by simpa using hown) (grown_refl _ _) (.inl rfl)
theorem wpList_append_any {P : Program} (w : World) {ops : Array Oper} {rest : List Oper} {o : Oper} {a : Act} {Q : Exit → Act → World → Prop} (hgd : o.guard = none) (s x : Operand) (t : TypeId)
   (ho : o.op = .call { callee := .builtin .append, args := #[s, x], argTypes := #[t, t] })
   (base : Nat) (e : TypeId) (i : TypeInfo) (z : Value) (size bytes : Nat) (ht : P.underlying t = some (.slice e)) (hi : P.info? e = some i) (hz : i.zero = some z)
   (hsize : i.size = size) (hby : i.bytes = bytes) (hzs : z.cells.size = size) (hsz : 0 < size)
   (v : Value) (n : Nat) (xs : List Value) (hs : a.eval s = v) (hown : w.ownsRow base e size v n xs)
   (sa : Option Addr) (m c : Nat) (news : List Value) (hx : a.eval x = .slice sa m c) (hl : news.length = m * size) (hnews : 0 < m → ∃ ad, sa = some ad ∧ ∀ j u, news[j]? = some u → w.cell? (ad.add j) = some u) (h1 : ∀ u ∈ news, u.oneCell' = true)
   (h63 : n + m ≤ maxLen) (hbytes : (n + m) * bytes ≤ 140737488355328) (hbase : base ≤ w.heap.size) (H : Nat) (hH : w.heap.size = H)
   (h : ∀ a2 c2 w', w'.ownsRow base e size (.slice a2 (n + m) c2) (n + m) (xs ++ news) → w.grownBy w' v.ownBlock → ((Value.slice a2 (n + m) c2).ownBlock = v.ownBlock ∨ (Value.slice a2 (n + m) c2).ownBlock = some H) → wpList P ops Q rest (a.put o.dst (.slice a2 (n + m) c2)) w') : wpList P ops Q (o :: rest) a w :=
 wpList_plain hgd fun _ hK => wp_append_any s x t ho base e i z size bytes ht hi hz hsize hby hzs hsz v n xs hs hown sa m c news hx hl hnews h1 h63 hbytes hbase H hH fun a2 c2 w' h2 h3 h4 => hK _ _ (h a2 c2 w' h2 h3 h4)
end Go.Proofs.YtgghgcilpfdbjaaGreatDoor
