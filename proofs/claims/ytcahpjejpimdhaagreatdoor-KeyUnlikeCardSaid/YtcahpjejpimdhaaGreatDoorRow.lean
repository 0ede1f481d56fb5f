/- Rows of values (and of texts) that a call builds by append: what they hold, and that it stays. No program in sight. -/
import Derived.Test.YtcahpjejpimdhaaGreatDoorTouch
import Derived.Test.YtcahpjejpimdhaaGreatDoorRepInj
import Derived.Deep.AppendLies
namespace Go.Proofs.YtcahpjejpimdhaaGreatDoor
open Go.RowKit

/-- The cells of values, five each; where each lies; none of it in a block of X. -/
def RepRow (w : World) (base : Nat) (X : Nat → Prop) (l : List JV) (cs : List Value) : Prop :=
  cs.length = 5 * l.length ∧ ∀ i (h : i < l.length), ∃ lo hi an cn ai ci, base ≤ lo ∧ hi ≤ w.heap.size ∧ (∀ b, X b → ¬ (lo ≤ b ∧ b < hi)) ∧
    cs[5 * i]? = some (.int .u8 l[i].kind) ∧ cs[5 * i + 1]? = some (.int .i64 l[i].n) ∧ cs[5 * i + 2]? = some (.string l[i].t) ∧ cs[5 * i + 3]? = some (.slice an l[i].names.length cn) ∧ cs[5 * i + 4]? = some (.slice ai l[i].items.length ci) ∧
    Rep w lo hi l[i] (.agg #[.int .u8 l[i].kind, .int .i64 l[i].n, .string l[i].t, .slice an l[i].names.length cn, .slice ai l[i].items.length ci])

theorem RepRow.nil (w : World) (base : Nat) (X : Nat → Prop) : RepRow w base X [] [] := ⟨rfl, fun i h => by simp at h⟩

/-- What is not in X stays; X may shrink or turn, outside what is held. -/
theorem RepRow.carry {w w' : World} {base base' : Nat} {X X' : Nat → Prop} {l : List JV} {cs : List Value} (h : RepRow w base X l cs) (hsz : w.heap.size ≤ w'.heap.size)
    (hb : base' ≤ base) (hs : ∀ b, b < w.heap.size → ¬ X b → w'.heap[b]? = w.heap[b]?) (hX : ∀ b, X' b → X b ∨ w.heap.size ≤ b) : RepRow w' base' X' l cs := by
  refine ⟨h.1, fun i hi => ?_⟩
  obtain ⟨lo, hi', an, cn, ai, ci, h1, h2, h3, e0, e1, e2, e3, e4, hr⟩ := h.2 i hi
  refine ⟨lo, hi', an, cn, ai, ci, by omega, by omega, fun b hx hb => ?_, e0, e1, e2, e3, e4, Rep.carry (Nat.le_refl _) (Nat.le_refl _) (fun b hb1 hb2 => hs b (by omega) fun hx => h3 b hx ⟨hb1, hb2⟩) _ _ hr⟩
  rcases hX b hx with hx | hx
  · exact h3 b hx hb
  · omega

/-- One value more. -/
theorem RepRow.snoc {w : World} {base : Nat} {X : Nat → Prop} {l : List JV} {cs : List Value} (h : RepRow w base X l cs) (v : JV) (lo hi : Nat) (an : Option Addr) (cn : Nat) (ai : Option Addr) (ci : Nat) (h1 : base ≤ lo) (h2 : hi ≤ w.heap.size) (h3 : ∀ b, X b → ¬ (lo ≤ b ∧ b < hi))
    (hr : Rep w lo hi v (.agg #[.int .u8 v.kind, .int .i64 v.n, .string v.t, .slice an v.names.length cn, .slice ai v.items.length ci])) :
    RepRow w base X (l ++ [v]) (cs ++ [.int .u8 v.kind, .int .i64 v.n, .string v.t, .slice an v.names.length cn, .slice ai v.items.length ci]) := by
  refine ⟨by simp [h.1]; omega, fun i hi' => ?_⟩
  have hl := h.1
  by_cases e : i < l.length
  · obtain ⟨lo', hi'', an', cn', ai', ci', k1, k2, k3, e0, e1, e2, e3, e4, hr'⟩ := h.2 i e
    have ei : (l ++ [v])[i] = l[i] := List.getElem_append_left e
    rw [ei]
    refine ⟨lo', hi'', an', cn', ai', ci', k1, k2, k3, ?_, ?_, ?_, ?_, ?_, hr'⟩
    · rw [List.getElem?_append_left (by omega)]; exact e0
    · rw [List.getElem?_append_left (by omega)]; exact e1
    · rw [List.getElem?_append_left (by omega)]; exact e2
    · rw [List.getElem?_append_left (by omega)]; exact e3
    · rw [List.getElem?_append_left (by omega)]; exact e4
  · obtain rfl : i = l.length := by simp at hi'; omega
    have ei : (l ++ [v])[l.length] = v := by simp
    rw [ei]
    refine ⟨lo, hi, an, cn, ai, ci, h1, h2, h3, ?_, ?_, ?_, ?_, ?_, hr⟩
    · rw [List.getElem?_append_right (by omega), show 5 * l.length - cs.length = 0 by omega]; rfl
    · rw [List.getElem?_append_right (by omega), show 5 * l.length + 1 - cs.length = 1 by omega]; rfl
    · rw [List.getElem?_append_right (by omega), show 5 * l.length + 2 - cs.length = 2 by omega]; rfl
    · rw [List.getElem?_append_right (by omega), show 5 * l.length + 3 - cs.length = 3 by omega]; rfl
    · rw [List.getElem?_append_right (by omega), show 5 * l.length + 4 - cs.length = 4 by omega]; rfl

/-- A row that the call owns, of values: a slice of values. -/
theorem owns_vals {w : World} {base e : Nat} {X : Nat → Prop} {v : Value} {n : Nat} {cs : List Value} {l : List JV} (h : w.ownsRow base e 5 v n cs) (hr : RepRow w base X l cs) (hn : n = l.length) :
    ∃ a c, v = .slice a l.length c ∧ l.length ≤ c ∧ ValsAt w base w.heap.size a l := by
  subst hn
  rcases h.2 with ⟨rfl, h0⟩ | ⟨g, cap, cur, rfl, hg, hh, hc, hm, hs, ht⟩
  · exact ⟨none, 0, by rw [h0], by omega, .inl (List.eq_nil_of_length_eq_zero h0)⟩
  · refine ⟨_, _, rfl, hc, ?_⟩
    by_cases h0 : l = []
    · exact .inl h0
    · have hlt : g < w.heap.size := by
        rcases Nat.lt_or_ge g w.heap.size with hlt | hge
        · exact hlt
        · rw [Array.getElem?_eq_none hge] at hh; cases hh
      have hcell : ∀ j u, cs[j]? = some u → w.cell? ⟨g, j, none⟩ = some u := fun j u hj => by
        have := h.cells (g := g) rfl j u hj
        have e : (⟨g, 0, none⟩ : Addr).add j = ⟨g, j, none⟩ := by unfold Addr.add; split <;> simp_all
        rwa [e] at this
      refine .inr ⟨g, 0, rfl, hg, hlt, ⟨cur, e, (0, 0), hh, fun _ => rfl⟩, RepL.of_at fun i hi => ?_⟩
      obtain ⟨lo, hi', an, cn, ai, ci, k1, k2, k3, e0, e1, e2, e3, e4, hr'⟩ := hr.2 i hi
      have z : ∀ j, 0 + i * 5 + j = 5 * i + j := fun j => by omega
      refine ⟨_, _, _, _, _, hcell _ _ ?_, hcell _ _ ?_, hcell _ _ ?_, hcell _ _ ?_, hcell _ _ ?_, ?_, Rep.carry k1 k2 (fun _ _ _ => rfl) _ _ hr'⟩
      · rw [show 0 + i * 5 = 5 * i by omega]; exact e0
      · rw [z 1]; exact e1
      · rw [z 2]; exact e2
      · rw [z 3]; exact e3
      · rw [z 4]; exact e4
      · simp [World.frozen?, hh]

/-- 'x.f = append(x.f, f(y))', x a variable of the call's own (block cb), one cell of which (j) is the slice: what behind it holds. -/
theorem row_step {W wr w3 w4 : World} {cb e T : Nat} {f : Nat → Value} {j k g cap : Nat} {vi : Value} {cs : List Value} {l : List JV} {it : JV} {an ai : Option Addr} {cn ci : Nat} {o o' : Obj}
    (hcb : cb < W.heap.size) (htc : Touch (· = cb) W wr) (hrow : wr.rowIs cb T 5 f) (hown : wr.ownsRow W.heap.size e 5 vi k cs) (hrr : RepRow wr W.heap.size (fun b => b = cb ∨ vi.ownBlock = some b) l cs)
    (hb3 : Below (wr.heap.size + 1) (wr.alloc o).drew w3) (hr3 : Rep w3 (wr.heap.size + 1) w3.heap.size it (.agg #[.int .u8 it.kind, .int .i64 it.n, .string it.t, .slice an it.names.length cn, .slice ai it.items.length ci]))
    (hg : (w3.alloc o').grownBy w4 vi.ownBlock) (hat : vi.ownBlock = some g ∨ g = w3.heap.size + 1)
    (ho4 : w4.ownsRow W.heap.size e 5 (.slice (some ⟨g, 0, none⟩) (k + 1) cap) (k + 1) (cs ++ [.int .u8 it.kind, .int .i64 it.n, .string it.t, .slice an it.names.length cn, .slice ai it.items.length ci])) :
    Touch (· = cb) W (w4.setCell ⟨cb, j, none⟩ (.slice (some ⟨g, 0, none⟩) (k + 1) cap)) ∧
    (w4.setCell ⟨cb, j, none⟩ (.slice (some ⟨g, 0, none⟩) (k + 1) cap)).rowIs cb T 5 (fun i => if i = j then .slice (some ⟨g, 0, none⟩) (k + 1) cap else f i) ∧
    (w4.setCell ⟨cb, j, none⟩ (.slice (some ⟨g, 0, none⟩) (k + 1) cap)).ownsRow W.heap.size e 5 (.slice (some ⟨g, 0, none⟩) (k + 1) cap) (k + 1) (cs ++ [.int .u8 it.kind, .int .i64 it.n, .string it.t, .slice an it.names.length cn, .slice ai it.items.length ci]) ∧
    RepRow (w4.setCell ⟨cb, j, none⟩ (.slice (some ⟨g, 0, none⟩) (k + 1) cap)) W.heap.size (fun b => b = cb ∨ (Value.slice (some ⟨g, 0, none⟩) (k + 1) cap).ownBlock = some b) (l ++ [it]) (cs ++ [.int .u8 it.kind, .int .i64 it.n, .string it.t, .slice an it.names.length cn, .slice ai it.items.length ci]) := by
  have hwz : W.heap.size ≤ wr.heap.size := htc.size
  have hz3 : wr.heap.size + 1 ≤ w3.heap.size := by have := hb3.size; simp at this; omega
  have hz4 : w3.heap.size + 1 ≤ w4.heap.size := by have := hg.size; simp at this; omega
  have hz5 : (w4.setCell ⟨cb, j, none⟩ (.slice (some ⟨g, 0, none⟩) (k + 1) cap)).heap.size = w4.heap.size := by simp [World.setCell]
  have hoz : ∀ b, vi.ownBlock = some b → W.heap.size ≤ b ∧ b < wr.heap.size := fun b hb => hown.lt b hb
  -- from wr on
  have s1 : ∀ b, b < wr.heap.size → w3.heap[b]? = wr.heap[b]? := fun b hb => by
    rw [hb3.block b (by omega)]; exact Below.heap_alloc wr o b hb
  have s2 : ∀ b, b < w3.heap.size → vi.ownBlock ≠ some b → w4.heap[b]? = w3.heap[b]? := fun b hb hne => by
    rw [hg.block b (by simp; omega) (fun e => hne e.symm)]; exact Below.heap_alloc w3 o' b hb
  have s3 : ∀ b, b ≠ cb → (w4.setCell ⟨cb, j, none⟩ (.slice (some ⟨g, 0, none⟩) (k + 1) cap)).heap[b]? = w4.heap[b]? := fun b hb => Below.heap_setCell _ _ _ _ hb
  have hcn : vi.ownBlock ≠ some cb := fun e => by have := (hoz cb e).1; omega
  refine ⟨⟨?_, ?_, ?_, by omega, fun b hb hne => ?_⟩, ?_, ?_, ?_⟩
  · show w4.os = _; rw [hg.os, show (w3.alloc o').os = w3.os from rfl, hb3.os, show ((wr.alloc o).drew).os = wr.os from rfl, htc.os]
  · show w4.tape = _; rw [hg.tape, show (w3.alloc o').tape = w3.tape from rfl, hb3.tape, show ((wr.alloc o).drew).tape = wr.tape from rfl, htc.tape]
  · show w4.output = _; rw [hg.output, show (w3.alloc o').output = w3.output from rfl, hb3.output, show ((wr.alloc o).drew).output = wr.output from rfl, htc.output]
  · rw [s3 b hne, s2 b (by omega) (fun e => by have := (hoz b e).1; omega), s1 b (by omega)]; exact htc.block b hb hne
  · have h4 : w4.rowIs cb T 5 f := hrow.of_block (by rw [s2 cb (by omega) hcn, s1 cb (by omega)])
    exact h4.set j _
  · exact ownsRow_setCell_below ho4 hcb _
  · have hgb : ∀ b, (Value.slice (some ⟨g, 0, none⟩) (k + 1) cap).ownBlock = some b → b = g := fun b hb => by
      simp [Value.ownBlock] at hb; exact hb.symm
    have c1 : RepRow (w4.setCell ⟨cb, j, none⟩ (.slice (some ⟨g, 0, none⟩) (k + 1) cap)) W.heap.size (fun b => b = cb ∨ (Value.slice (some ⟨g, 0, none⟩) (k + 1) cap).ownBlock = some b) l cs := by
      refine hrr.carry (by omega) (Nat.le_refl _) (fun b hb hx => ?_) (fun b hx => ?_)
      · rw [s3 b (fun e => hx (.inl e)), s2 b (by omega) (fun e => hx (.inr e)), s1 b hb]
      · rcases hx with hx | hx
        · exact .inl (.inl hx)
        · rw [hgb b hx]
          rcases hat with ha | ha
          · exact .inl (.inr ha)
          · exact .inr (by omega)
    refine c1.snoc it (wr.heap.size + 1) w3.heap.size an cn ai ci (by omega) (by omega) (fun b hx hb => ?_) (Rep.carry (Nat.le_refl _) (Nat.le_refl _) (fun b h1 h2 => ?_) _ _ hr3)
    · rcases hx with hx | hx
      · omega
      · rw [hgb b hx] at hb
        rcases hat with ha | ha
        · have := (hoz g ha).2; omega
        · omega
    · rw [s3 b (by omega), s2 b h2 (fun e => by have := (hoz b e).2; omega)]

theorem owns_strs {w : World} {base e : Nat} {v : Value} {n : Nat} {l : List ByteArray} (h : w.ownsRow base e 1 v n (l.map .string)) (hn : n = l.length) :
    ∃ a c, v = .slice a l.length c ∧ l.length ≤ c ∧ StrsAt w base w.heap.size a l := by
  subst hn
  rcases h.2 with ⟨rfl, h0⟩ | ⟨g, cap, cur, rfl, hg, hh, hc, hm, hs, ht⟩
  · exact ⟨none, 0, by rw [h0], by omega, .inl (List.eq_nil_of_length_eq_zero h0)⟩
  · refine ⟨_, _, rfl, hc, ?_⟩
    by_cases h0 : l = []
    · exact .inl h0
    · have hlt : g < w.heap.size := by
        rcases Nat.lt_or_ge g w.heap.size with hlt | hge
        · exact hlt
        · rw [Array.getElem?_eq_none hge] at hh; cases hh
      refine .inr ⟨g, 0, rfl, hg, hlt, fun i hi => ?_⟩
      have := h.cells (g := g) rfl i (.string l[i]) (by simp [hi])
      have e : (⟨g, 0, none⟩ : Addr).add i = ⟨g, 0 + i, none⟩ := by unfold Addr.add; split <;> simp_all
      rwa [e] at this

end Go.Proofs.YtcahpjejpimdhaaGreatDoor
