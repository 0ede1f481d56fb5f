/- Parts of a row of pairs of texts (sigs[:i], sigs[i:]). No program in sight. A row of pairs that is appended to twice in a region whose order is drawn (JudgeMore): what holds while its parts are read. No program in sight. -/
import Derived.Test.YtaekmmnpdbmoeaaGreatDoorJw01
import Derived.Test.YtaekmmnpdbmoeaaGreatDoorJw13

namespace Go.Proofs.YtaekmmnpdbmoeaaGreatDoor
open Go.RowKit

theorem addr_add0 (b off : Nat) (j : Nat) : (⟨b, off, none⟩ : Addr).add j = ⟨b, off + j, none⟩ := by unfold Addr.add; split <;> simp_all
/-- The first i, and what is behind them. -/
theorem keys_first {w : World} {lo hi : Nat} {a : Option Addr} {l : List Key2} (h : KeysAt w lo hi a l) (i : Nat) : KeysAt w lo hi a (l.take i) := by
  rcases h with h | ⟨b, off, rfl, hb, hb', hr⟩
  · subst h; exact .inl (by simp)
  · refine .inr ⟨b, off, rfl, hb, hb', fun j hj => ?_⟩
    rw [List.length_take] at hj
    rw [List.getElem_take]
    exact hr j (by omega)
theorem keys_behind {w : World} {lo hi : Nat} {a : Option Addr} {l : List Key2} (h : KeysAt w lo hi a l) (i c : Nat) (hc : l.length ≤ c) (hl : i ≤ l.length) :
    ∃ a' c', sliced a i l.length c 2 = .slice a' (l.length - i) c' ∧ KeysAt w lo hi a' (l.drop i) := by
  refine ⟨if c = i then a else a.map (·.add (i * 2)), c - i, by simp [sliced], ?_⟩
  by_cases h0 : i = l.length
  · subst h0; exact .inl (by simp)
  · rcases h with h | ⟨b, off, rfl, hb, hb', hr⟩
    · subst h; simp at hl; simp at h0; omega
    · refine .inr ⟨b, off + i * 2, ?_, hb, hb', fun j hj => ?_⟩
      · rw [if_neg (by omega)]
        simp [addr_add0]
      · rw [List.length_drop] at hj
        rw [List.getElem_drop]
        have := hr (i + j) (by omega)
        rw [show off + (i + j) * 2 = off + i * 2 + j * 2 by omega] at this
        exact this

end Go.Proofs.YtaekmmnpdbmoeaaGreatDoor

namespace Go.Proofs.YtaekmmnpdbmoeaaGreatDoor
open Go.RowKit

/-- Slots whose value is known, whatever memory does. -/
def ConI (wb : World) (V : List (Option Value)) (d : Nat → Prop) (w' : World) (xs : List Value) : Prop :=
  Below wb.heap.size wb w' ∧ xs.length = V.length ∧ ∀ (j : Nat) (v x : Value), V[j]? = some (some v) → xs[j]? = some x → d j → x = v
theorem ConI.first (wb : World) (V : List (Option Value)) (xs : List Value) (h : xs.length = V.length) : ConI wb V (fun _ => False) wb.drew xs := ⟨(Below.refl _ _).drew, h, fun _ _ _ _ _ hd => hd.elim⟩
theorem ConI.get {wb w' : World} {V : List (Option Value)} {d : Nat → Prop} {xs : List Value} (h : ConI wb V d w' xs) (j : Nat) (hd : d j) (v : Value) (hV : V[j]? = some (some v)) (x : Value) (hx : xs[j]? = some x) : x = v := h.2.2 j v x hV hx hd
theorem ConI.did {wb w' w'' : World} {V : List (Option Value)} {d : Nat → Prop} {xs : List Value} (h : ConI wb V d w' xs) (hb : Below wb.heap.size wb w'') (j : Nat) (y : Value) (o : Option Value) (hV : V[j]? = some o) (hy : ∀ v, o = some v → y = v) : ConI wb V (fun i => i = j ∨ d i) w'' (xs.set j y) := by
  refine ⟨hb, by rw [List.length_set]; exact h.2.1, fun i v x hm hx hd => ?_⟩
  by_cases e : i = j
  · subst e
    rw [hV] at hm
    have hl : i < xs.length := by rw [h.2.1]; exact (List.getElem?_eq_some_iff.1 hV).1
    rw [List.getElem?_set_self hl] at hx
    cases hx
    exact hy v (Option.some.inj hm)
  · rw [List.getElem?_set_ne (Ne.symm e)] at hx
    exact h.2.2 i v x hm hx (hd.resolve_left e)
theorem ConI.same {wb w' : World} {V : List (Option Value)} {d : Nat → Prop} {xs : List Value} (h : ConI wb V d w' xs) (j : Nat) (y v : Value) (hV : V[j]? = some (some v)) (hy : y = v) : ConI wb V (fun i => i = j ∨ d i) w' (xs.set j y) :=
  h.did h.1 j y (some v) hV fun v' e => by cases e; exact hy

structure Chn (H T : Nat) (L : List Value) (one : Array Value) (i : Nat) (d : Nat → Prop) (w' : World) (y0 y1 y2 y3 : Value) : Prop where
  o1 : d 5 → d 0
  o2 : d 8 → d 5 ∧ d 7
  own0 : d 0 → ¬ d 5 → w'.ownsRow H T 2 y0 0 []
  own1 : d 5 → ¬ d 8 → w'.ownsRow H T 2 y1 i L
  row : d 7 → ¬ d 8 → ∃ b, y2 = .slice (some ⟨b, 0, none⟩) 1 1 ∧ H ≤ b ∧ w'.heap[b]? = some (.cells one T (0, 0)) ∧ (d 0 → ¬ d 5 → y0.ownBlock ≠ some b) ∧ (d 5 → y1.ownBlock ≠ some b)
  own2 : d 8 → w'.ownsRow H T 2 y3 (i + 1) (L ++ one.toList)
variable {H T i : Nat} {L : List Value} {one : Array Value} {d : Nat → Prop} {w' w2 : World} {y0 y1 y2 y3 : Value}
theorem Chn.first (w' : World) (y0 y1 y2 y3 : Value) : Chn H T L one i (fun _ => False) w' y0 y1 y2 y3 := ⟨fun h => h.elim, fun h => h.elim, fun h => h.elim, fun h => h.elim, fun h => h.elim, fun h => h.elim⟩
theorem Chn.same (h : Chn H T L one i d w' y0 y1 y2 y3) (k : Nat) (h0 : k ≠ 0) (h5 : k ≠ 5) (h7 : k ≠ 7) (h8 : k ≠ 8) : Chn H T L one i (fun j => j = k ∨ d j) w' y0 y1 y2 y3 := by
  have e : ∀ q, q ≠ k → ((q = k ∨ d q) ↔ d q) := fun q hq => ⟨fun h => h.resolve_left hq, .inr⟩
  have e0 := e 0 (Ne.symm h0); have e5 := e 5 (Ne.symm h5); have e7 := e 7 (Ne.symm h7); have e8 := e 8 (Ne.symm h8)
  exact ⟨by rw [e0, e5]; exact h.o1, by rw [e5, e7, e8]; exact h.o2, by rw [e0, e5]; exact h.own0, by rw [e5, e8]; exact h.own1, by rw [e0, e5, e7, e8]; exact h.row, by rw [e8]; exact h.own2⟩
theorem Chn.s0 (h : Chn H T L one i d w' y0 y1 y2 y3) (hH : H ≤ w'.heap.size) (hn : ¬ d 0) :
    Chn H T L one i (fun j => j = 0 ∨ d j) (w'.alloc (.cells #[] T)) (.slice (some ⟨w'.heap.size, 0, none⟩) 0 0) y1 y2 y3 := by
  have n5 : ¬ d 5 := fun h5 => hn (h.o1 h5)
  have n8 : ¬ d 8 := fun h8 => n5 (h.o2 h8).1
  refine ⟨fun _ => .inl rfl, fun h8 => (n8 (h8.resolve_left (by decide))).elim, fun _ _ => World.ownsRow_made w' #[] 0 hH (Nat.zero_le _) (by simp), fun h5 => (n5 (h5.resolve_left (by decide))).elim, fun h7 _ => ?_, fun h8 => (n8 (h8.resolve_left (by decide))).elim⟩
  obtain ⟨b, e1, e2, e3, _, _⟩ := h.row (h7.resolve_left (by decide)) n8
  have hlt := heap_lt e3
  exact ⟨b, e1, e2, by rw [Below.heap_alloc _ _ _ hlt]; exact e3, fun _ _ hx => by simp [Value.ownBlock] at hx; omega, fun h5 => (n5 (h5.resolve_left (by decide))).elim⟩
theorem Chn.s7 (h : Chn H T L one i d w' y0 y1 y2 y3) (hH : H ≤ w'.heap.size) (hn : ¬ d 7) :
    Chn H T L one i (fun j => j = 7 ∨ d j) (w'.alloc (.cells one T)) y0 y1 (.slice (some ⟨w'.heap.size, 0, none⟩) 1 1) y3 := by
  have n8 : ¬ d 8 := fun h8 => hn (h.o2 h8).2
  have r : ∀ q, q ≠ 7 → (q = 7 ∨ d q) → d q := fun q hq h => h.resolve_left hq
  refine ⟨fun h5 => .inr (h.o1 (r 5 (by decide) h5)), fun h8 => (n8 (r 8 (by decide) h8)).elim, fun a b => (h.own0 (r 0 (by decide) a) fun h5 => b (.inr h5)).alloc _, fun a b => (h.own1 (r 5 (by decide) a) fun h8 => b (.inr h8)).alloc _, fun _ _ => ?_, fun h8 => (n8 (r 8 (by decide) h8)).elim⟩
  refine ⟨w'.heap.size, rfl, hH, heap_alloc_new w' _, fun a b e => ?_, fun a e => ?_⟩
  · have := ((h.own0 (r 0 (by decide) a) fun h5 => b (.inr h5)).lt _ e).2; omega
  · have := ((h.own1 (r 5 (by decide) a) n8).lt _ e).2; omega
theorem Chn.s5 (h : Chn H T L one i d w' y0 y1 y2 y3) (h0 : d 0) (hn : ¬ d 5) {a2 : Option Addr} {c2 : Nat} (ho : w2.ownsRow H T 2 (.slice a2 (0 + i) c2) (0 + i) ([] ++ L)) (hg : w'.grownBy w2 y0.ownBlock)
    (hat : (Value.slice a2 (0 + i) c2).ownBlock = y0.ownBlock ∨ (Value.slice a2 (0 + i) c2).ownBlock = some w'.heap.size) :
    Chn H T L one i (fun j => j = 5 ∨ d j) w2 y0 (.slice a2 (0 + i) c2) y2 y3 := by
  have n8 : ¬ d 8 := fun h8 => hn (h.o2 h8).1
  have r : ∀ q, q ≠ 5 → (q = 5 ∨ d q) → d q := fun q hq h => h.resolve_left hq
  rw [Nat.zero_add] at *
  refine ⟨fun _ => .inr h0, fun h8 => (n8 (r 8 (by decide) h8)).elim, fun _ b => (b (.inl rfl)).elim, fun _ _ => ho, fun h7 _ => ?_, fun h8 => (n8 (r 8 (by decide) h8)).elim⟩
  obtain ⟨b, e1, e2, e3, e4, _⟩ := h.row (r 7 (by decide) h7) n8
  have hne := e4 h0 hn
  have hlt := heap_lt e3
  refine ⟨b, e1, e2, by rw [hg.block b hlt (fun e => hne e.symm)]; exact e3, fun _ b => (b (.inl rfl)).elim, fun _ e => ?_⟩
  rcases hat with ha | ha
  · exact hne (ha.symm.trans e)
  · rw [ha] at e; cases e; omega
theorem Chn.s8 (h : Chn H T L one i d w' y0 y1 y2 y3) (h5 : d 5) (h7 : d 7) {v : Value} (ho : w2.ownsRow H T 2 v (i + 1) (L ++ one.toList)) :
    Chn H T L one i (fun j => j = 8 ∨ d j) w2 y0 y1 y2 v :=
  ⟨fun _ => .inr (h.o1 h5), fun _ => ⟨.inr h5, .inr h7⟩, fun _ b => (b (.inr h5)).elim, fun _ b => (b (.inl rfl)).elim, fun _ b => (b (.inl rfl)).elim, fun _ => ho⟩

/-- What is to be appended, of rows that lie in memory. -/
theorem news_keysW {w : World} {lo hi : Nat} {a : Option Addr} {l : List Key2} (hR : KeysAt w lo hi a l) : 0 < l.length → ∃ ad', a = some ad' ∧ ∀ j u, (l.flatMap encK)[j]? = some u → w.cell? (ad'.add j) = some u := fun h0 => by
  rcases hR with h | ⟨b, off, h, _, hb, hc⟩
  · subst h; simp at h0
  · refine ⟨⟨b, off, none⟩, h, fun j u hj => ?_⟩
    have hlen : ∀ r : List Key2, (r.flatMap encK).length = 2 * r.length := fun r => by
      induction r with
      | nil => rfl
      | cons v r ih => rw [List.flatMap_cons, List.length_append, ih]; show 2 + 2 * r.length = 2 * (r.length + 1); omega
    obtain ⟨hjl, _⟩ := List.getElem?_eq_some_iff.1 hj
    rw [hlen] at hjl
    have hj2 : j / 2 < l.length := by omega
    obtain ⟨g0, g1⟩ := flatK_get (M := l) (j / 2) hj2
    obtain ⟨h1, h2⟩ := hc (j / 2) hj2
    rw [addr_add0 b off j]
    rcases Nat.mod_two_eq_zero_or_one j with hq | hq
    · have ej : j / 2 * 2 = j := by omega
      rw [ej] at g0 h1
      rw [g0] at hj; cases hj; exact h1
    · have ej : j / 2 * 2 + 1 = j := by omega
      rw [ej] at g1
      rw [show off + j / 2 * 2 + 1 = off + j by omega] at h2
      rw [g1] at hj; cases hj; exact h2

end Go.Proofs.YtaekmmnpdbmoeaaGreatDoor
