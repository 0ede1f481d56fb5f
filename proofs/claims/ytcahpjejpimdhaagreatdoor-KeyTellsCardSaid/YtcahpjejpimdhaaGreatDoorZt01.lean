/- A region whose operations the model runs in a drawn order: an invariant over what is done (own law). Cells of the call's own that may be written over. No program in sight. -/
import Derived.StillTail
import Derived.RegionTactic
import Derived.KernelRfl
import Derived.Test.YtcahpjejpimdhaaGreatDoorZt00

namespace Go.Proofs.YtcahpjejpimdhaaGreatDoor
open Go

section
variable {P : Program} {ops : Array Oper} {md : Region.Mode} {Q : Exit → Act → World → Prop}

/-- Every operation of the head waits for earlier ones alone. -/
def downB (md : Region.Mode) (ops : Array Oper) (n : Nat) : Bool :=
  (List.range n).all fun i => match ops[i]? with
    | some o => o.after.all fun e => !(Region.binds md e) || decide (e.on < i)
    | none => false

/-- What the operation i waits for is done. -/
def waited (md : Region.Mode) (ops : Array Oper) (d : Nat → Prop) (i : Nat) : Prop :=
  ∀ o, ops[i]? = some o → ∀ e ∈ o.after, Region.binds md e = true → d e.on

def doneOf (listed : Array Bool) : Nat → Prop := fun i => listed.getD i false = true

theorem doneOf_set {listed : Array Bool} {i : Nat} (hi : i < listed.size) : doneOf (listed.setIfInBounds i true) = fun j => j = i ∨ doneOf listed j := by
  funext j
  apply propext
  unfold doneOf
  by_cases h : i = j
  · subst h
    simp [hi]
  · rw [getD_set_ne false h]
    constructor
    · exact .inr
    · rintro (e | e)
      · exact absurd e.symm h
      · exact e

theorem ready_some {n : Nat} {listed : Array Bool} (hd : downB md ops n = true) (inv : HeadInv md ops n listed) (hn : n < ops.size) :
    ∀ i, i < n → listed.getD i false = false → Region.ready md ops listed ≠ [] := by
  intro i
  induction i using Nat.strongRecOn with
  | _ i ih =>
    intro hi hun h0
    have h1 := List.all_eq_true.1 hd i (List.mem_range.2 hi)
    cases ho : ops[i]? with
    | none => rw [ho] at h1; cases h1
    | some o =>
      rw [ho] at h1
      by_cases hall : ∀ e ∈ o.after, Region.binds md e = true → listed.getD e.on false = true
      · have : i ∈ Region.ready md ops listed := mem_ready.2 ⟨getD_in (by rw [inv.size]; omega) hun, o, ho, hall⟩
        rw [h0] at this
        cases this
      · have : ∃ e, e ∈ o.after ∧ Region.binds md e = true ∧ listed.getD e.on false = false := by
          apply Classical.byContradiction
          intro hne
          apply hall
          intro e he hb
          cases hl : listed.getD e.on false with
          | true => rfl
          | false => exact absurd ⟨e, he, hb, hl⟩ hne
        obtain ⟨e, he, hb, hl⟩ := this
        have h2 := Array.all_eq_true'.1 h1 e he
        simp only [hb, Bool.not_true, Bool.false_or, decide_eq_true_eq] at h2
        exact ih e.on h2 (by omega) hl h0

def openOf (n : Nat) (listed : Array Bool) : Nat := ((List.range n).filter fun i => !(listed.getD i false)).length

theorem filter_set_len (listed : Array Bool) (i : Nat) (hl : listed.getD i false = false) (hs : i < listed.size) : ∀ n, 
    ((List.range n).filter fun j => !((listed.setIfInBounds i true).getD j false)).length + (if i < n then 1 else 0) = ((List.range n).filter fun j => !(listed.getD j false)).length := by
  intro n
  induction n with
  | zero => simp
  | succ n ih =>
    rw [List.range_succ, List.filter_append, List.filter_append, List.length_append, List.length_append, ← ih]
    by_cases h : i = n
    · subst h
      have e1 : (listed.setIfInBounds i true).getD i false = true := by simp [hs]
      simp only [List.filter_cons, List.filter_nil, e1, hl]
      simp
    · have e : (if i < n + 1 then 1 else 0) = (if i < n then 1 else 0) := by
        by_cases h2 : i < n
        · rw [if_pos h2, if_pos (Nat.lt_succ_of_lt h2)]
        · rw [if_neg h2, if_neg (fun h3 => h2 (by omega))]
      rw [e]
      simp only [List.filter_cons, List.filter_nil]
      rw [getD_set_ne false h]
      omega

theorem openOf_set {n i : Nat} {listed : Array Bool} (hi : i < n) (hs : i < listed.size) (hl : listed.getD i false = false) : openOf n (listed.setIfInBounds i true) + 1 = openOf n listed := by
  have := filter_set_len listed i hl hs n
  rw [if_pos hi] at this
  exact this

theorem openOf_zero {n : Nat} {listed : Array Bool} (h : openOf n listed = 0) : ∀ i, i < n → listed.getD i false = true := by
  intro i hi
  unfold openOf at h
  rw [List.length_eq_zero_iff, List.filter_eq_nil_iff] at h
  have := h i (List.mem_range.2 hi)
  simpa using this

theorem openOf_pos {n : Nat} {listed : Array Bool} (h : 0 < openOf n listed) : ∃ i, i < n ∧ listed.getD i false = false := by
  unfold openOf at h
  obtain ⟨i, hi⟩ := List.exists_mem_of_length_pos h
  rw [List.mem_filter] at hi
  exact ⟨i, List.mem_range.1 hi.1, by simpa using hi.2⟩

/-- A statement that holds through the head's drawn order. -/
theorem wpAny_inv {n g : Nat} (I : (Nat → Prop) → Act → World → Prop)
    (hs : Region.sinkB md ops n = true) (hc : Region.chainB md ops n = true) (hn : n < ops.size) (hd : downB md ops n = true)
    (step : ∀ d a w, I d a w → ∀ i, i < n → ¬ d i → waited md ops d i → wpOp P ops Q i (I (fun j => j = i ∨ d j)) a w)
    (last : ∀ listed a w, HeadInv md ops n listed → (∀ i, i < n → listed.getD i false = true) → I (doneOf listed) a w → wpAny P md ops Q g listed a w) :
    ∀ (f : Nat) (listed : Array Bool) (a : Act) (w : World), HeadInv md ops n listed → openOf n listed = f → I (doneOf listed) a w → wpAny P md ops Q (f + g) listed a w
  | 0, listed, a, w, inv, h0, h => by rw [Nat.zero_add]; exact last listed a w inv (openOf_zero h0) h
  | f + 1, listed, a, w, inv, h0, h => by
    rw [show f + 1 + g = (f + g) + 1 by omega]
    obtain ⟨i, hi, hl⟩ := openOf_pos (n := n) (listed := listed) (by omega)
    refine ⟨fun h1 => absurd h1 (ready_some hd inv hn i hi hl), fun j hj => ?_⟩
    have hjn : j < n := by
      rcases Nat.lt_or_ge j n with h | h
      · exact h
      · exact absurd hj (tail_waits hs hc hn inv _ i rfl hi (getD_in (by rw [inv.size]; omega) hl) j h)
    obtain ⟨hun, oj, hoj, hall⟩ := mem_ready.1 hj
    have hjs : j < listed.size := by rw [inv.size]; omega
    have hun' := getD_both hun
    refine wpOp_mono (fun a' w' h' => wpAny_inv I hs hc hn hd step last f _ a' w' (inv.set hj hjn) ?_ ?_) (step (doneOf listed) a w h j hjn ?_ ?_)
    · have := openOf_set hjn hjs hun'; omega
    · rw [doneOf_set hjs]; exact h'
    · unfold doneOf; rw [hun']; simp
    · intro o ho e he hb
      have : o = oj := Option.some.inj (ho.symm.trans hoj)
      subst this
      exact hall e he hb

/-- Everything of the head is listed and nothing of the tail. -/
def headFull (n m : Nat) : Array Bool := ((List.range m).map fun i => decide (i < n)).toArray

theorem headFull_of {n : Nat} {listed : Array Bool} (inv : HeadInv md ops n listed) (h : ∀ i, i < n → listed.getD i false = true) : listed = headFull n ops.size := by
  apply Array.ext
  · simp [headFull, inv.size]
  · intro i h1 h2
    by_cases hi : i < n
    · have := h i hi
      simp [headFull, hi]
      simpa [h1] using this
    · have := getD_both (inv.tail i (by omega) (by rw [← inv.size]; exact h1))
      simp [headFull, hi]
      simpa [h1] using this

/-- A region whose head's operations run in a drawn order and whose tail is a chain. -/
theorem wp_region_inv {id : Nat} {a : Act} {w : World} {l : List Oper} (n : Nat) (I : (Nat → Prop) → Act → World → Prop) (hm : P.follows .mixedOrders = true)
    (hB : (decide (n < l.length) && Region.sinkB .any l.toArray n && Region.chainB .any l.toArray n && downB .any l.toArray n && Region.seqB .any l.toArray (l.length - n) n (headFull n l.length)) = true)
    (first : I (fun _ => False) a { w with drawn := w.drawn + 1 })
    (step : ∀ d a w, I d a w → ∀ i, i < n → ¬ d i → waited .any l.toArray d i → wpOp P l.toArray Q i (I (fun j => j = i ∨ d j)) a w)
    (last : ∀ d a w, (∀ i, i < n → d i) → I d a w → wpList P l.toArray Q (l.drop n) a w) : (Code.region id l.toArray true).wp P Q a w := by
  simp only [Bool.and_eq_true, decide_eq_true_eq] at hB
  obtain ⟨⟨⟨⟨hn, hs⟩, hc⟩, hd⟩, hq⟩ := hB
  refine wp_region_any hm ?_
  have inv0 : HeadInv .any l.toArray n (Array.replicate l.toArray.size false) :=
    ⟨by simp, fun j oj _ hl => (by rw [getD_replicate_false] at hl; cases hl), fun t _ ht => getD_in (by simpa using ht) (getD_replicate_false _ _)⟩
  have h0 : doneOf (Array.replicate l.toArray.size false) = fun _ => False := by
    funext i; unfold doneOf; rw [getD_replicate_false]; simp
  have hz : openOf n (Array.replicate l.toArray.size false) = n := by
    unfold openOf
    rw [List.filter_eq_self.2 (fun i _ => by rw [getD_replicate_false]; rfl), List.length_range]
  have hdl : (l.drop n).length = l.length - n := by simp
  have := wpAny_inv (P := P) (Q := Q) (g := l.length - n) I hs hc (by simpa using hn) hd step (fun listed a' w' inv hall hI => by
    have hf := headFull_of inv hall
    have hr := last (doneOf listed) a' w' hall hI
    have := wpAny_of_seq (md := .any) (Q' := Q) (l.drop n) n listed a' w' (fun j => by simp [List.getElem?_drop]) (by rw [hdl, hf]; simpa using hq) hr
    rwa [hdl] at this) n _ a { w with drawn := w.drawn + 1 } inv0 hz (by rw [h0]; exact first)
  rw [show n + (l.length - n) = l.toArray.size by simp; omega] at this
  exact this
end
end Go.Proofs.YtcahpjejpimdhaaGreatDoor

namespace Go.Proofs.YtcahpjejpimdhaaGreatDoor
open Go.RowKit

/-- Block b has m cells from off on; it bears no mark. -/
def Room (w : World) (b off m : Nat) : Prop := ∃ cs t, w.heap[b]? = some (.cells cs t (0, 0)) ∧ off + m ≤ cs.size
theorem Room.cell {w : World} {b off m : Nat} (h : Room w b off m) (j : Nat) (hj : j < off + m) : ∃ v, w.cell? ⟨b, j, none⟩ = some v := by
  obtain ⟨cs, t, h1, h2⟩ := h
  exact ⟨cs[j]'(by omega), by simp [World.cell?, h1, Array.getElem?_eq_getElem (show j < cs.size by omega)]⟩
theorem Room.frozen {w : World} {b off m : Nat} (h : Room w b off m) (j : Nat) : w.frozen? ⟨b, j, none⟩ = false := by
  obtain ⟨cs, t, h1, h2⟩ := h
  simp [World.frozen?, h1]
theorem Room.set {w : World} {b off m : Nat} (h : Room w b off m) (j : Nat) (v : Value) : Room (w.setCell ⟨b, j, none⟩ v) b off m := by
  obtain ⟨cs, t, h1, h2⟩ := h
  exact ⟨cs.setIfInBounds j v, t, by simp [World.setCell, Array.getElem?_modify, h1], by simpa using h2⟩
theorem Room.of_block {w w' : World} {b off m : Nat} (h : Room w b off m) (e : w'.heap[b]? = w.heap[b]?) : Room w' b off m := by
  obtain ⟨cs, t, h1, h2⟩ := h
  exact ⟨cs, t, by rw [e]; exact h1, h2⟩
theorem Room.lt {w : World} {b off m : Nat} (h : Room w b off m) : b < w.heap.size := by
  obtain ⟨cs, t, h1, h2⟩ := h
  exact (Array.getElem?_eq_some_iff.1 h1).1
/-- The Items of a value of the call's own. -/
theorem ValsAt.room {w : World} {lo hi : Nat} {a : Option Addr} {l : List JV} (h : ValsAt w lo hi a l) (hlo : 0 < lo) :
    l.length = 0 ∨ ∃ b off, a = some ⟨b, off, none⟩ ∧ lo ≤ b ∧ b < hi ∧ Room w b off (l.length * 5) := by
  rcases h with h | ⟨b, off, ha, hb, hb', hu, hr⟩
  · exact .inl (by rw [h]; rfl)
  · by_cases h0 : l.length = 0
    · exact .inl h0
    · refine .inr ⟨b, off, ha, hb, hb', ?_⟩
      obtain ⟨cs, t, fr, h1, h2⟩ := hu
      rw [h2 hlo] at h1
      refine ⟨cs, t, h1, ?_⟩
      obtain ⟨c0, c1, c2, c3, c4, _, _, _, _, e4, _⟩ := hr.at (l.length - 1) (by omega)
      simp only [World.cell?, h1] at e4
      have := (Array.getElem?_eq_some_iff.1 (by simpa using e4)).1
      omega

/-- The Names of a value of the call's own. (Their block may bear a mark: nothing is said of that.) -/
def SpoilRel (B p n : Nat) (ai : Option Addr) (W : World) (i : Value) (wr : World) : Prop :=
  ∃ q : Nat, q ≤ n ∧ i = .int .i64 q ∧ Touch (fun k => B ≤ k ∧ k < p) W wr ∧ (n = 0 ∨ ∃ b off, ai = some ⟨b, off, none⟩ ∧ B ≤ b ∧ b < p ∧ Room wr b off (n * 5))

theorem SpoilRel.set {B p n : Nat} {W wr : World} {b off q : Nat} {v0 v1 v2 v3 v4 : Value} (hq : q < n) (ht : Touch (fun k => B ≤ k ∧ k < p) W wr) (hb : B ≤ b) (hb' : b < p) (hr : Room wr b off (n * 5)) :
    SpoilRel B p n (some ⟨b, off, none⟩) W (.int .i64 ((q : Int) + 1)) (((((wr.setCell ⟨b, off + q * 5, none⟩ v0).setCell ⟨b, off + q * 5 + 1, none⟩ v1).setCell ⟨b, off + q * 5 + 2, none⟩ v2).setCell ⟨b, off + q * 5 + 3, none⟩ v3).setCell ⟨b, off + q * 5 + 4, none⟩ v4) :=
  ⟨q + 1, by omega, by simp, ((((ht.setCell (.inl ⟨hb, hb'⟩) _).setCell (.inl ⟨hb, hb'⟩) _).setCell (.inl ⟨hb, hb'⟩) _).setCell (.inl ⟨hb, hb'⟩) _).setCell (.inl ⟨hb, hb'⟩) _, .inr ⟨b, off, rfl, hb, hb', ((((hr.set _ _).set _ _).set _ _).set _ _).set _ _⟩⟩

end Go.Proofs.YtcahpjejpimdhaaGreatDoor
