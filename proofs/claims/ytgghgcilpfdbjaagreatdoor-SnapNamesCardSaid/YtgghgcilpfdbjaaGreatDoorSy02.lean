/- Equal in all parts, plain. No program in sight. -/
import Derived.StillTail
import Derived.RegionTactic
import Derived.KernelRfl
import Derived.Test.YtgghgcilpfdbjaaGreatDoorSy00
import Derived.Test.YtgghgcilpfdbjaaGreatDoorSy01
import Derived.Deep.Draws

namespace Go.Proofs.YtgghgcilpfdbjaaGreatDoor
open Go
section
variable {P : Program} {ops : Array Oper} {md : Region.Mode} {Q : Exit → Act → World → Prop}
def downB (md : Region.Mode) (ops : Array Oper) (n : Nat) : Bool :=
 (List.range n).all fun i => match ops[i]? with
   | some o => o.after.all fun e => !(Region.binds md e) || decide (e.on < i)
   | none => false
def waited (md : Region.Mode) (ops : Array Oper) (d : Nat → Prop) (i : Nat) : Prop :=
 ∀ o, ops[i]? = some o → ∀ e ∈ o.after, Region.binds md e = true → d e.on
def doneOf (listed : Array Bool) : Nat → Prop := fun i => listed.getD i false = true
theorem doneOf_set {listed : Array Bool} {i : Nat} (hi : i < listed.size) : doneOf (listed.setIfInBounds i true) = fun j => j = i ∨ doneOf listed j := by
 funext j
 apply propext
 unfold doneOf
 by_cases h : i = j
 · subst h
   simp [hi]
 · rw [getD_set_ne false h]
   constructor
   · exact .inr
   · rintro (e | e)
     · exact absurd e.symm h
     · exact e
theorem ready_some {n : Nat} {listed : Array Bool} (hd : downB md ops n = true) (inv : HeadInv md ops n listed) (hn : n < ops.size) :
   ∀ i, i < n → listed.getD i false = false → Region.ready md ops listed ≠ [] := by
 intro i
 induction i using Nat.strongRecOn with
 | _ i ih =>
   intro hi hun h0
   have h1 := List.all_eq_true.1 hd i (List.mem_range.2 hi)
   cases ho : ops[i]? with
   | none => rw [ho] at h1; cases h1
   | some o =>
     rw [ho] at h1
     by_cases hall : ∀ e ∈ o.after, Region.binds md e = true → listed.getD e.on false = true
     · have : i ∈ Region.ready md ops listed := mem_ready.2 ⟨getD_in (by rw [inv.size]; omega) hun, o, ho, hall⟩
       rw [h0] at this
       cases this
     · have : ∃ e, e ∈ o.after ∧ Region.binds md e = true ∧ listed.getD e.on false = false := by
         apply Classical.byContradiction
         intro hne
         apply hall
         intro e he hb
         cases hl : listed.getD e.on false with
         | true => rfl
         | false => exact absurd ⟨e, he, hb, hl⟩ hne
       obtain ⟨e, he, hb, hl⟩ := this
       have h2 := Array.all_eq_true'.1 h1 e he
       simp only [hb, Bool.not_true, Bool.false_or, decide_eq_true_eq] at h2
       exact ih e.on h2 (by omega) hl h0
def openOf (n : Nat) (listed : Array Bool) : Nat := ((List.range n).filter fun i => !(listed.getD i false)).length
theorem filter_set_len (listed : Array Bool) (i : Nat) (hl : listed.getD i false = false) (hs : i < listed.size) : ∀ n,
   ((List.range n).filter fun j => !((listed.setIfInBounds i true).getD j false)).length + (if i < n then 1 else 0) = ((List.range n).filter fun j => !(listed.getD j false)).length := by
 intro n
 induction n with
 | zero => simp
 | succ n ih =>
   rw [List.range_succ, List.filter_append, List.filter_append, List.length_append, List.length_append, ← ih]
   by_cases h : i = n
   · subst h
     have e1 : (listed.setIfInBounds i true).getD i false = true := by simp [hs]
     simp only [List.filter_cons, List.filter_nil, e1, hl]
     simp
   · have e : (if i < n + 1 then 1 else 0) = (if i < n then 1 else 0) := by
       by_cases h2 : i < n
       · rw [if_pos h2, if_pos (Nat.lt_succ_of_lt h2)]
       · rw [if_neg h2, if_neg (fun h3 => h2 (by omega))]
     rw [e]
     simp only [List.filter_cons, List.filter_nil]
     rw [getD_set_ne false h]
     omega
theorem openOf_set {n i : Nat} {listed : Array Bool} (hi : i < n) (hs : i < listed.size) (hl : listed.getD i false = false) : openOf n (listed.setIfInBounds i true) + 1 = openOf n listed := by
 have := filter_set_len listed i hl hs n
 rw [if_pos hi] at this
 exact this
theorem openOf_zero {n : Nat} {listed : Array Bool} (h : openOf n listed = 0) : ∀ i, i < n → listed.getD i false = true := by
 intro i hi
 unfold openOf at h
 rw [List.length_eq_zero_iff, List.filter_eq_nil_iff] at h
 have := h i (List.mem_range.2 hi)
 simpa using this
theorem openOf_pos {n : Nat} {listed : Array Bool} (h : 0 < openOf n listed) : ∃ i, i < n ∧ listed.getD i false = false := by
 unfold openOf at h
 obtain ⟨i, hi⟩ := List.exists_mem_of_length_pos h
 rw [List.mem_filter] at hi
 exact ⟨i, List.mem_range.1 hi.1, by simpa using hi.2⟩
theorem wpAny_inv {n g : Nat} (I : (Nat → Prop) → Act → World → Prop)
   (hs : Region.sinkB md ops n = true) (hc : Region.chainB md ops n = true) (hn : n < ops.size) (hd : downB md ops n = true)
   (step : ∀ d a w, I d a w → ∀ i, i < n → ¬ d i → waited md ops d i → wpOp P ops Q i (I (fun j => j = i ∨ d j)) a w)
   (last : ∀ listed a w, HeadInv md ops n listed → (∀ i, i < n → listed.getD i false = true) → I (doneOf listed) a w → wpAny P md ops Q g listed a w) :
   ∀ (f : Nat) (listed : Array Bool) (a : Act) (w : World), HeadInv md ops n listed → openOf n listed = f → I (doneOf listed) a w → wpAny P md ops Q (f + g) listed a w
 | 0, listed, a, w, inv, h0, h => by rw [Nat.zero_add]; exact last listed a w inv (openOf_zero h0) h
 | f + 1, listed, a, w, inv, h0, h => by
   rw [show f + 1 + g = (f + g) + 1 by omega]
   obtain ⟨i, hi, hl⟩ := openOf_pos (n := n) (listed := listed) (by omega)
   refine ⟨fun h1 => absurd h1 (ready_some hd inv hn i hi hl), fun j hj => ?_⟩
   have hjn : j < n := by
     rcases Nat.lt_or_ge j n with h | h
     · exact h
     · exact absurd hj (tail_waits hs hc hn inv _ i rfl hi (getD_in (by rw [inv.size]; omega) hl) j h)
   obtain ⟨hun, oj, hoj, hall⟩ := mem_ready.1 hj
   have hjs : j < listed.size := by rw [inv.size]; omega
   have hun' := getD_both hun
   refine wpOp_mono (fun a' w' h' => wpAny_inv I hs hc hn hd step last f _ a' w' (inv.set hj hjn) ?_ ?_) (step (doneOf listed) a w h j hjn ?_ ?_)
   · have := openOf_set hjn hjs hun'; omega
   · rw [doneOf_set hjs]; exact h'
   · unfold doneOf; rw [hun']; simp
   · intro o ho e he hb
     have : o = oj := Option.some.inj (ho.symm.trans hoj)
     subst this
     exact hall e he hb
def headFull (n m : Nat) : Array Bool := ((List.range m).map fun i => decide (i < n)).toArray
theorem headFull_of {n : Nat} {listed : Array Bool} (inv : HeadInv md ops n listed) (h : ∀ i, i < n → listed.getD i false = true) : listed = headFull n ops.size := by
 apply Array.ext
 · simp [headFull, inv.size]
 · intro i h1 h2
   by_cases hi : i < n
   · have := h i hi
     simp [headFull, hi]
     simpa [h1] using this
   · have := getD_both (inv.tail i (by omega) (by rw [← inv.size]; exact h1))
     simp [headFull, hi]
     simpa [h1] using this
theorem wp_region_inv {id : Nat} {a : Act} {w : World} {l : List Oper} (n : Nat) (I : (Nat → Prop) → Act → World → Prop) (hm : P.follows .mixedOrders = true)
   (hB : (decide (n < l.length) && Region.sinkB .any l.toArray n && Region.chainB .any l.toArray n && downB .any l.toArray n && Region.seqB .any l.toArray (l.length - n) n (headFull n l.length)) = true)
   (first : I (fun _ => False) a { w with drawn := w.drawn + 1 })
   (step : ∀ d a w, I d a w → ∀ i, i < n → ¬ d i → waited .any l.toArray d i → wpOp P l.toArray Q i (I (fun j => j = i ∨ d j)) a w)
   (last : ∀ d a w, (∀ i, i < n → d i) → I d a w → wpList P l.toArray Q (l.drop n) a w) : (Code.region id l.toArray true).wp P Q a w := by
 simp only [Bool.and_eq_true, decide_eq_true_eq] at hB
 obtain ⟨⟨⟨⟨hn, hs⟩, hc⟩, hd⟩, hq⟩ := hB
 refine wp_region_any hm ?_
 have inv0 : HeadInv .any l.toArray n (Array.replicate l.toArray.size false) :=
   ⟨by simp, fun j oj _ hl => (by rw [getD_replicate_false] at hl; cases hl), fun t _ ht => getD_in (by simpa using ht) (getD_replicate_false _ _)⟩
 have h0 : doneOf (Array.replicate l.toArray.size false) = fun _ => False := by
   funext i; unfold doneOf; rw [getD_replicate_false]; simp
 have hz : openOf n (Array.replicate l.toArray.size false) = n := by
   unfold openOf
   rw [List.filter_eq_self.2 (fun i _ => by rw [getD_replicate_false]; rfl), List.length_range]
 have hdl : (l.drop n).length = l.length - n := by simp
 have := wpAny_inv (P := P) (Q := Q) (g := l.length - n) I hs hc (by simpa using hn) hd step (fun listed a' w' inv hall hI => by
   have hf := headFull_of inv hall
   have hr := last (doneOf listed) a' w' hall hI
   have := wpAny_of_seq (md := .any) (Q' := Q) (l.drop n) n listed a' w' (fun j => by simp [List.getElem?_drop]) (by rw [hdl, hf]; simpa using hq) hr
   rwa [hdl] at this) n _ a { w with drawn := w.drawn + 1 } inv0 hz (by rw [h0]; exact first)
 rw [show n + (l.length - n) = l.toArray.size by simp; omega] at this
 exact this
end
end Go.Proofs.YtgghgcilpfdbjaaGreatDoor

namespace Go.Proofs.YtgghgcilpfdbjaaGreatDoor
open Go.RowKit
structure MP where
 p : World → Value → Prop
 mono : ∀ (w w' : World) (x : Value), Below w.heap.size w w' → p w x → p w' x
def MP.con (v : Value) : MP := ⟨fun _ x => x = v, fun _ _ _ _ h => h⟩
def MP.any : MP := ⟨fun _ _ => True, fun _ _ _ _ h => h⟩
def IsRow (B n T : Nat) (cs : Array Value) (w : World) (x : Value) : Prop := ∃ b, B ≤ b ∧ x = .slice (some ⟨b, 0, none⟩) n n ∧ w.heap[b]? = some (.cells cs T (0, 0))
theorem IsRow.mono {B n T : Nat} {cs : Array Value} {w w' : World} {x : Value} (hb : Below w.heap.size w w') (h : IsRow B n T cs w x) : IsRow B n T cs w' x := by
 obtain ⟨b, h1, h2, h3⟩ := h
 exact ⟨b, h1, h2, by rw [hb.block _ (heap_lt h3)]; exact h3⟩
theorem IsRow.made {w : World} {B n T : Nat} (cs : Array Value) (hB : B ≤ w.heap.size) : IsRow B n T cs (w.alloc (.cells cs T)) (.slice (some ⟨w.heap.size, 0, none⟩) n n) := ⟨_, hB, rfl, heap_alloc_new w _⟩
def MP.row (B n T : Nat) (cs : Array Value) : MP := ⟨IsRow B n T cs, fun _ _ _ hb h => h.mono hb⟩
def IsObj (B T1 T2 : Nat) (n1 n2 : Array Value) (w : World) (x : Value) : Prop := ∃ y z, x = .agg #[.int .u8 5, .int .i64 0, .string { data := #[] }, y, z] ∧ IsRow B 2 T1 n1 w y ∧ IsRow B 2 T2 n2 w z
def MP.obj (B T1 T2 : Nat) (n1 n2 : Array Value) : MP := ⟨IsObj B T1 T2 n1 n2, fun _ _ _ hb ⟨y, z, h1, h2, h3⟩ => ⟨y, z, h1, h2.mono hb, h3.mono hb⟩⟩
def IsOne (B T T1 T2 : Nat) (n1 n2 : Array Value) (w : World) (x : Value) : Prop := ∃ y z, IsRow B 1 T #[.int .u8 5, .int .i64 0, .string { data := #[] }, y, z] w x ∧ IsRow B 2 T1 n1 w y ∧ IsRow B 2 T2 n2 w z
def MP.one (B T T1 T2 : Nat) (n1 n2 : Array Value) : MP := ⟨IsOne B T T1 T2 n1 n2, fun _ _ _ hb ⟨y, z, h1, h2, h3⟩ => ⟨y, z, h1.mono hb, h2.mono hb, h3.mono hb⟩⟩
def RegI (wb : World) (V : List MP) (d : Nat → Prop) (w' : World) (xs : List Value) : Prop :=
 Below wb.heap.size wb w' ∧ xs.length = V.length ∧ ∀ (j : Nat) (m : MP) (x : Value), V[j]? = some m → xs[j]? = some x → d j → m.p w' x
theorem RegI.first (wb : World) (V : List MP) (xs : List Value) (h : xs.length = V.length) : RegI wb V (fun _ => False) wb.drew xs := ⟨(Below.refl _ _).drew, h, fun _ _ _ _ _ hd => hd.elim⟩
theorem RegI.get {wb w' : World} {V : List MP} {d : Nat → Prop} {xs : List Value} (h : RegI wb V d w' xs) (j : Nat) (hd : d j) (m : MP) (hV : V[j]? = some m) (x : Value) (hx : xs[j]? = some x) : m.p w' x := h.2.2 j m x hV hx hd
theorem RegI.did {wb w' w'' : World} {V : List MP} {d : Nat → Prop} {xs : List Value} (h : RegI wb V d w' xs) (hb : Below w'.heap.size w' w'') (j : Nat) (y : Value) (m : MP) (hV : V[j]? = some m) (hy : m.p w'' y) : RegI wb V (fun i => i = j ∨ d i) w'' (xs.set j y) := by
 refine ⟨h.1.trans (hb.mono h.1.size), by rw [List.length_set]; exact h.2.1, fun i m' x hm hx hd => ?_⟩
 by_cases e : i = j
 · subst e
   rw [hV] at hm
   cases hm
   have hl : i < xs.length := by rw [h.2.1]; exact (List.getElem?_eq_some_iff.1 hV).1
   rw [List.getElem?_set_self hl] at hx
   cases hx
   exact hy
 · rw [List.getElem?_set_ne (Ne.symm e)] at hx
   exact m'.mono _ _ _ hb (h.2.2 i m' x hm hx (hd.resolve_left e))
theorem RegI.same {wb w' : World} {V : List MP} {d : Nat → Prop} {xs : List Value} (h : RegI wb V d w' xs) (j : Nat) (y : Value) (m : MP) (hV : V[j]? = some m) (hy : m.p w' y) : RegI wb V (fun i => i = j ∨ d i) w' (xs.set j y) := h.did (Below.refl _ _) j y m hV hy
theorem RegI.new {wb w' : World} {V : List MP} {d : Nat → Prop} {xs : List Value} (h : RegI wb V d w' xs) (o : Obj) (j : Nat) (y : Value) (m : MP) (hV : V[j]? = some m) (hy : m.p (w'.alloc o) y) : RegI wb V (fun i => i = j ∨ d i) (w'.alloc o) (xs.set j y) := h.did ((Below.refl _ _).alloc (Nat.le_refl _) _) j y m hV hy
def KeysW (w : World) (lo hi : Nat) (a : Option Addr) (l : List Key2) : Prop := KeysAt w lo hi a l ∧ ∀ ad, a = some ad → l ≠ [] → ∀ j, w.frozen? ⟨ad.block, j, none⟩ = false
theorem KeysW.nil (w : World) (lo hi : Nat) (a : Option Addr) : KeysW w lo hi a [] := ⟨.inl rfl, fun _ _ h => absurd rfl h⟩
theorem KeysW.carry {w w' : World} {lo hi lo' hi' : Nat} {a : Option Addr} {l : List Key2} (h : KeysW w lo hi a l) (h1 : lo' ≤ lo) (h2 : hi ≤ hi') (hs : ∀ b, lo ≤ b → b < hi → w'.heap[b]? = w.heap[b]?) : KeysW w' lo' hi' a l :=
 ⟨h.1.carry h1 h2 hs, fun ad ha hl j => by
   rcases h.1 with e | ⟨b, off, e, hb, hb', _⟩
   · exact absurd e hl
   · have hf := h.2 ad ha hl j
     rw [e] at ha
     cases ha
     exact (World.frozen?_of_block (w := w) (hs b hb hb')).trans hf⟩
theorem KeysW.below {w w' : World} {lo hi lo' hi' B : Nat} {a : Option Addr} {l : List Key2} (h : KeysW w lo hi a l) (hb : Below B w w') (hB : hi ≤ B) (h1 : lo' ≤ lo) (h2 : hi ≤ hi') : KeysW w' lo' hi' a l :=
 h.carry h1 h2 fun b _ hlt => hb.block b (by omega)
theorem owns_keysW {w : World} {base e : Nat} {v : Value} {n : Nat} {M : List Key2} (h : w.ownsRow base e 2 v n (M.flatMap encK)) (hn : n = M.length) :
   ∃ a c, v = .slice a M.length c ∧ KeysW w base w.heap.size a M := by
 obtain ⟨a, c, hv, hk⟩ := owns_keys h hn
 refine ⟨a, c, hv, hk, fun ad ha hl j => ?_⟩
 rcases h.2 with ⟨hv2, h0⟩ | ⟨g, cap, cur, hv2, hg, hh, _⟩
 · rw [hv] at hv2
   simp only [Value.slice.injEq] at hv2
   rw [hv2.1] at ha
   cases ha
 · rw [hv] at hv2
   simp only [Value.slice.injEq] at hv2
   rw [hv2.1] at ha
   cases ha
   simp [World.frozen?, hh]
def digB (l : List UInt8) : Bool := l.all fun c => decide (48 ≤ c.toNat) && decide (c.toNat ≤ 57)
theorem pad2 : ∀ k : Fin 100, (padL k.val 2).length = 2 ∧ digsN (padL k.val 2) 0 = (k.val : Int) ∧ digB (padL k.val 2) = true := by decide +kernel
theorem pad4a : ∀ a b : Fin 100, (padL (a.val * 100 + b.val) 4).length = 4 ∧ digsN (padL (a.val * 100 + b.val) 4) 0 = ((a.val * 100 + b.val : Nat) : Int) ∧ digB (padL (a.val * 100 + b.val) 4) = true := by decide +kernel
theorem pad4 (k : Nat) (h : k < 10000) : (padL k 4).length = 4 ∧ digsN (padL k 4) 0 = (k : Int) ∧ digB (padL k 4) = true := by
 have := pad4a ⟨k / 100, by omega⟩ ⟨k % 100, by omega⟩
 dsimp only at this
 rw [show k / 100 * 100 + k % 100 = k by omega] at this
 exact this
def aheadN (y m : Nat) : Nat := beforeN (m - 1) + (if 2 < m ∧ leapN y = true then 1 else 0)
theorem days_eq (y m : Nat) (hy : 1970 ≤ y ∧ y ≤ 9999) (h1 : 1 ≤ m) (h2 : m ≤ 12) : daysN y m = beforeN m - beforeN (m - 1) + (if m = 2 ∧ leapN y = true then 1 else 0) := by
 unfold daysN
 rw [if_pos ⟨hy.1, hy.2, h1, h2⟩]
theorem ahead_step (y m : Nat) (hy : 1970 ≤ y ∧ y ≤ 9999) (h1 : 1 ≤ m) (h2 : m ≤ 11) : aheadN y (m + 1) = aheadN y m + daysN y m := by
 rw [days_eq y m hy h1 (by omega)]
 unfold aheadN
 have hm : m = 1 ∨ m = 2 ∨ m = 3 ∨ m = 4 ∨ m = 5 ∨ m = 6 ∨ m = 7 ∨ m = 8 ∨ m = 9 ∨ m = 10 ∨ m = 11 := by omega
 rcases hm with rfl | rfl | rfl | rfl | rfl | rfl | rfl | rfl | rfl | rfl | rfl <;> cases leapN y <;> simp [beforeN]
theorem month_spec (y : Nat) (hy : 1970 ≤ y ∧ y ≤ 9999) : ∀ (f m d : Nat), 1 ≤ m → m ≤ 12 → aheadN y m + d = aheadN y (monthN y f m d).1 + (monthN y f m d).2 ∧ m ≤ (monthN y f m d).1 ∧ (monthN y f m d).1 ≤ 12 ∧ (12 ≤ m + f → (monthN y f m d).1 = 12 ∨ (monthN y f m d).2 < daysN y (monthN y f m d).1)
 | 0, m, d, h1, h2 => ⟨rfl, Nat.le_refl _, h2, fun h => .inl (by show m = 12; omega)⟩
 | f + 1, m, d, h1, h2 => by
   unfold monthN
   split
   · rename_i h
     obtain ⟨a, b, c, e⟩ := month_spec y hy f (m + 1) (d - daysN y m) (by omega) (by omega)
     have hs := ahead_step y m hy h1 (by omega)
     exact ⟨by omega, by omega, c, fun hf => e (by omega)⟩
   · rename_i h
     refine ⟨rfl, Nat.le_refl _, h2, fun _ => ?_⟩
     by_cases hm : m = 12
     · exact .inl hm
     · exact .inr (by show d < daysN y m; omega)
theorem year_spec (T : Nat) (hT : T = 9999) (f : Nat) : ∀ (y d : Nat), y ≤ T → startN y ≤ d → startN (yearN f y d) ≤ d ∧ y ≤ yearN f y d ∧ yearN f y d ≤ T ∧ (T ≤ y + f → yearN f y d = T ∨ d < startN (yearN f y d + 1)) := by
 induction f with
 | zero => intro y d h1 h2; exact ⟨h2, Nat.le_refl _, h1, fun h => .inl (Nat.le_antisymm h1 h)⟩
 | succ f ih =>
   intro y d h1 h2
   have e : yearN (f + 1) y d = if y < T ∧ startN (y + 1) ≤ d then yearN f (y + 1) d else y := by subst hT; rfl
   rw [e]
   by_cases h : y < T ∧ startN (y + 1) ≤ d
   · rw [if_pos h]
     obtain ⟨a, b, c, k⟩ := ih (y + 1) d h.1 h.2
     exact ⟨a, by omega, c, fun hf => k (by omega)⟩
   · rw [if_neg h]
     refine ⟨h2, Nat.le_refl _, h1, fun _ => ?_⟩
     by_cases hm : y = T
     · exact .inl hm
     · exact .inr (Nat.lt_of_not_le fun h' => h ⟨by omega, h'⟩)
theorem start_next (y : Nat) (h : 1970 ≤ y) : startN (y + 1) = startN y + 365 + (if leapN y = true then 1 else 0) := by
 have e : leapsN y = leapsN (y - 1) + (if leapN y = true then 1 else 0) := by
   obtain ⟨z, rfl⟩ : ∃ z, y = z + 1 := ⟨y - 1, by omega⟩
   simp only [Nat.add_sub_cancel]
   unfold leapsN leapN
   by_cases h4 : (z + 1) % 4 = 0 <;> by_cases h100 : (z + 1) % 100 = 0 <;> by_cases h400 : (z + 1) % 400 = 0 <;> simp [h4, h100, h400] <;> omega
 have hm : leapsN 1969 ≤ leapsN (y - 1) := by unfold leapsN; omega
 unfold startN
 rw [show y + 1 - 1 = y by omega, e]
 omega
theorem list4 {α : Type} {l : List α} (h : l.length = 4) : ∃ a b c d, l = [a, b, c, d] := by
 match l, h with
 | [a, b, c, d], _ => exact ⟨a, b, c, d, rfl⟩
theorem list2 {α : Type} {l : List α} (h : l.length = 2) : ∃ a b, l = [a, b] := by
 match l, h with
 | [a, b], _ => exact ⟨a, b, rfl⟩
theorem date_parts (n : Nat) (h : n ≤ 253402300799) : ∃ y m d t, dateL n = padL y 4 ++ [45] ++ padL m 2 ++ [45] ++ padL (d + 1) 2 ++ [84] ++ padL (t / 3600) 2 ++ [58] ++ padL (t / 60 % 60) 2 ++ [58] ++ padL (t % 60) 2 ++ [90] ∧
   1970 ≤ y ∧ y ≤ 9999 ∧ 1 ≤ m ∧ m ≤ 12 ∧ d < daysN y m ∧ t < 86400 ∧ n = (startN y + aheadN y m + d) * 86400 + t := by
 have hd : n / 86400 ≤ 2932896 := by omega
 obtain ⟨y, hy⟩ : ∃ y, y = yearN 8030 1970 (n / 86400) := ⟨_, rfl⟩
 have h0 : startN 1970 = 0 := by decide
 obtain ⟨y1, y2, y3, y4⟩ := year_spec 9999 rfl 8030 1970 (n / 86400) (by decide) (by omega)
 rw [← hy] at y1 y2 y3 y4
 have y5 : n / 86400 < startN (y + 1) := by
   rcases y4 (by decide) with e | e
   · rw [e]; exact Nat.lt_of_le_of_lt hd (by decide)
   · exact e
 obtain ⟨md, hmd⟩ : ∃ md, md = monthN y 12 1 (n / 86400 - startN y) := ⟨_, rfl⟩
 obtain ⟨m1, m2, m3, m4⟩ := month_spec y ⟨y2, y3⟩ 12 1 (n / 86400 - startN y) (Nat.le_refl _) (by decide)
 rw [← hmd] at m1 m2 m3 m4
 have ha1 : aheadN y 1 = 0 := by simp [aheadN, beforeN]
 have hn := start_next y y2
 have m5 : md.2 < daysN y md.1 := by
   rcases m4 (by decide) with e | e
   · rw [e] at m1 ⊢
     have e12 : aheadN y 12 + daysN y 12 = 365 + (if leapN y = true then 1 else 0) := by
       rw [days_eq y 12 ⟨y2, y3⟩ (by decide) (by decide)]
       unfold aheadN
       cases leapN y <;> simp [beforeN]
     omega
   · exact e
 refine ⟨y, md.1, md.2, n % 86400, ?_, y2, y3, m2, m3, m5, Nat.mod_lt _ (by decide), by omega⟩
 have e1 : dateL n = padL (yearN 8030 1970 (n / 86400)) 4 ++ [45] ++ padL (monthN (yearN 8030 1970 (n / 86400)) 12 1 (n / 86400 - startN (yearN 8030 1970 (n / 86400)))).1 2 ++ [45] ++ padL ((monthN (yearN 8030 1970 (n / 86400)) 12 1 (n / 86400 - startN (yearN 8030 1970 (n / 86400)))).2 + 1) 2 ++ [84] ++ padL (n % 86400 / 3600) 2 ++ [58] ++ padL (n % 86400 / 60 % 60) 2 ++ [58] ++ padL (n % 86400 % 60) 2 ++ [90] := rfl
 rw [e1, ← hy, ← hmd]
theorem read_date (n : Nat) (h : n ≤ 253402300799) : readD (dateL n) = ((n : Int), 0) := by
 obtain ⟨y, m, d, t, e, y1, y2, m1, m2, d1, t1, hn⟩ := date_parts n h
 have hdm : daysN y m ≤ 31 := by
   unfold daysN
   rw [if_pos ⟨y1, y2, m1, m2⟩]
   have : ∀ k : Fin 13, 1 ≤ k.val → beforeN k.val - beforeN (k.val - 1) ≤ 31 ∧ (k.val = 2 → beforeN k.val - beforeN (k.val - 1) = 28) := by decide
   have h1 := this ⟨m, by omega⟩ m1
   dsimp only at h1
   split
   · rename_i hc; have := h1.2 hc.1; omega
   · omega
 obtain ⟨a1, a2, -⟩ := pad4 y (by omega)
 obtain ⟨b1, b2, -⟩ := pad2 ⟨m, by omega⟩
 obtain ⟨c1, c2, -⟩ := pad2 ⟨d + 1, by omega⟩
 obtain ⟨e1, e2, -⟩ := pad2 ⟨t / 3600, by omega⟩
 obtain ⟨f1, f2, -⟩ := pad2 ⟨t / 60 % 60, by omega⟩
 obtain ⟨g1, g2, -⟩ := pad2 ⟨t % 60, by omega⟩
 dsimp only at a1 a2 b1 b2 c1 c2 e1 e2 f1 f2 g1 g2
 rw [e]
 clear e
 generalize padL y 4 = A at *
 generalize padL m 2 = B at *
 generalize padL (d + 1) 2 = C at *
 generalize padL (t / 3600) 2 = E at *
 generalize padL (t / 60 % 60) 2 = F at *
 generalize padL (t % 60) 2 = G at *
 obtain ⟨A0, A1, A2, A3, rfl⟩ := list4 a1
 obtain ⟨B0, B1, rfl⟩ := list2 b1
 obtain ⟨C0, C1, rfl⟩ := list2 c1
 obtain ⟨E0, E1, rfl⟩ := list2 e1
 obtain ⟨F0, F1, rfl⟩ := list2 f1
 obtain ⟨G0, G1, rfl⟩ := list2 g1
 show readD [A0, A1, A2, A3, 45, B0, B1, 45, C0, C1, 84, E0, E1, 58, F0, F1, 58, G0, G1, 90] = _
 unfold readD
 rw [if_neg (by simp), if_neg (by simp)]
 simp only [List.take_succ_cons, List.take_zero, List.drop_succ_cons, List.drop_zero]
 rw [a2, b2, c2, e2, f2, g2]
 simp only [Int.toNat_natCast]
 rw [if_neg (show ¬ ((y : Int) < 0 ∨ (m : Int) < 0) by omega), if_neg (by omega), if_neg (by omega)]
 unfold aheadN at hn
 have hx : (if (2 : Int) < (m : Int) ∧ leapN y = true then (1 : Int) else 0) = ((if 2 < m ∧ leapN y = true then 1 else 0 : Nat) : Int) := by
   by_cases hc : 2 < m ∧ leapN y = true
   · rw [if_pos hc, if_pos ⟨by omega, hc.2⟩]; rfl
   · rw [if_neg hc, if_neg (fun h => hc ⟨by omega, h.2⟩)]; rfl
 rw [hx, Prod.mk.injEq]
 refine ⟨?_, rfl⟩
 generalize (if 2 < m ∧ leapN y = true then 1 else 0 : Nat) = lp at *
 omega
theorem date_bytes (n : Nat) (h : n ≤ 253402300799) : (dateL n).length = 20 ∧ ∀ c ∈ dateL n, (48 ≤ c.toNat ∧ c.toNat ≤ 58) ∨ c = 45 ∨ c = 84 ∨ c = 90 := by
 obtain ⟨y, m, d, t, e, y1, y2, m1, m2, d1, t1, hn⟩ := date_parts n h
 have hdm : daysN y m ≤ 31 := by
   rw [days_eq y m ⟨y1, y2⟩ m1 m2]
   have : ∀ k : Fin 13, 1 ≤ k.val → beforeN k.val - beforeN (k.val - 1) ≤ 31 ∧ (k.val = 2 → beforeN k.val - beforeN (k.val - 1) = 28) := by decide
   have h1 := this ⟨m, by omega⟩ m1
   dsimp only at h1
   split
   · rename_i hc; have := h1.2 hc.1; omega
   · omega
 obtain ⟨a1, -, a2⟩ := pad4 y (by omega)
 obtain ⟨b1, -, b2⟩ := pad2 ⟨m, by omega⟩
 obtain ⟨c1, -, c2⟩ := pad2 ⟨d + 1, by omega⟩
 obtain ⟨e1, -, e2⟩ := pad2 ⟨t / 3600, by omega⟩
 obtain ⟨f1, -, f2⟩ := pad2 ⟨t / 60 % 60, by omega⟩
 obtain ⟨g1, -, g2⟩ := pad2 ⟨t % 60, by omega⟩
 dsimp only at b1 b2 c1 c2 e1 e2 f1 f2 g1 g2
 have hd : ∀ {l : List UInt8}, digB l = true → ∀ c ∈ l, 48 ≤ c.toNat ∧ c.toNat ≤ 57 := fun h c hc => by
   have := List.all_eq_true.1 h c hc
   simpa using this
 rw [e]
 refine ⟨by simp [a1, b1, c1, e1, f1, g1], fun c hc => ?_⟩
 simp only [List.mem_append, List.mem_singleton] at hc
 have k58 : (58 : UInt8).toNat = 58 := rfl
 rcases hc with (((((((((((hc | hc) | hc) | hc) | hc) | hc) | hc) | hc) | hc) | hc) | hc) | hc)
 · have := hd a2 c hc; exact .inl (by omega)
 · exact .inr (.inl hc)
 · have := hd b2 c hc; exact .inl (by omega)
 · exact .inr (.inl hc)
 · have := hd c2 c hc; exact .inl (by omega)
 · exact .inr (.inr (.inl hc))
 · have := hd e2 c hc; exact .inl (by omega)
 · exact .inl (by rw [hc]; decide)
 · have := hd f2 c hc; exact .inl (by omega)
 · exact .inl (by rw [hc]; decide)
 · have := hd g2 c hc; exact .inl (by omega)
 · exact .inr (.inr (.inr hc))
theorem ValsAt.drewN {w : World} {lo hi : Nat} {a : Option Addr} {l : List JV} (h : ValsAt w lo hi a l) (q : Nat) : ValsAt (w.drewN q) lo hi a l := h.carry (Nat.le_refl _) (Nat.le_refl _) fun _ _ _ => rfl
end Go.Proofs.YtgghgcilpfdbjaaGreatDoor

namespace Go.Proofs.YtgghgcilpfdbjaaGreatDoor
open Go Go.RowKit
section
variable {P : Program} {ops : Array Oper} {md : Region.Mode} {Q : Exit → Act → World → Prop}
theorem ready_someA {n : Nat} {listed : Array Bool} (hd : downB md ops n = true) (inv : HeadInv md ops n listed) (hn : n ≤ ops.size) :
   ∀ i, i < n → listed.getD i false = false → Region.ready md ops listed ≠ [] := by
 intro i
 induction i using Nat.strongRecOn with
 | _ i ih =>
   intro hi hun h0
   have h1 := List.all_eq_true.1 hd i (List.mem_range.2 hi)
   cases ho : ops[i]? with
   | none => rw [ho] at h1; cases h1
   | some o =>
     rw [ho] at h1
     by_cases hall : ∀ e ∈ o.after, Region.binds md e = true → listed.getD e.on false = true
     · have : i ∈ Region.ready md ops listed := mem_ready.2 ⟨getD_in (by rw [inv.size]; omega) hun, o, ho, hall⟩
       rw [h0] at this
       cases this
     · have : ∃ e, e ∈ o.after ∧ Region.binds md e = true ∧ listed.getD e.on false = false := by
         apply Classical.byContradiction
         intro hne
         apply hall
         intro e he hb
         cases hl : listed.getD e.on false with
         | true => rfl
         | false => exact absurd ⟨e, he, hb, hl⟩ hne
       obtain ⟨e, he, hb, hl⟩ := this
       have h2 := Array.all_eq_true'.1 h1 e he
       simp only [hb, Bool.not_true, Bool.false_or, decide_eq_true_eq] at h2
       exact ih e.on h2 (by omega) hl h0
theorem wpAny_invA {n g : Nat} (I : (Nat → Prop) → Act → World → Prop) (hn : n = ops.size) (hd : downB md ops n = true)
   (step : ∀ d a w, I d a w → ∀ i, i < n → ¬ d i → waited md ops d i → wpOp P ops Q i (I (fun j => j = i ∨ d j)) a w)
   (last : ∀ listed a w, HeadInv md ops n listed → (∀ i, i < n → listed.getD i false = true) → I (doneOf listed) a w → wpAny P md ops Q g listed a w) :
   ∀ (f : Nat) (listed : Array Bool) (a : Act) (w : World), HeadInv md ops n listed → openOf n listed = f → I (doneOf listed) a w → wpAny P md ops Q (f + g) listed a w
 | 0, listed, a, w, inv, h0, h => by rw [Nat.zero_add]; exact last listed a w inv (openOf_zero h0) h
 | f + 1, listed, a, w, inv, h0, h => by
   rw [show f + 1 + g = (f + g) + 1 by omega]
   obtain ⟨i, hi, hl⟩ := openOf_pos (n := n) (listed := listed) (by omega)
   refine ⟨fun h1 => absurd h1 (ready_someA hd inv (by omega) i hi hl), fun j hj => ?_⟩
   obtain ⟨hun, oj, hoj, hall⟩ := mem_ready.1 hj
   have hjn : j < n := by rw [hn]; exact (Array.getElem?_eq_some_iff.1 hoj).1
   have hjs : j < listed.size := by rw [inv.size]; omega
   have hun' := getD_both hun
   refine wpOp_mono (fun a' w' h' => wpAny_invA I hn hd step last f _ a' w' (inv.set hj hjn) ?_ ?_) (step (doneOf listed) a w h j hjn ?_ ?_)
   · have := openOf_set hjn hjs hun'; omega
   · rw [doneOf_set hjs]; exact h'
   · unfold doneOf; rw [hun']; simp
   · intro o ho e he hb
     have : o = oj := Option.some.inj (ho.symm.trans hoj)
     subst this
     exact hall e he hb
theorem wp_region_all {id : Nat} {a : Act} {w : World} {l : List Oper} (I : (Nat → Prop) → Act → World → Prop) (hm : P.follows .mixedOrders = true) (n : Nat) (hl : l.length = n)
   (hB : (downB .any l.toArray n && Region.seqB .any l.toArray 0 n (headFull n n)) = true)
   (first : I (fun _ => False) a { w with drawn := w.drawn + 1 })
   (step : ∀ d a w, I d a w → ∀ i, i < n → ¬ d i → waited .any l.toArray d i → wpOp P l.toArray Q i (I (fun j => j = i ∨ d j)) a w)
   (last : ∀ d a w, (∀ i, i < n → d i) → I d a w → wpList P l.toArray Q [] a w) : (Code.region id l.toArray true).wp P Q a w := by
 subst hl
 simp only [Bool.and_eq_true] at hB
 obtain ⟨hd, hq⟩ := hB
 refine wp_region_any hm ?_
 have inv0 : HeadInv .any l.toArray l.length (Array.replicate l.toArray.size false) :=
   ⟨by simp, fun j oj _ hl => (by rw [getD_replicate_false] at hl; cases hl), fun t _ ht => getD_in (by simpa using ht) (getD_replicate_false _ _)⟩
 have h0 : doneOf (Array.replicate l.toArray.size false) = fun _ => False := by
   funext i; unfold doneOf; rw [getD_replicate_false]; simp
 have hz : openOf l.length (Array.replicate l.toArray.size false) = l.length := by
   unfold openOf
   rw [List.filter_eq_self.2 (fun i _ => by rw [getD_replicate_false]; rfl), List.length_range]
 have := wpAny_invA (P := P) (Q := Q) (g := 0) I (by simp) hd step (fun listed a' w' inv hall hI => by
   have hf := headFull_of inv hall
   have hr := last (doneOf listed) a' w' hall hI
   have := wpAny_of_seq (P := P) (md := .any) (ops := l.toArray) (Q' := Q) [] l.length listed a' w' (fun j => by simp) (by rw [hf]; simpa using hq) hr
   simpa using this) _ _ a { w with drawn := w.drawn + 1 } inv0 hz (by rw [h0]; exact first)
 simpa using this
end
def upd (f : Nat → Value) (k : Nat) (y : Value) : Nat → Value := fun i => if i = k then y else f i
def RegF (wb : World) (V : List MP) (s : Nat) (d : Nat → Prop) (w' : World) (f : Nat → Value) : Prop :=
 Below wb.heap.size wb w' ∧ ∀ (j : Nat) (m : MP), V[j]? = some m → d j → m.p w' (f (s + j))
theorem RegF.first (wb : World) (V : List MP) (s : Nat) (f : Nat → Value) : RegF wb V s (fun _ => False) wb.drew f := ⟨(Below.refl _ _).drew, fun _ _ _ hd => hd.elim⟩
theorem RegF.get {wb w' : World} {V : List MP} {s : Nat} {d : Nat → Prop} {f : Nat → Value} (h : RegF wb V s d w' f) (j : Nat) (hd : d j) (m : MP) (hV : V[j]? = some m) : m.p w' (f (s + j)) := h.2 j m hV hd
theorem RegF.did {wb w' w'' : World} {V : List MP} {s : Nat} {d : Nat → Prop} {f : Nat → Value} (h : RegF wb V s d w' f) (hb : Below w'.heap.size w' w'') (j : Nat) (y : Value) (m : MP) (hV : V[j]? = some m) (hy : m.p w'' y) : RegF wb V s (fun i => i = j ∨ d i) w'' (upd f (s + j) y) := by
 refine ⟨h.1.trans (hb.mono h.1.size), fun i m' hm hd => ?_⟩
 unfold upd
 by_cases e : i = j
 · subst e
   rw [hV] at hm
   cases hm
   rw [if_pos rfl]
   exact hy
 · rw [if_neg (by omega)]
   exact m'.mono _ _ _ hb (h.2 i m' hm (hd.resolve_left e))
theorem RegF.same {wb w' : World} {V : List MP} {s : Nat} {d : Nat → Prop} {f : Nat → Value} (h : RegF wb V s d w' f) (j : Nat) (y : Value) (m : MP) (hV : V[j]? = some m) (hy : m.p w' y) : RegF wb V s (fun i => i = j ∨ d i) w' (upd f (s + j) y) := h.did (Below.refl _ _) j y m hV hy
theorem RegF.new {wb w' : World} {V : List MP} {s : Nat} {d : Nat → Prop} {f : Nat → Value} (h : RegF wb V s d w' f) (o : Obj) (j : Nat) (y : Value) (m : MP) (hV : V[j]? = some m) (hy : m.p (w'.alloc o) y) : RegF wb V s (fun i => i = j ∨ d i) (w'.alloc o) (upd f (s + j) y) := h.did ((Below.refl _ _).alloc (Nat.le_refl _) _) j y m hV hy
end Go.Proofs.YtgghgcilpfdbjaaGreatDoor

namespace Go.Proofs.YtgghgcilpfdbjaaGreatDoor
open Go.RowKit
def tailCode : Nat → Code → Code
 | 0, c => c
 | n + 1, .seq _ b => tailCode n b
 | _ + 1, _ => .skip
theorem addr_addN (g j : Nat) : (⟨g, 0, none⟩ : Addr).add j = ⟨g, j, none⟩ := by unfold Addr.add; split <;> simp_all
mutual
def JV.sameB : JV → JV → Bool
 | .mk k n t ns xs, .mk k' n' t' ns' xs' => decide (k = k') && (decide (n = n') && (decide (t = t') && (decide (ns = ns') && (decide (xs.length = xs'.length) && JV.sameL xs xs'))))
def JV.sameL : List JV → List JV → Bool
 | [], _ => true
 | _ :: _, [] => true
 | x :: xs, y :: ys => JV.sameB x y && JV.sameL xs ys
end
theorem JV.sameB_eq (v u : JV) : v.sameB u = (decide (v.kind = u.kind) && (decide (v.n = u.n) && (decide (v.t = u.t) && (decide (v.names = u.names) && (decide (v.items.length = u.items.length) && JV.sameL v.items u.items))))) := by
 cases v; cases u; rw [JV.sameB]; rfl
mutual
theorem JV.sameB_iff : ∀ (v u : JV), v.sameB u = true ↔ v = u
 | .mk k n t ns xs, .mk k' n' t' ns' xs' => by
   rw [JV.sameB]
   simp only [Bool.and_eq_true, decide_eq_true_eq]
   constructor
   · rintro ⟨rfl, rfl, rfl, rfl, hl, hs⟩
     rw [(JV.sameL_iff xs xs' hl).1 hs]
   · intro h
     injection h with h1 h2 h3 h4 h5
     subst h1 h2 h3 h4 h5
     exact ⟨rfl, rfl, rfl, rfl, rfl, (JV.sameL_iff xs xs rfl).2 rfl⟩
theorem JV.sameL_iff : ∀ (xs ys : List JV), xs.length = ys.length → (JV.sameL xs ys = true ↔ xs = ys)
 | [], [], _ => by simp [JV.sameL]
 | [], _ :: _, h => by simp at h
 | _ :: _, [], h => by simp at h
 | x :: xs, y :: ys, h => by
   rw [JV.sameL, Bool.and_eq_true, JV.sameB_iff x y, JV.sameL_iff xs ys (by simpa using h)]
   simp
end
theorem JV.sameL_take : ∀ (xs ys : List JV) (k : Nat) (h : k < xs.length) (h' : k < ys.length), JV.sameL (xs.take (k + 1)) (ys.take (k + 1)) = (JV.sameL (xs.take k) (ys.take k) && xs[k].sameB ys[k])
 | x :: xs, y :: ys, 0, _, _ => by simp [JV.sameL]
 | x :: xs, y :: ys, k + 1, h, h' => by
   simp only [List.take_succ_cons, JV.sameL, List.getElem_cons_succ]
   rw [JV.sameL_take xs ys k (by simpa using h) (by simpa using h'), Bool.and_assoc]
theorem JV.sameL_bad : ∀ (xs ys : List JV) (k : Nat) (h : k < xs.length) (h' : k < ys.length), xs[k].sameB ys[k] = false → JV.sameL xs ys = false
 | x :: xs, y :: ys, 0, _, _, e => by simp only [List.getElem_cons_zero] at e; simp [JV.sameL, e]
 | x :: xs, y :: ys, k + 1, h, h', e => by
   simp only [List.getElem_cons_succ] at e
   simp [JV.sameL, JV.sameL_bad xs ys k (by simpa using h) (by simpa using h') e]
theorem ba_ext2 {a b : ByteArray} (h : a.toList = b.toList) : a = b := by
 rw [ByteArray.toList_eq, ByteArray.toList_eq] at h
 exact ByteArray.ext (Array.toList_inj.1 h)
end Go.Proofs.YtgghgcilpfdbjaaGreatDoor
