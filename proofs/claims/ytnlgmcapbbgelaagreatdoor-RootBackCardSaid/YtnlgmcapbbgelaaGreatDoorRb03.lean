/- An invariant, slot by slot, for regions that the model runs in a drawn order (over XRegInv): what each operation that is done has left in its slot. No program in sight. -/
import Derived.Test.YtnlgmcapbbgelaaGreatDoorRb00
import Derived.Test.YtnlgmcapbbgelaaGreatDoorRb01
import Derived.StillTail
import Derived.RegionTactic
import Derived.KernelRfl
import Derived.Test.YtnlgmcapbbgelaaGreatDoorRb02

namespace Go.Proofs.YtnlgmcapbbgelaaGreatDoor
open Go.RowKit
theorem heap_two (w : World) (o o' : Obj) : ((w.alloc o).alloc o').heap[w.heap.size + 1]? = some o' := by
 have := heap_alloc_new (w.alloc o) o'
 rwa [show (w.alloc o).heap.size = w.heap.size + 1 by simp] at this
theorem heap_old (w : World) (o o' : Obj) : ((w.alloc o).alloc o').heap[w.heap.size]? = some o := (Below.heap_alloc _ _ _ (by simp)).trans (heap_alloc_new w o)
end Go.Proofs.YtnlgmcapbbgelaaGreatDoor

namespace Go.Proofs.YtnlgmcapbbgelaaGreatDoor
open Go.ChangeShapes Go.WideShapes Go.ChangeAt Go.RowKit Go.Joins Go.Deep
def TrisAt (w : World) (lo hi : Nat) (a : Option Addr) (l : List (ByteArray × ByteArray × ByteArray)) : Prop :=
 l = [] ∨ ∃ b off, a = some ⟨b, off, none⟩ ∧ lo ≤ b ∧ b < hi ∧ ∀ i (h : i < l.length), w.cell? ⟨b, off + i * 3, none⟩ = some (.string l[i].1) ∧ w.cell? ⟨b, off + i * 3 + 1, none⟩ = some (.string l[i].2.1) ∧ w.cell? ⟨b, off + i * 3 + 2, none⟩ = some (.string l[i].2.2)
theorem TrisAt.at {w : World} {lo hi : Nat} {a : Option Addr} {l : List (ByteArray × ByteArray × ByteArray)} (h : TrisAt w lo hi a l) (i : Nat) (hi' : i < l.length) :
   ∃ b off, a = some ⟨b, off, none⟩ ∧ lo ≤ b ∧ b < hi ∧ w.cell? ⟨b, off + i * 3, none⟩ = some (.string l[i].1) ∧ w.cell? ⟨b, off + i * 3 + 1, none⟩ = some (.string l[i].2.1) ∧ w.cell? ⟨b, off + i * 3 + 2, none⟩ = some (.string l[i].2.2) := by
 rcases h with h | ⟨b, off, ha, hb, hb', hr⟩
 · rw [h] at hi'; simp at hi'
 · exact ⟨b, off, ha, hb, hb', hr i hi'⟩
theorem TrisAt.carry {w w' : World} {lo hi lo' hi' : Nat} {a : Option Addr} {l : List (ByteArray × ByteArray × ByteArray)} (h : TrisAt w lo hi a l) (h1 : lo' ≤ lo) (h2 : hi ≤ hi') (hs : ∀ b, lo ≤ b → b < hi → w'.heap[b]? = w.heap[b]?) : TrisAt w' lo' hi' a l := by
 rcases h with h | ⟨b, off, ha, hb, hb', hr⟩
 · exact .inl h
 · refine .inr ⟨b, off, ha, by omega, by omega, fun i hi => ?_⟩
   have e : ∀ o, w'.cell? ⟨b, o, none⟩ = w.cell? ⟨b, o, none⟩ := fun o => World.cell?_of_block (w := w) (w' := w') (hs b hb hb')
   rw [e, e, e]; exact hr i hi
theorem TrisAt.below {w w' : World} {lo hi lo' hi' B : Nat} {a : Option Addr} {l : List (ByteArray × ByteArray × ByteArray)} (h : TrisAt w lo hi a l) (hb : Below B w w') (hB : hi ≤ B) (h1 : lo' ≤ lo) (h2 : hi ≤ hi') : TrisAt w' lo' hi' a l :=
 h.carry h1 h2 fun b _ hlt => hb.block b (by omega)
section
variable {H : Type} {enc : TypeId × Value → H} {P : Program} {w : World} {spare : Nat → Bool} {held : Bool}
end
end Go.Proofs.YtnlgmcapbbgelaaGreatDoor

namespace Go.Proofs.YtnlgmcapbbgelaaGreatDoor
open Go
section
variable {P : Program} {ops : Array Oper} {md : Region.Mode} {Q : Exit → Act → World → Prop}
def downB (md : Region.Mode) (ops : Array Oper) (n : Nat) : Bool :=
 (List.range n).all fun i => match ops[i]? with
   | some o => o.after.all fun e => !(Region.binds md e) || decide (e.on < i)
   | none => false
def waited (md : Region.Mode) (ops : Array Oper) (d : Nat → Prop) (i : Nat) : Prop :=
 ∀ o, ops[i]? = some o → ∀ e ∈ o.after, Region.binds md e = true → d e.on
def doneOf (listed : Array Bool) : Nat → Prop := fun i => listed.getD i false = true
theorem doneOf_set {listed : Array Bool} {i : Nat} (hi : i < listed.size) : doneOf (listed.setIfInBounds i true) = fun j => j = i ∨ doneOf listed j := by
 funext j
 apply propext
 unfold doneOf
 by_cases h : i = j
 · subst h
   simp [hi]
 · rw [getD_set_ne false h]
   constructor
   · exact .inr
   · rintro (e | e)
     · exact absurd e.symm h
     · exact e
theorem ready_some {n : Nat} {listed : Array Bool} (hd : downB md ops n = true) (inv : HeadInv md ops n listed) (hn : n < ops.size) :
   ∀ i, i < n → listed.getD i false = false → Region.ready md ops listed ≠ [] := by
 intro i
 induction i using Nat.strongRecOn with
 | _ i ih =>
   intro hi hun h0
   have h1 := List.all_eq_true.1 hd i (List.mem_range.2 hi)
   cases ho : ops[i]? with
   | none => rw [ho] at h1; cases h1
   | some o =>
     rw [ho] at h1
     by_cases hall : ∀ e ∈ o.after, Region.binds md e = true → listed.getD e.on false = true
     · have : i ∈ Region.ready md ops listed := mem_ready.2 ⟨getD_in (by rw [inv.size]; omega) hun, o, ho, hall⟩
       rw [h0] at this
       cases this
     · have : ∃ e, e ∈ o.after ∧ Region.binds md e = true ∧ listed.getD e.on false = false := by
         apply Classical.byContradiction
         intro hne
         apply hall
         intro e he hb
         cases hl : listed.getD e.on false with
         | true => rfl
         | false => exact absurd ⟨e, he, hb, hl⟩ hne
       obtain ⟨e, he, hb, hl⟩ := this
       have h2 := Array.all_eq_true'.1 h1 e he
       simp only [hb, Bool.not_true, Bool.false_or, decide_eq_true_eq] at h2
       exact ih e.on h2 (by omega) hl h0
def openOf (n : Nat) (listed : Array Bool) : Nat := ((List.range n).filter fun i => !(listed.getD i false)).length
theorem filter_set_len (listed : Array Bool) (i : Nat) (hl : listed.getD i false = false) (hs : i < listed.size) : ∀ n,
   ((List.range n).filter fun j => !((listed.setIfInBounds i true).getD j false)).length + (if i < n then 1 else 0) = ((List.range n).filter fun j => !(listed.getD j false)).length := by
 intro n
 induction n with
 | zero => simp
 | succ n ih =>
   rw [List.range_succ, List.filter_append, List.filter_append, List.length_append, List.length_append, ← ih]
   by_cases h : i = n
   · subst h
     have e1 : (listed.setIfInBounds i true).getD i false = true := by simp [hs]
     simp only [List.filter_cons, List.filter_nil, e1, hl]
     simp
   · have e : (if i < n + 1 then 1 else 0) = (if i < n then 1 else 0) := by
       by_cases h2 : i < n
       · rw [if_pos h2, if_pos (Nat.lt_succ_of_lt h2)]
       · rw [if_neg h2, if_neg (fun h3 => h2 (by omega))]
     rw [e]
     simp only [List.filter_cons, List.filter_nil]
     rw [getD_set_ne false h]
     omega
theorem openOf_set {n i : Nat} {listed : Array Bool} (hi : i < n) (hs : i < listed.size) (hl : listed.getD i false = false) : openOf n (listed.setIfInBounds i true) + 1 = openOf n listed := by
 have := filter_set_len listed i hl hs n
 rw [if_pos hi] at this
 exact this
theorem openOf_zero {n : Nat} {listed : Array Bool} (h : openOf n listed = 0) : ∀ i, i < n → listed.getD i false = true := by
 intro i hi
 unfold openOf at h
 rw [List.length_eq_zero_iff, List.filter_eq_nil_iff] at h
 have := h i (List.mem_range.2 hi)
 simpa using this
theorem openOf_pos {n : Nat} {listed : Array Bool} (h : 0 < openOf n listed) : ∃ i, i < n ∧ listed.getD i false = false := by
 unfold openOf at h
 obtain ⟨i, hi⟩ := List.exists_mem_of_length_pos h
 rw [List.mem_filter] at hi
 exact ⟨i, List.mem_range.1 hi.1, by simpa using hi.2⟩
theorem wpAny_inv {n g : Nat} (I : (Nat → Prop) → Act → World → Prop)
   (hs : Region.sinkB md ops n = true) (hc : Region.chainB md ops n = true) (hn : n < ops.size) (hd : downB md ops n = true)
   (step : ∀ d a w, I d a w → ∀ i, i < n → ¬ d i → waited md ops d i → wpOp P ops Q i (I (fun j => j = i ∨ d j)) a w)
   (last : ∀ listed a w, HeadInv md ops n listed → (∀ i, i < n → listed.getD i false = true) → I (doneOf listed) a w → wpAny P md ops Q g listed a w) :
   ∀ (f : Nat) (listed : Array Bool) (a : Act) (w : World), HeadInv md ops n listed → openOf n listed = f → I (doneOf listed) a w → wpAny P md ops Q (f + g) listed a w
 | 0, listed, a, w, inv, h0, h => by rw [Nat.zero_add]; exact last listed a w inv (openOf_zero h0) h
 | f + 1, listed, a, w, inv, h0, h => by
   rw [show f + 1 + g = (f + g) + 1 by omega]
   obtain ⟨i, hi, hl⟩ := openOf_pos (n := n) (listed := listed) (by omega)
   refine ⟨fun h1 => absurd h1 (ready_some hd inv hn i hi hl), fun j hj => ?_⟩
   have hjn : j < n := by
     rcases Nat.lt_or_ge j n with h | h
     · exact h
     · exact absurd hj (tail_waits hs hc hn inv _ i rfl hi (getD_in (by rw [inv.size]; omega) hl) j h)
   obtain ⟨hun, oj, hoj, hall⟩ := mem_ready.1 hj
   have hjs : j < listed.size := by rw [inv.size]; omega
   have hun' := getD_both hun
   refine wpOp_mono (fun a' w' h' => wpAny_inv I hs hc hn hd step last f _ a' w' (inv.set hj hjn) ?_ ?_) (step (doneOf listed) a w h j hjn ?_ ?_)
   · have := openOf_set hjn hjs hun'; omega
   · rw [doneOf_set hjs]; exact h'
   · unfold doneOf; rw [hun']; simp
   · intro o ho e he hb
     have : o = oj := Option.some.inj (ho.symm.trans hoj)
     subst this
     exact hall e he hb
def headFull (n m : Nat) : Array Bool := ((List.range m).map fun i => decide (i < n)).toArray
theorem headFull_of {n : Nat} {listed : Array Bool} (inv : HeadInv md ops n listed) (h : ∀ i, i < n → listed.getD i false = true) : listed = headFull n ops.size := by
 apply Array.ext
 · simp [headFull, inv.size]
 · intro i h1 h2
   by_cases hi : i < n
   · have := h i hi
     simp [headFull, hi]
     simpa [h1] using this
   · have := getD_both (inv.tail i (by omega) (by rw [← inv.size]; exact h1))
     simp [headFull, hi]
     simpa [h1] using this
theorem wp_region_inv {id : Nat} {a : Act} {w : World} {l : List Oper} (n : Nat) (I : (Nat → Prop) → Act → World → Prop) (hm : P.follows .mixedOrders = true)
   (hB : (decide (n < l.length) && Region.sinkB .any l.toArray n && Region.chainB .any l.toArray n && downB .any l.toArray n && Region.seqB .any l.toArray (l.length - n) n (headFull n l.length)) = true)
   (first : I (fun _ => False) a { w with drawn := w.drawn + 1 })
   (step : ∀ d a w, I d a w → ∀ i, i < n → ¬ d i → waited .any l.toArray d i → wpOp P l.toArray Q i (I (fun j => j = i ∨ d j)) a w)
   (last : ∀ d a w, (∀ i, i < n → d i) → I d a w → wpList P l.toArray Q (l.drop n) a w) : (Code.region id l.toArray true).wp P Q a w := by
 simp only [Bool.and_eq_true, decide_eq_true_eq] at hB
 obtain ⟨⟨⟨⟨hn, hs⟩, hc⟩, hd⟩, hq⟩ := hB
 refine wp_region_any hm ?_
 have inv0 : HeadInv .any l.toArray n (Array.replicate l.toArray.size false) :=
   ⟨by simp, fun j oj _ hl => (by rw [getD_replicate_false] at hl; cases hl), fun t _ ht => getD_in (by simpa using ht) (getD_replicate_false _ _)⟩
 have h0 : doneOf (Array.replicate l.toArray.size false) = fun _ => False := by
   funext i; unfold doneOf; rw [getD_replicate_false]; simp
 have hz : openOf n (Array.replicate l.toArray.size false) = n := by
   unfold openOf
   rw [List.filter_eq_self.2 (fun i _ => by rw [getD_replicate_false]; rfl), List.length_range]
 have hdl : (l.drop n).length = l.length - n := by simp
 have := wpAny_inv (P := P) (Q := Q) (g := l.length - n) I hs hc (by simpa using hn) hd step (fun listed a' w' inv hall hI => by
   have hf := headFull_of inv hall
   have hr := last (doneOf listed) a' w' hall hI
   have := wpAny_of_seq (md := .any) (Q' := Q) (l.drop n) n listed a' w' (fun j => by simp [List.getElem?_drop]) (by rw [hdl, hf]; simpa using hq) hr
   rwa [hdl] at this) n _ a { w with drawn := w.drawn + 1 } inv0 hz (by rw [h0]; exact first)
 rw [show n + (l.length - n) = l.toArray.size by simp; omega] at this
 exact this
end
end Go.Proofs.YtnlgmcapbbgelaaGreatDoor

namespace Go.Proofs.YtnlgmcapbbgelaaGreatDoor
open Go.RowKit
def Room (w : World) (b off m : Nat) : Prop := ∃ cs t, w.heap[b]? = some (.cells cs t (0, 0)) ∧ off + m ≤ cs.size
theorem Room.cell {w : World} {b off m : Nat} (h : Room w b off m) (j : Nat) (hj : j < off + m) : ∃ v, w.cell? ⟨b, j, none⟩ = some v := by
 obtain ⟨cs, t, h1, h2⟩ := h
 exact ⟨cs[j]'(by omega), by simp [World.cell?, h1, Array.getElem?_eq_getElem (show j < cs.size by omega)]⟩
theorem Room.frozen {w : World} {b off m : Nat} (h : Room w b off m) (j : Nat) : w.frozen? ⟨b, j, none⟩ = false := by
 obtain ⟨cs, t, h1, h2⟩ := h
 simp [World.frozen?, h1]
theorem Room.set {w : World} {b off m : Nat} (h : Room w b off m) (j : Nat) (v : Value) : Room (w.setCell ⟨b, j, none⟩ v) b off m := by
 obtain ⟨cs, t, h1, h2⟩ := h
 exact ⟨cs.setIfInBounds j v, t, by simp [World.setCell, Array.getElem?_modify, h1], by simpa using h2⟩
theorem Room.of_block {w w' : World} {b off m : Nat} (h : Room w b off m) (e : w'.heap[b]? = w.heap[b]?) : Room w' b off m := by
 obtain ⟨cs, t, h1, h2⟩ := h
 exact ⟨cs, t, by rw [e]; exact h1, h2⟩
theorem Room.lt {w : World} {b off m : Nat} (h : Room w b off m) : b < w.heap.size := by
 obtain ⟨cs, t, h1, h2⟩ := h
 exact (Array.getElem?_eq_some_iff.1 h1).1
theorem ValsAt.room {w : World} {lo hi : Nat} {a : Option Addr} {l : List JV} (h : ValsAt w lo hi a l) (hlo : 0 < lo) :
   l.length = 0 ∨ ∃ b off, a = some ⟨b, off, none⟩ ∧ lo ≤ b ∧ b < hi ∧ Room w b off (l.length * 5) := by
 rcases h with h | ⟨b, off, ha, hb, hb', hu, hr⟩
 · exact .inl (by rw [h]; rfl)
 · by_cases h0 : l.length = 0
   · exact .inl h0
   · refine .inr ⟨b, off, ha, hb, hb', ?_⟩
     obtain ⟨cs, t, fr, h1, h2⟩ := hu
     rw [h2 hlo] at h1
     refine ⟨cs, t, h1, ?_⟩
     obtain ⟨c0, c1, c2, c3, c4, _, _, _, _, e4, _⟩ := hr.at (l.length - 1) (by omega)
     simp only [World.cell?, h1] at e4
     have := (Array.getElem?_eq_some_iff.1 (by simpa using e4)).1
     omega
def SpoilRel (B p n : Nat) (ai : Option Addr) (W : World) (i : Value) (wr : World) : Prop :=
 ∃ q : Nat, q ≤ n ∧ i = .int .i64 q ∧ Touch (fun k => B ≤ k ∧ k < p) W wr ∧ (n = 0 ∨ ∃ b off, ai = some ⟨b, off, none⟩ ∧ B ≤ b ∧ b < p ∧ Room wr b off (n * 5))
theorem SpoilRel.set {B p n : Nat} {W wr : World} {b off q : Nat} {v0 v1 v2 v3 v4 : Value} (hq : q < n) (ht : Touch (fun k => B ≤ k ∧ k < p) W wr) (hb : B ≤ b) (hb' : b < p) (hr : Room wr b off (n * 5)) :
   SpoilRel B p n (some ⟨b, off, none⟩) W (.int .i64 ((q : Int) + 1)) (((((wr.setCell ⟨b, off + q * 5, none⟩ v0).setCell ⟨b, off + q * 5 + 1, none⟩ v1).setCell ⟨b, off + q * 5 + 2, none⟩ v2).setCell ⟨b, off + q * 5 + 3, none⟩ v3).setCell ⟨b, off + q * 5 + 4, none⟩ v4) :=
 ⟨q + 1, by omega, by simp, ((((ht.setCell (.inl ⟨hb, hb'⟩) _).setCell (.inl ⟨hb, hb'⟩) _).setCell (.inl ⟨hb, hb'⟩) _).setCell (.inl ⟨hb, hb'⟩) _).setCell (.inl ⟨hb, hb'⟩) _, .inr ⟨b, off, rfl, hb, hb', ((((hr.set _ _).set _ _).set _ _).set _ _).set _ _⟩⟩
theorem infoKey : (Tryz.prog.info? 38).map (fun i => (i.zero, i.size, i.bytes)) = some (some (.agg #[.string { data := #[] }, .string { data := #[] }]), 2, 32) := by kernel_rfl
structure MP where
 p : World → Value → Prop
 mono : ∀ (w w' : World) (x : Value), Below w.heap.size w w' → p w x → p w' x
def MP.con (v : Value) : MP := ⟨fun _ x => x = v, fun _ _ _ _ h => h⟩
def MP.any : MP := ⟨fun _ _ => True, fun _ _ _ _ h => h⟩
def IsRow (B n T : Nat) (cs : Array Value) (w : World) (x : Value) : Prop := ∃ b, B ≤ b ∧ x = .slice (some ⟨b, 0, none⟩) n n ∧ w.heap[b]? = some (.cells cs T (0, 0))
theorem IsRow.mono {B n T : Nat} {cs : Array Value} {w w' : World} {x : Value} (hb : Below w.heap.size w w') (h : IsRow B n T cs w x) : IsRow B n T cs w' x := by
 obtain ⟨b, h1, h2, h3⟩ := h
 exact ⟨b, h1, h2, by rw [hb.block _ (heap_lt h3)]; exact h3⟩
theorem IsRow.made {w : World} {B n T : Nat} (cs : Array Value) (hB : B ≤ w.heap.size) : IsRow B n T cs (w.alloc (.cells cs T)) (.slice (some ⟨w.heap.size, 0, none⟩) n n) := ⟨_, hB, rfl, heap_alloc_new w _⟩
def MP.row (B n T : Nat) (cs : Array Value) : MP := ⟨IsRow B n T cs, fun _ _ _ hb h => h.mono hb⟩
def IsObj (B T1 T2 : Nat) (n1 n2 : Array Value) (w : World) (x : Value) : Prop := ∃ y z, x = .agg #[.int .u8 5, .int .i64 0, .string { data := #[] }, y, z] ∧ IsRow B 2 T1 n1 w y ∧ IsRow B 2 T2 n2 w z
def MP.obj (B T1 T2 : Nat) (n1 n2 : Array Value) : MP := ⟨IsObj B T1 T2 n1 n2, fun _ _ _ hb ⟨y, z, h1, h2, h3⟩ => ⟨y, z, h1, h2.mono hb, h3.mono hb⟩⟩
def IsOne (B T T1 T2 : Nat) (n1 n2 : Array Value) (w : World) (x : Value) : Prop := ∃ y z, IsRow B 1 T #[.int .u8 5, .int .i64 0, .string { data := #[] }, y, z] w x ∧ IsRow B 2 T1 n1 w y ∧ IsRow B 2 T2 n2 w z
def MP.one (B T T1 T2 : Nat) (n1 n2 : Array Value) : MP := ⟨IsOne B T T1 T2 n1 n2, fun _ _ _ hb ⟨y, z, h1, h2, h3⟩ => ⟨y, z, h1.mono hb, h2.mono hb, h3.mono hb⟩⟩
def RegI (wb : World) (V : List MP) (d : Nat → Prop) (w' : World) (xs : List Value) : Prop :=
 Below wb.heap.size wb w' ∧ xs.length = V.length ∧ ∀ (j : Nat) (m : MP) (x : Value), V[j]? = some m → xs[j]? = some x → d j → m.p w' x
theorem RegI.first (wb : World) (V : List MP) (xs : List Value) (h : xs.length = V.length) : RegI wb V (fun _ => False) wb.drew xs := ⟨(Below.refl _ _).drew, h, fun _ _ _ _ _ hd => hd.elim⟩
theorem RegI.get {wb w' : World} {V : List MP} {d : Nat → Prop} {xs : List Value} (h : RegI wb V d w' xs) (j : Nat) (hd : d j) (m : MP) (hV : V[j]? = some m) (x : Value) (hx : xs[j]? = some x) : m.p w' x := h.2.2 j m x hV hx hd
theorem RegI.did {wb w' w'' : World} {V : List MP} {d : Nat → Prop} {xs : List Value} (h : RegI wb V d w' xs) (hb : Below w'.heap.size w' w'') (j : Nat) (y : Value) (m : MP) (hV : V[j]? = some m) (hy : m.p w'' y) : RegI wb V (fun i => i = j ∨ d i) w'' (xs.set j y) := by
 refine ⟨h.1.trans (hb.mono h.1.size), by rw [List.length_set]; exact h.2.1, fun i m' x hm hx hd => ?_⟩
 by_cases e : i = j
 · subst e
   rw [hV] at hm
   cases hm
   have hl : i < xs.length := by rw [h.2.1]; exact (List.getElem?_eq_some_iff.1 hV).1
   rw [List.getElem?_set_self hl] at hx
   cases hx
   exact hy
 · rw [List.getElem?_set_ne (Ne.symm e)] at hx
   exact m'.mono _ _ _ hb (h.2.2 i m' x hm hx (hd.resolve_left e))
theorem RegI.same {wb w' : World} {V : List MP} {d : Nat → Prop} {xs : List Value} (h : RegI wb V d w' xs) (j : Nat) (y : Value) (m : MP) (hV : V[j]? = some m) (hy : m.p w' y) : RegI wb V (fun i => i = j ∨ d i) w' (xs.set j y) := h.did (Below.refl _ _) j y m hV hy
theorem RegI.new {wb w' : World} {V : List MP} {d : Nat → Prop} {xs : List Value} (h : RegI wb V d w' xs) (o : Obj) (j : Nat) (y : Value) (m : MP) (hV : V[j]? = some m) (hy : m.p (w'.alloc o) y) : RegI wb V (fun i => i = j ∨ d i) (w'.alloc o) (xs.set j y) := h.did ((Below.refl _ _).alloc (Nat.le_refl _) _) j y m hV hy
end Go.Proofs.YtnlgmcapbbgelaaGreatDoor
