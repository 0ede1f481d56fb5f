/- An index out of any int: 'int(uint(n) % uint(m))'. No program in sight. -/
import Derived.Test.YtgghgcilpfdbjaaGreatDoorSu02
import Derived.Test.YtgghgcilpfdbjaaGreatDoorSu00
import Derived.Deep.OwnRows
import Derived.Laws.BitsAllLaws
import GoSem.Core.Utf8
import Derived.Test.YtgghgcilpfdbjaaGreatDoorSu01

namespace Go.Proofs.YtgghgcilpfdbjaaGreatDoor
theorem wp_region_free {P : Program} {Q : Exit → Act → World → Prop} {id : Nat} {a : Act} {w : World} {l : List Oper} (n k : Nat) (I : (Nat → Prop) → Act → World → Prop) (F : Prop → Act → World → Prop) (hm : P.follows .mixedOrders = true)
   (hB : (decide (n + 1 < l.length) && Region.sinkB .any l.toArray (n + 1) && Region.chainB .any l.toArray (n + 1) && downB .any l.toArray (n + 1) && Region.seqB .any l.toArray (l.length - (n + 1)) (n + 1) (headFull (n + 1) l.length)) = true)
   (hW : (decide (k < n) && (List.range n).all fun i => decide (i = k) || Region.waitsFor .any l.toArray n i) = true)
   (first : I (fun _ => False) a { w with drawn := w.drawn + 1 })
   (step : ∀ d a w, I d a w → ∀ i, i < n → ¬ d i → waited .any l.toArray d i → wpOp P l.toArray Q i (I (fun j => j = i ∨ d j)) a w)
   (store : ∀ d a w, I d a w → (∀ i, i < n → i ≠ k → d i) → wpOp P l.toArray Q n (F (d k)) a w)
   (late : ∀ a w, F False a w → wpOp P l.toArray Q k (F True) a w)
   (last : ∀ a w, F True a w → wpList P l.toArray Q (l.drop (n + 1)) a w) : (Code.region id l.toArray true).wp P Q a w := by
 simp only [Bool.and_eq_true, decide_eq_true_eq] at hW
 obtain ⟨hkn, hW⟩ := hW
 refine wp_region_inv (n + 1) (fun d a w => (¬ d n ∧ I d a w) ∨ (d n ∧ (∀ i, i < n → i ≠ k → d i) ∧ F (d k) a w)) hm hB (.inl ⟨fun h => h, first⟩) ?_ ?_
 · intro d a w h i hi hnd hw
   rcases h with ⟨h1, h2⟩ | ⟨h1, h2, h3⟩
   · by_cases e : i = n
     · subst e
       refine wpOp_mono (fun a' w' h' => .inr ⟨.inl rfl, fun j hj hjk => .inr ?_, ?_⟩) (store d a w h2 ?_)
       · have := List.all_eq_true.1 hW j (List.mem_range.2 hj)
         rw [decide_eq_false hjk, Bool.false_or] at this
         obtain ⟨o, ho, e, he, hb, heo⟩ := Region.waitsFor_spec this
         have := hw o ho e he hb
         rwa [heo] at this
       · have e : (k = i ∨ d k) = d k := propext ⟨fun h => h.elim (fun h => by omega) (fun h => h), .inr⟩
         show F (k = i ∨ d k) a' w'
         rw [e]; exact h'
       · intro j hj hjk
         have := List.all_eq_true.1 hW j (List.mem_range.2 hj)
         rw [decide_eq_false hjk, Bool.false_or] at this
         obtain ⟨o, ho, e, he, hb, heo⟩ := Region.waitsFor_spec this
         have := hw o ho e he hb
         rwa [heo] at this
     · exact wpOp_mono (fun a' w' h' => .inl ⟨fun h => h.elim (fun h => e h.symm) h1, h'⟩) (step d a w h2 i (by omega) hnd hw)
   · by_cases e : i = n
     · subst e; exact absurd h1 hnd
     by_cases e2 : i = k
     · subst e2
       have ef : d i = False := propext ⟨hnd, False.elim⟩
       rw [ef] at h3
       refine wpOp_mono (fun a' w' h' => .inr ⟨.inr h1, fun j hj hjk => .inr (h2 j hj hjk), ?_⟩) (late a w h3)
       have et : (i = i ∨ d i) = True := propext ⟨fun _ => trivial, fun _ => .inl rfl⟩
       show F (i = i ∨ d i) a' w'
       rw [et]; exact h'
     · exact absurd (h2 i (by omega) e2) hnd
 · intro d a w hall h
   rcases h with ⟨h1, _⟩ | ⟨_, _, h3⟩
   · exact absurd (hall n (by omega)) h1
   · have et : d k = True := propext ⟨fun _ => trivial, fun _ => hall k (by omega)⟩
     rw [et] at h3
     exact last a w h3
end Go.Proofs.YtgghgcilpfdbjaaGreatDoor

namespace Go.Proofs.YtgghgcilpfdbjaaGreatDoor
open Go.RowKit
def rotr (x : Int) (n : Nat) : Int := x % 2 ^ n * 2 ^ (32 - n) + x / 2 ^ n
def bxor (a b : Int) : Int := bits .xor .u32 a b
def band (a b : Int) : Int := bits .and .u32 a b
def bnot (a : Int) : Int := bits .xor .u32 IntKind.u32.max a
def wadd (a b : Int) : Int := (a + b) % 4294967296
def bg1 (x : Int) : Int := bxor (bxor (rotr x 6) (rotr x 11)) (rotr x 25)
def chc (e f g : Int) : Int := bxor (band e f) (band (bnot e) g)
structure S8 where
 (a b c d e f g h : Int)
def S8.at (s : S8) : Nat → Int
 | 0 => s.a | 1 => s.b | 2 => s.c | 3 => s.d | 4 => s.e | 5 => s.f | 6 => s.g | _ => s.h
def first (k x : Int) (s : S8) : Int := wadd (wadd (wadd (wadd s.h (bg1 s.e)) (chc s.e s.f s.g)) k) x
def S8.add (s t : S8) : S8 := ⟨wadd s.a t.a, wadd s.b t.b, wadd s.c t.c, wadd s.d t.d, wadd s.e t.e, wadd s.f t.f, wadd s.g t.g, wadd s.h t.h⟩
def w32 (x : Int) : Prop := 0 ≤ x ∧ x < 4294967296
def S8.ok (s : S8) : Prop := w32 s.a ∧ w32 s.b ∧ w32 s.c ∧ w32 s.d ∧ w32 s.e ∧ w32 s.f ∧ w32 s.g ∧ w32 s.h
def byteI (l : List UInt8) (i : Nat) : Int := ((l.getD i 0).toNat : Int)
theorem byteI_bd (l : List UInt8) (i : Nat) : 0 ≤ byteI l i ∧ byteI l i ≤ 255 := by
 unfold byteI; have := (l.getD i 0).toNat_lt; omega
def u8 (i : Int) : UInt8 := UInt8.ofNat i.toNat
def begStep (l : List UInt8) (x : Int) : Nat → Option (Int × Int)
 | 0 => some (x, x)
 | i + 1 => match begStep l x i with
   | none => none
   | some (lo, hi) => if i + 1 < l.length then (if byteI l (i + 1) < 128 ∨ 191 < byteI l (i + 1) then none else some (64 * lo + (byteI l (i + 1) - 128), 64 * hi + (byteI l (i + 1) - 128))) else some (64 * lo, 64 * hi + 63)
def begOff (size : Nat) : Int := if size = 2 then 192 else if size = 3 then 224 else 240
def begLeast (size : Nat) : Int := if size = 2 then 128 else if size = 3 then 2048 else 65536
def begEnd (lo hi least : Int) : Bool := if 55296 ≤ max lo least ∧ min hi 1114111 ≤ 57343 then false else decide (max lo least ≤ min hi 1114111)
def beginsB (l : List UInt8) (size : Nat) : Bool := match begStep l (byteI l 0 - begOff size) (size - 1) with
 | none => false
 | some (lo, hi) => begEnd lo hi (begLeast size)
theorem begStep_none (l : List UInt8) (x : Int) (i : Nat) (h : begStep l x i = none) : ∀ j, begStep l x (i + j) = none
 | 0 => h
 | j + 1 => by rw [← Nat.add_assoc, begStep, begStep_none l x i h j]
abbrev full2 (b0 b1 : Nat) : Prop := b1 / 64 = 2 ∧ 128 ≤ (b0 - 192) * 64 + (b1 - 128)
abbrev full3 (b0 b1 b2 : Nat) : Prop := b1 / 64 = 2 ∧ b2 / 64 = 2 ∧ 2048 ≤ (b0 - 224) * 4096 + (b1 - 128) * 64 + (b2 - 128) ∧ ((b0 - 224) * 4096 + (b1 - 128) * 64 + (b2 - 128) < 55296 ∨ 57343 < (b0 - 224) * 4096 + (b1 - 128) * 64 + (b2 - 128))
abbrev full4 (b0 b1 b2 b3 : Nat) : Prop := b1 / 64 = 2 ∧ b2 / 64 = 2 ∧ b3 / 64 = 2 ∧ 65536 ≤ (b0 - 240) * 262144 + (b1 - 128) * 4096 + (b2 - 128) * 64 + (b3 - 128) ∧ (b0 - 240) * 262144 + (b1 - 128) * 4096 + (b2 - 128) * 64 + (b3 - 128) ≤ 1114111
theorem beg2 (a b : UInt8) (h : 192 ≤ a.toNat ∧ a.toNat < 224) : (beginsB [a, b] 2 = true ↔ full2 a.toNat b.toNat) ∧ (full2 a.toNat b.toNat → beginsB [a] 2 = true) := by
 have := b.toNat_lt
 unfold full2 beginsB begEnd begLeast begOff
 simp only [Nat.reduceSub, begStep, byteI, List.length_cons, List.length_nil, List.getD_cons_zero, List.getD_cons_succ, if_true]
 constructor
 · by_cases g : (b.toNat : Int) < 128 ∨ 191 < (b.toNat : Int)
   · simp [g]; omega
   · simp [g]; omega
 · intro h; simp; omega
theorem begEnd_iff (lo hi least : Int) : begEnd lo hi least = true ↔ ¬ (55296 ≤ max lo least ∧ min hi 1114111 ≤ 57343) ∧ max lo least ≤ min hi 1114111 := by
 unfold begEnd; split <;> simp_all
theorem beg3 (a b c : UInt8) (h : 224 ≤ a.toNat ∧ a.toNat < 240) : (beginsB [a, b, c] 3 = true ↔ full3 a.toNat b.toNat c.toNat) ∧ (full3 a.toNat b.toNat c.toNat → beginsB [a] 3 = true ∧ beginsB [a, b] 3 = true) := by
 have hb := b.toNat_lt
 have hc := c.toNat_lt
 unfold full3 beginsB begLeast begOff
 simp only [Nat.reduceSub, begStep, byteI, List.length_cons, List.length_nil, List.getD_cons_zero, List.getD_cons_succ]
 generalize a.toNat = x at *
 generalize b.toNat = y at *
 generalize c.toNat = z at *
 by_cases g1 : (y : Int) < 128 ∨ 191 < (y : Int)
 · simp [g1]; omega
 · by_cases g2 : (z : Int) < 128 ∨ 191 < (z : Int)
   · simp [g1, g2]; omega
   · simp only [Nat.reduceAdd, Nat.reduceLT, if_true, g1, g2, if_false, begEnd_iff, show ¬ (3 : Nat) = 2 by decide]
     constructor
     · constructor
       · intro h; omega
       · intro h; omega
     · intro h; constructor <;> omega
theorem beg4 (a b c d : UInt8) (h : 240 ≤ a.toNat ∧ a.toNat ≤ 247) : (beginsB [a, b, c, d] 4 = true ↔ full4 a.toNat b.toNat c.toNat d.toNat) ∧ (full4 a.toNat b.toNat c.toNat d.toNat → beginsB [a] 4 = true ∧ beginsB [a, b] 4 = true ∧ beginsB [a, b, c] 4 = true) := by
 have hb := b.toNat_lt
 have hc := c.toNat_lt
 have hd := d.toNat_lt
 unfold full4 beginsB begLeast begOff
 simp only [Nat.reduceSub, begStep, byteI, List.length_cons, List.length_nil, List.getD_cons_zero, List.getD_cons_succ]
 generalize a.toNat = x at *
 generalize b.toNat = y at *
 generalize c.toNat = z at *
 generalize d.toNat = u at *
 by_cases g1 : (y : Int) < 128 ∨ 191 < (y : Int)
 · simp [g1]; omega
 · by_cases g2 : (z : Int) < 128 ∨ 191 < (z : Int)
   · simp [g1, g2]; omega
   · by_cases g3 : (u : Int) < 128 ∨ 191 < (u : Int)
     · simp [g1, g2, g3]; omega
     · simp only [Nat.reduceAdd, Nat.reduceLT, if_true, g1, g2, g3, if_false, begEnd_iff, show ¬ (4 : Nat) = 2 by decide, show ¬ (4 : Nat) = 3 by decide]
       constructor
       · constructor
         · intro h; omega
         · intro h; omega
       · intro h; refine ⟨?_, ?_, ?_⟩ <;> omega
theorem ix_mod (n : Int) : IntKind.u64.wrap n = n % 18446744073709551616 := by
 simp [IntKind.wrap, IntKind.bits, IntKind.signed]
theorem ix_at (a : Int) (n : Nat) (h0 : 0 < n) (h : n ≤ 9223372036854775807) : ∃ i : Nat, i < n ∧ wrap64 ((IntKind.u64.wrap a).tmod (n : Int)) = (i : Int) ∧ IntKind.i64.wrap ((IntKind.u64.wrap a).tmod (n : Int)) = (i : Int) := by
 rw [ix_mod]
 have h0 : 0 ≤ a % 18446744073709551616 := Int.emod_nonneg _ (by decide)
 have h1 : 0 ≤ (a % 18446744073709551616).tmod (n : Int) := Int.tmod_nonneg _ h0
 have h2 : (a % 18446744073709551616).tmod (n : Int) < (n : Int) := Int.tmod_lt_of_pos _ (by omega)
 refine ⟨((a % 18446744073709551616).tmod (n : Int)).toNat, by omega, by unfold wrap64; omega, ?_⟩
 rw [IntWalk.i64_in _ (by omega)]; omega
end Go.Proofs.YtgghgcilpfdbjaaGreatDoor
