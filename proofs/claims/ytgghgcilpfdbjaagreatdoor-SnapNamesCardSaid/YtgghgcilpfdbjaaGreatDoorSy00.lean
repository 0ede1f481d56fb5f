/- The contracts of when.leap, leaps, start, upTo, Days and digits. -/
import Derived.Below
import Derived.Laws.Strings
import Derived.Test.YtgghgcilpfdbjaaGreatDoorProg
import Derived.WalkKit
import Derived.ProofKit
import Derived.OpenShut
import Derived.ChangeSame
import Derived.SliceStrings
import Derived.Deep.Slices
import Derived.Lib.SmallJoins
import Derived.Carry
import Derived.Deep.OwnRows
import Derived.Deep.Draws
import Derived.Lib.Hide
import Derived.Lib.ItoaNum
import Derived.BigQuiet
import Derived.Deep.RegionHeld3
import Derived.Deep.QuietTactic
import Derived.Outline
import Derived.WalkSpells
import Derived.WalkLawsBesides
import Derived.Deep.Cut

namespace Go.Proofs.YtgghgcilpfdbjaaGreatDoor
open Go.RowKit
def isHex (c : UInt8) : Bool := decide ((48 ≤ c.toNat ∧ c.toNat ≤ 57) ∨ (97 ≤ c.toNat ∧ c.toNat ≤ 102))
def hexN (c : UInt8) : Int := if 48 ≤ c.toNat ∧ c.toNat ≤ 57 then (c.toNat : Int) - 48 else if 97 ≤ c.toNat ∧ c.toNat ≤ 102 then (c.toNat : Int) - 97 + 10 else 0
def nameC (c : UInt8) : Bool :=
 decide ((97 ≤ c.toNat ∧ c.toNat ≤ 122) ∨ (65 ≤ c.toNat ∧ c.toNat ≤ 90) ∨ (48 ≤ c.toNat ∧ c.toNat ≤ 57) ∨ c.toNat = 46 ∨ c.toNat = 95 ∨ c.toNat = 45)
def allHex (l : List UInt8) : Bool := l.all isHex
def roleOk (l : List UInt8) : Bool := decide (1 ≤ l.length ∧ l.length ≤ 64) && !(l.headD 0 == 46) && l.all nameC
def pubOk (l : List UInt8) : Bool := decide (2 ≤ l.length ∧ l.length ≤ 128 ∧ l.length % 2 = 0) && allHex l
theorem ret_bool {a b : Bool} (h : a = b) : Ending.returned (.bool a) = .returned (.bool b) := by rw [h]
theorem ret_int {k : IntKind} {a b : Int} (h : a = b) : Ending.returned (.int k a) = .returned (.int k b) := by rw [h]
theorem ret_ib {k : IntKind} {a b : Int} {x y : Bool} (h : a = b) (h' : x = y) : Ending.returned (.tuple #[.int k a, .bool x]) = .returned (.tuple #[.int k b, .bool y]) := by rw [h, h']
theorem hexN_dig {c : UInt8} (h : 48 ≤ (c.toNat : Int)) (h' : (c.toNat : Int) ≤ 57) : hexN c = (c.toNat : Int) - 48 ∧ isHex c = true := by
 unfold hexN isHex; rw [if_pos (by omega)]; exact ⟨rfl, by simp; omega⟩
theorem hexN_let {c : UInt8} (h : 97 ≤ (c.toNat : Int)) (h' : (c.toNat : Int) ≤ 102) : hexN c = (c.toNat : Int) - 97 + 10 ∧ isHex c = true := by
 unfold hexN isHex; rw [if_neg (by omega), if_pos (by omega)]; exact ⟨rfl, by simp; omega⟩
theorem hexN_no {c : UInt8} (h : ¬ (48 ≤ (c.toNat : Int) ∧ (c.toNat : Int) ≤ 57)) (h' : ¬ (97 ≤ (c.toNat : Int) ∧ (c.toNat : Int) ≤ 102)) : hexN c = 0 ∧ isHex c = false := by
 unfold hexN isHex; rw [if_neg (by omega), if_neg (by omega)]; exact ⟨rfl, by simp; omega⟩
theorem toList_get (s : ByteArray) (k : Nat) (h : k < s.size) : s.data.toList[k]'(by simpa using h) = s[k] := rfl
theorem toList_length (s : ByteArray) : s.data.toList.length = s.size := by simp
theorem take_snoc (s : ByteArray) (k : Nat) (h : k < s.size) : s.data.toList.take (k + 1) = s.data.toList.take k ++ [s[k]] := by
 rw [List.take_succ_eq_append_getElem (by simpa using h)]; rfl
theorem all_take_succ (p : UInt8 → Bool) (s : ByteArray) (k : Nat) (h : k < s.size) : (s.data.toList.take (k + 1)).all p = ((s.data.toList.take k).all p && p s[k]) := by
 rw [take_snoc s k h, List.all_append]; simp
theorem all_of_take (p : UInt8 → Bool) (s : ByteArray) (h : (s.data.toList.take s.size).all p = true) : s.data.toList.all p = true := by
 rwa [List.take_of_length_le (by simp)] at h
theorem all_false (p : UInt8 → Bool) (s : ByteArray) (k : Nat) (h : k < s.size) (hp : p s[k] = false) : s.data.toList.all p = false := by
 rw [List.all_eq_false]; exact ⟨s[k], by rw [← toList_get s k h]; exact List.getElem_mem _, by simp [hp]⟩
theorem nameC_true {c : UInt8} (h : (97 ≤ (c.toNat : Int) ∧ (c.toNat : Int) ≤ 122) ∨ (65 ≤ (c.toNat : Int) ∧ (c.toNat : Int) ≤ 90) ∨ (48 ≤ (c.toNat : Int) ∧ (c.toNat : Int) ≤ 57) ∨ (c.toNat : Int) = 46 ∨ (c.toNat : Int) = 95 ∨ (c.toNat : Int) = 45) : nameC c = true := by
 unfold nameC; simp; omega
theorem nameC_false {c : UInt8} (h : ¬ ((97 ≤ (c.toNat : Int) ∧ (c.toNat : Int) ≤ 122) ∨ (65 ≤ (c.toNat : Int) ∧ (c.toNat : Int) ≤ 90) ∨ (48 ≤ (c.toNat : Int) ∧ (c.toNat : Int) ≤ 57) ∨ (c.toNat : Int) = 46 ∨ (c.toNat : Int) = 95 ∨ (c.toNat : Int) = 45)) : nameC c = false := by
 unfold nameC; simp; omega
theorem toList_ne (s : ByteArray) (h : 0 < s.size) : ¬ s.toList = [] ∧ s.toList.isEmpty = false := by
 have e : s.toList = s.data.toList := ByteArray.toList_eq s
 have l := toList_length s
 rw [e]; constructor
 · intro h0; rw [h0] at l; simp at l; omega
 · cases h1 : s.data.toList with
   | nil => rw [h1] at l; simp at l; omega
   | cons a r => rfl
theorem toList_nil (s : ByteArray) (h : s.size = 0) : s.toList = [] := by
 have e : s.toList = s.data.toList := ByteArray.toList_eq s
 rw [e]; exact List.eq_nil_of_length_eq_zero (by simpa using h)
theorem headD_get (s : ByteArray) (h : 0 < s.size) : s.data.toList.headD 0 = s[0] := by
 have l := toList_length s
 have g : ∀ (L : List UInt8) (hL : 0 < L.length), L.headD 0 = L[0] := fun L hL => by cases L with
   | nil => simp at hL
   | cons a r => rfl
 rw [← toList_get s 0 h]; exact g _ (by omega)
theorem role_len {s : ByteArray} (h : s.size < 1 ∨ 64 < s.size) : roleOk s.data.toList = false := by
 unfold roleOk; rw [toList_length, decide_eq_false (by omega)]; rfl
theorem role_dot {s : ByteArray} (h0 : 0 < s.size) (h : s[0].toNat = 46) : roleOk s.data.toList = false := by
 unfold roleOk; rw [headD_get s h0]
 have : s[0] = 46 := by apply UInt8.toNat_inj.1; exact h
 rw [this]; simp
theorem role_bad {s : ByteArray} (k : Nat) (hk : k < s.size) (h : nameC s[k] = false) : roleOk s.data.toList = false := by
 unfold roleOk; rw [all_false nameC s k hk h]; simp
theorem role_good {s : ByteArray} (h0 : 0 < s.size) (h1 : s.size ≤ 64) (h2 : ¬ s[0].toNat = 46) (h : (s.data.toList.take s.size).all nameC = true) : roleOk s.data.toList = true := by
 unfold roleOk; rw [all_of_take nameC s h, headD_get s h0, toList_length]
 have : ¬ s[0] = 46 := fun e => h2 (by rw [e]; rfl)
 simp [this]; omega
theorem pub_no {s : ByteArray} (h : s.size < 2 ∨ 128 < s.size ∨ s.size % 2 = 1) : pubOk s.data.toList = false := by
 unfold pubOk; rw [toList_length, decide_eq_false (by omega)]; rfl
theorem pub_hex {s : ByteArray} (h1 : 2 ≤ s.size) (h2 : s.size ≤ 128) (h3 : s.size % 2 = 0) : pubOk s.data.toList = allHex s.data.toList := by
 unfold pubOk; rw [toList_length, decide_eq_true ⟨h1, h2, h3⟩]; simp
end Go.Proofs.YtgghgcilpfdbjaaGreatDoor

namespace Go.Proofs.YtgghgcilpfdbjaaGreatDoor
open Go.RowKit
inductive JV where
 | mk (kind n : Int) (t : ByteArray) (names : List ByteArray) (items : List JV)
namespace JV
def kind : JV → Int | mk k _ _ _ _ => k
def n : JV → Int | mk _ n _ _ _ => n
def t : JV → ByteArray | mk _ _ t _ _ => t
def names : JV → List ByteArray | mk _ _ _ ns _ => ns
def items : JV → List JV | mk _ _ _ _ xs => xs
end JV
def bytesSum : List ByteArray → Nat
 | [] => 0
 | s :: r => s.size + 1 + bytesSum r
mutual
def JV.wt : JV → Nat
 | .mk _ _ t ns xs => 1 + t.size + bytesSum ns + JV.wts xs
def JV.wts : List JV → Nat
 | [] => 0
 | x :: r => JV.wt x + JV.wts r
end
mutual
def JV.num : JV → Prop
 | .mk k n _ _ xs => (0 ≤ k ∧ k ≤ 255) ∧ (-9223372036854775808 ≤ n ∧ n ≤ 9223372036854775807) ∧ JV.nums xs
def JV.nums : List JV → Prop
 | [] => True
 | x :: r => JV.num x ∧ JV.nums r
end
def StrsAt (w : World) (lo hi : Nat) (a : Option Addr) (l : List ByteArray) : Prop :=
 l = [] ∨ ∃ b off, a = some ⟨b, off, none⟩ ∧ lo ≤ b ∧ b < hi ∧ ∀ i (h : i < l.length), w.cell? ⟨b, off + i, none⟩ = some (.string l[i])
def BlkU (w : World) (lo b : Nat) : Prop := ∃ cs t fr, w.heap[b]? = some (.cells cs t fr) ∧ (0 < lo → fr = (0, 0))
mutual
def Rep (w : World) (lo hi : Nat) : JV → Value → Prop
 | .mk k n t ns xs, x => ∃ an cn ai ci, x = .agg #[.int .u8 k, .int .i64 n, .string t, .slice an ns.length cn, .slice ai xs.length ci] ∧ ns.length ≤ cn ∧ xs.length ≤ ci ∧
     StrsAt w lo hi an ns ∧ (xs = [] ∨ ∃ b off, ai = some ⟨b, off, none⟩ ∧ lo ≤ b ∧ b < hi ∧ BlkU w lo b ∧ RepL w lo hi xs b off)
def RepL (w : World) (lo hi : Nat) : List JV → Nat → Nat → Prop
 | [], _, _ => True
 | v :: r, b, off => (∃ c0 c1 c2 c3 c4, w.cell? ⟨b, off, none⟩ = some c0 ∧ w.cell? ⟨b, off + 1, none⟩ = some c1 ∧ w.cell? ⟨b, off + 2, none⟩ = some c2 ∧ w.cell? ⟨b, off + 3, none⟩ = some c3 ∧ w.cell? ⟨b, off + 4, none⟩ = some c4 ∧ w.frozen? ⟨b, off, none⟩ = false ∧
     Rep w lo hi v (.agg #[c0, c1, c2, c3, c4])) ∧ RepL w lo hi r b (off + 5)
end
def ValsAt (w : World) (lo hi : Nat) (a : Option Addr) (l : List JV) : Prop :=
 l = [] ∨ ∃ b off, a = some ⟨b, off, none⟩ ∧ lo ≤ b ∧ b < hi ∧ BlkU w lo b ∧ RepL w lo hi l b off
theorem Rep.parts {w : World} {lo hi : Nat} {v : JV} {x : Value} (h : Rep w lo hi v x) :
   ∃ an cn ai ci, x = .agg #[.int .u8 v.kind, .int .i64 v.n, .string v.t, .slice an v.names.length cn, .slice ai v.items.length ci] ∧ v.names.length ≤ cn ∧ v.items.length ≤ ci ∧ StrsAt w lo hi an v.names ∧ ValsAt w lo hi ai v.items := by
 cases v; unfold Rep at h; exact h
theorem Rep.mk {w : World} {lo hi : Nat} {v : JV} {an ai : Option Addr} {cn ci : Nat} (h1 : v.names.length ≤ cn) (h2 : v.items.length ≤ ci) (h3 : StrsAt w lo hi an v.names) (h4 : ValsAt w lo hi ai v.items) :
   Rep w lo hi v (.agg #[.int .u8 v.kind, .int .i64 v.n, .string v.t, .slice an v.names.length cn, .slice ai v.items.length ci]) := by
 cases v; unfold Rep; exact ⟨an, cn, ai, ci, rfl, h1, h2, h3, h4⟩
theorem RepL.at {w : World} {lo hi : Nat} : ∀ {l : List JV} {b off : Nat} (_ : RepL w lo hi l b off) (i : Nat) (h : i < l.length),
   ∃ c0 c1 c2 c3 c4, w.cell? ⟨b, off + i * 5, none⟩ = some c0 ∧ w.cell? ⟨b, off + i * 5 + 1, none⟩ = some c1 ∧ w.cell? ⟨b, off + i * 5 + 2, none⟩ = some c2 ∧ w.cell? ⟨b, off + i * 5 + 3, none⟩ = some c3 ∧ w.cell? ⟨b, off + i * 5 + 4, none⟩ = some c4 ∧ w.frozen? ⟨b, off + i * 5, none⟩ = false ∧
     Rep w lo hi l[i] (.agg #[c0, c1, c2, c3, c4])
 | [], _, _, _, i, h => by simp at h
 | v :: r, b, off, hr, 0, _ => by unfold RepL at hr; exact hr.1
 | v :: r, b, off, hr, i + 1, h => by
   unfold RepL at hr
   have := RepL.at hr.2 i (by simpa using h)
   rw [show off + (i + 1) * 5 = off + 5 + i * 5 by omega]
   exact this
theorem RepL.of_at {w : World} {lo hi : Nat} : ∀ {l : List JV} {b off : Nat} (_ : ∀ (i : Nat) (h : i < l.length),
   ∃ c0 c1 c2 c3 c4, w.cell? ⟨b, off + i * 5, none⟩ = some c0 ∧ w.cell? ⟨b, off + i * 5 + 1, none⟩ = some c1 ∧ w.cell? ⟨b, off + i * 5 + 2, none⟩ = some c2 ∧ w.cell? ⟨b, off + i * 5 + 3, none⟩ = some c3 ∧ w.cell? ⟨b, off + i * 5 + 4, none⟩ = some c4 ∧ w.frozen? ⟨b, off + i * 5, none⟩ = false ∧
     Rep w lo hi l[i] (.agg #[c0, c1, c2, c3, c4])), RepL w lo hi l b off
 | [], _, _, _ => by unfold RepL; trivial
 | v :: r, b, off, hr => by
   unfold RepL
   refine ⟨hr 0 (by simp), RepL.of_at fun i h => ?_⟩
   have := hr (i + 1) (by simpa using h)
   rw [show off + (i + 1) * 5 = off + 5 + i * 5 by omega] at this
   exact this
theorem BlkU.carry {w w' : World} {lo lo' b : Nat} (h : BlkU w lo b) (h1 : lo' ≤ lo) (hs : w'.heap[b]? = w.heap[b]?) : BlkU w' lo' b := by
 obtain ⟨cs, t, fr, h2, h3⟩ := h
 exact ⟨cs, t, fr, by rw [hs]; exact h2, fun h0 => h3 (by omega)⟩
theorem StrsAt.carry {w w' : World} {lo hi lo' hi' : Nat} {a : Option Addr} {l : List ByteArray} (h : StrsAt w lo hi a l) (h1 : lo' ≤ lo) (h2 : hi ≤ hi')
   (hs : ∀ b, lo ≤ b → b < hi → w'.heap[b]? = w.heap[b]?) : StrsAt w' lo' hi' a l := by
 rcases h with h | ⟨b, off, ha, hb, hb', hc⟩
 · exact .inl h
 · refine .inr ⟨b, off, ha, by omega, by omega, fun i hi => ?_⟩
   rw [World.cell?_of_block (w := w) (hs b hb hb')]; exact hc i hi
mutual
theorem Rep.carry {w w' : World} {lo hi lo' hi' : Nat} (h1 : lo' ≤ lo) (h2 : hi ≤ hi') (hs : ∀ b, lo ≤ b → b < hi → w'.heap[b]? = w.heap[b]?) :
   ∀ (v : JV) (x : Value), Rep w lo hi v x → Rep w' lo' hi' v x
 | .mk k n t ns xs, x, h => by
   unfold Rep at h ⊢
   obtain ⟨an, cn, ai, ci, rfl, h3, h4, h5, h6⟩ := h
   refine ⟨an, cn, ai, ci, rfl, h3, h4, h5.carry h1 h2 hs, ?_⟩
   rcases h6 with h6 | ⟨b, off, ha, hb, hb', hu, hr⟩
   · exact .inl h6
   · exact .inr ⟨b, off, ha, by omega, by omega, hu.carry h1 (hs b hb hb'), RepL.carry h1 h2 hs xs b off hb hb' hr⟩
theorem RepL.carry {w w' : World} {lo hi lo' hi' : Nat} (h1 : lo' ≤ lo) (h2 : hi ≤ hi') (hs : ∀ b, lo ≤ b → b < hi → w'.heap[b]? = w.heap[b]?) :
   ∀ (l : List JV) (b off : Nat), lo ≤ b → b < hi → RepL w lo hi l b off → RepL w' lo' hi' l b off
 | [], _, _, _, _, _ => by unfold RepL; trivial
 | v :: r, b, off, hb, hb', h => by
   unfold RepL at h ⊢
   obtain ⟨⟨c0, c1, c2, c3, c4, e0, e1, e2, e3, e4, hf, hv⟩, hr⟩ := h
   have hz : w'.frozen? ⟨b, off, none⟩ = w.frozen? ⟨b, off, none⟩ := World.frozen?_of_block (w := w) (hs b hb hb')
   have hc : ∀ o, w'.cell? ⟨b, o, none⟩ = w.cell? ⟨b, o, none⟩ := fun o => World.cell?_of_block (w := w) (hs b hb hb')
   exact ⟨⟨c0, c1, c2, c3, c4, by rw [hc, e0], by rw [hc, e1], by rw [hc, e2], by rw [hc, e3], by rw [hc, e4], by rw [hz, hf], Rep.carry h1 h2 hs v _ hv⟩, RepL.carry h1 h2 hs r b (off + 5) hb hb' hr⟩
end
theorem Rep.below {w w' : World} {lo hi lo' hi' B : Nat} {v : JV} {x : Value} (h : Rep w lo hi v x) (hb : Below B w w') (hB : hi ≤ B) (h1 : lo' ≤ lo) (h2 : hi ≤ hi') : Rep w' lo' hi' v x :=
 Rep.carry h1 h2 (fun b _ hlt => hb.block b (by omega)) v x h
theorem StrsAt.below {w w' : World} {lo hi lo' hi' B : Nat} {a : Option Addr} {l : List ByteArray} (h : StrsAt w lo hi a l) (hb : Below B w w') (hB : hi ≤ B) (h1 : lo' ≤ lo) (h2 : hi ≤ hi') : StrsAt w' lo' hi' a l :=
 h.carry h1 h2 fun b _ hlt => hb.block b (by omega)
theorem ValsAt.carry {w w' : World} {lo hi lo' hi' : Nat} {a : Option Addr} {l : List JV} (h : ValsAt w lo hi a l) (h1 : lo' ≤ lo) (h2 : hi ≤ hi')
   (hs : ∀ b, lo ≤ b → b < hi → w'.heap[b]? = w.heap[b]?) : ValsAt w' lo' hi' a l := by
 rcases h with h | ⟨b, off, ha, hb, hb', hu, hr⟩
 · exact .inl h
 · exact .inr ⟨b, off, ha, by omega, by omega, hu.carry h1 (hs b hb hb'), RepL.carry h1 h2 hs l b off hb hb' hr⟩
theorem ValsAt.below {w w' : World} {lo hi lo' hi' B : Nat} {a : Option Addr} {l : List JV} (h : ValsAt w lo hi a l) (hb : Below B w w') (hB : hi ≤ B) (h1 : lo' ≤ lo) (h2 : hi ≤ hi') : ValsAt w' lo' hi' a l :=
 h.carry h1 h2 fun b _ hlt => hb.block b (by omega)
theorem ValsAt.at {w : World} {lo hi : Nat} {a : Option Addr} {l : List JV} (h : ValsAt w lo hi a l) (i : Nat) (hi' : i < l.length) :
   ∃ b off c0 c1 c2 c3 c4, a = some ⟨b, off, none⟩ ∧ lo ≤ b ∧ b < hi ∧ w.cell? ⟨b, off + i * 5, none⟩ = some c0 ∧ w.cell? ⟨b, off + i * 5 + 1, none⟩ = some c1 ∧ w.cell? ⟨b, off + i * 5 + 2, none⟩ = some c2 ∧ w.cell? ⟨b, off + i * 5 + 3, none⟩ = some c3 ∧ w.cell? ⟨b, off + i * 5 + 4, none⟩ = some c4 ∧
     Rep w lo hi l[i] (.agg #[c0, c1, c2, c3, c4]) := by
 rcases h with h | ⟨b, off, ha, hb, hb', _, hr⟩
 · rw [h] at hi'; simp at hi'
 · obtain ⟨c0, c1, c2, c3, c4, r0, r1, r2, r3, r4, _, r⟩ := hr.at i hi'
   exact ⟨b, off, c0, c1, c2, c3, c4, ha, hb, hb', r0, r1, r2, r3, r4, r⟩
theorem ValsAt.blk {w : World} {lo hi b off : Nat} {l : List JV} (h : ValsAt w lo hi (some ⟨b, off, none⟩) l) (i : Nat) (hi' : i < l.length) : BlkU w lo b ∧ w.frozen? ⟨b, off + i * 5, none⟩ = false := by
 rcases h with h | ⟨b', off', ha, hb, hb', hu, hr⟩
 · rw [h] at hi'; simp at hi'
 · simp only [Option.some.injEq, Addr.mk.injEq, and_true] at ha
   obtain ⟨rfl, rfl⟩ := ha
   obtain ⟨c0, c1, c2, c3, c4, r0, r1, r2, r3, r4, hf, r⟩ := hr.at i hi'
   exact ⟨hu, hf⟩
theorem ValsAt.get {w : World} {lo hi : Nat} {a : Option Addr} {l : List JV} (h : ValsAt w lo hi a l) (i : Nat) (hi' : i < l.length) :
   ∃ b off an cn ai ci, a = some ⟨b, off, none⟩ ∧ lo ≤ b ∧ b < hi ∧ w.cell? ⟨b, off + i * 5, none⟩ = some (.int .u8 l[i].kind) ∧ w.cell? ⟨b, off + i * 5 + 1, none⟩ = some (.int .i64 l[i].n) ∧ w.cell? ⟨b, off + i * 5 + 2, none⟩ = some (.string l[i].t) ∧
     w.cell? ⟨b, off + i * 5 + 3, none⟩ = some (.slice an l[i].names.length cn) ∧ w.cell? ⟨b, off + i * 5 + 4, none⟩ = some (.slice ai l[i].items.length ci) ∧
     Rep w lo hi l[i] (.agg #[.int .u8 l[i].kind, .int .i64 l[i].n, .string l[i].t, .slice an l[i].names.length cn, .slice ai l[i].items.length ci]) := by
 obtain ⟨b, off, c0, c1, c2, c3, c4, ha, hb, hb', e0, e1, e2, e3, e4, hr⟩ := h.at i hi'
 obtain ⟨an, cn, ai, ci, hx, _⟩ := hr.parts
 simp only [Value.agg.injEq, Array.mk.injEq, List.cons.injEq, and_true] at hx
 obtain ⟨rfl, rfl, rfl, rfl, rfl⟩ := hx
 exact ⟨b, off, an, cn, ai, ci, ha, hb, hb', e0, e1, e2, e3, e4, hr⟩
theorem StrsAt.at {w : World} {lo hi : Nat} {a : Option Addr} {l : List ByteArray} (h : StrsAt w lo hi a l) (i : Nat) (hi' : i < l.length) :
   ∃ b off, a = some ⟨b, off, none⟩ ∧ lo ≤ b ∧ b < hi ∧ w.cell? ⟨b, off + i, none⟩ = some (.string l[i]) := by
 rcases h with h | ⟨b, off, ha, hb, hb', hr⟩
 · rw [h] at hi'; simp at hi'
 · exact ⟨b, off, ha, hb, hb', hr i hi'⟩
theorem JV.wt_eq (v : JV) : v.wt = 1 + v.t.size + bytesSum v.names + JV.wts v.items := by cases v; simp [JV.wt, JV.t, JV.names, JV.items]
theorem JV.wt_pos (v : JV) : 1 ≤ v.wt := by rw [JV.wt_eq]; omega
theorem bytesSum_get : ∀ (l : List ByteArray) (i : Nat) (h : i < l.length), l[i].size + 1 ≤ bytesSum l
 | s :: r, 0, _ => by simp [bytesSum]
 | s :: r, i + 1, h => by have := bytesSum_get r i (by simpa using h); simp [bytesSum]; omega
theorem bytesSum_len : ∀ (l : List ByteArray), l.length ≤ bytesSum l
 | [] => by simp [bytesSum]
 | s :: r => by have := bytesSum_len r; simp [bytesSum]; omega
theorem JV.wts_get : ∀ (l : List JV) (i : Nat) (h : i < l.length), l[i].wt ≤ JV.wts l
 | s :: r, 0, _ => by simp [JV.wts]
 | s :: r, i + 1, h => by have := JV.wts_get r i (by simpa using h); simp [JV.wts]; omega
theorem JV.wts_len : ∀ (l : List JV), l.length ≤ JV.wts l
 | [] => by simp
 | s :: r => by have := JV.wts_len r; have := JV.wt_pos s; simp [JV.wts]; omega
theorem JV.wt_bd (v : JV) : v.t.size ≤ v.wt ∧ v.names.length ≤ v.wt ∧ v.items.length ≤ v.wt ∧ JV.wts v.items < v.wt := by
 have := JV.wt_eq v; have := bytesSum_len v.names; have := JV.wts_len v.items; omega
end Go.Proofs.YtgghgcilpfdbjaaGreatDoor

namespace Go.Proofs.YtgghgcilpfdbjaaGreatDoor
open Go.ChangeShapes Go.WideShapes Go.ChangeAt Go.RowKit Go.Joins Go.Deep
mutual
def JV.fits : JV → Prop
 | .mk _ _ t ns xs => t.size ≤ maxLen ∧ ns.length ≤ maxLen ∧ xs.length ≤ maxLen ∧ (∀ s ∈ ns, s.size ≤ maxLen) ∧ JV.fitsL xs
def JV.fitsL : List JV → Prop
 | [] => True
 | x :: r => JV.fits x ∧ JV.fitsL r
end
section
variable {H : Type} {enc : TypeId × Value → H} {P : Program} {w : World} {base : Nat} {spare : Nat → Bool} {held : Bool}
end
end Go.Proofs.YtgghgcilpfdbjaaGreatDoor

namespace Go.Proofs.YtgghgcilpfdbjaaGreatDoor
open Go.RowKit
structure Touch (S : Nat → Prop) (w w' : World) : Prop where
 os : w'.os = w.os
 tape : w'.tape = w.tape
 output : w'.output = w.output
 size : w.heap.size ≤ w'.heap.size
 block : ∀ k, k < w.heap.size → ¬ S k → w'.heap[k]? = w.heap[k]?
theorem Touch.refl (S : Nat → Prop) (w : World) : Touch S w w := ⟨rfl, rfl, rfl, Nat.le_refl _, fun _ _ _ => rfl⟩
theorem Touch.trans {S : Nat → Prop} {a b c : World} (h : Touch S a b) (k : Touch S b c) : Touch S a c :=
 ⟨k.os.trans h.os, k.tape.trans h.tape, k.output.trans h.output, Nat.le_trans h.size k.size, fun i hi hs => (k.block i (Nat.lt_of_lt_of_le hi h.size) hs).trans (h.block i hi hs)⟩
theorem Touch.mono {S S' : Nat → Prop} {w w' : World} (h : Touch S w w') (hs : ∀ k, k < w.heap.size → S k → S' k) : Touch S' w w' := ⟨h.os, h.tape, h.output, h.size, fun k hk hn => h.block k hk fun s => hn (hs k hk s)⟩
theorem Touch.of_below {S : Nat → Prop} {w w' : World} {B : Nat} (h : Below B w w') (hB : w.heap.size ≤ B) : Touch S w w' := ⟨h.os, h.tape, h.output, h.size, fun k hk _ => h.block k (by omega)⟩
theorem Touch.below {S : Nat → Prop} {w w' : World} {B : Nat} (h : Touch S w w') (hB : B ≤ w.heap.size) (hs : ∀ k, k < B → ¬ S k) : Below B w w' := ⟨h.os, h.tape, h.output, h.size, fun k hk => h.block k (by omega) (hs k hk)⟩
theorem Touch.drew {S : Nat → Prop} {a w : World} (h : Touch S a w) : Touch S a w.drew := ⟨h.os, h.tape, h.output, h.size, h.block⟩
theorem Touch.drewN {S : Nat → Prop} {a w : World} (h : Touch S a w) (n : Nat) : Touch S a (w.drewN n) := ⟨h.os, h.tape, h.output, h.size, h.block⟩
theorem Touch.alloc {S : Nat → Prop} {a w : World} (h : Touch S a w) (o : Obj) : Touch S a (w.alloc o) :=
 ⟨h.os, h.tape, h.output, by have := h.size; simp; omega, fun k hk hs => by rw [Below.heap_alloc _ _ _ (Nat.lt_of_lt_of_le hk h.size)]; exact h.block k hk hs⟩
theorem Touch.setCell {S : Nat → Prop} {a w : World} (h : Touch S a w) {p : Addr} (hp : S p.block ∨ a.heap.size ≤ p.block) (u : Value) : Touch S a (w.setCell p u) :=
 ⟨h.os, h.tape, h.output, by have := h.size; simp [World.setCell]; omega, fun k hk hs => by
   rw [Below.heap_setCell _ _ _ _ (fun e => by rcases hp with hp | hp; exact hs (e ▸ hp); omega)]; exact h.block k hk hs⟩
theorem Touch.cell {S : Nat → Prop} {w w' : World} (h : Touch S w w') {p : Addr} (hp : p.block < w.heap.size) (hs : ¬ S p.block) : w'.cell? p = w.cell? p := World.cell?_of_block (w := w) (h.block p.block hp hs)
theorem Touch.frozen {S : Nat → Prop} {w w' : World} (h : Touch S w w') {p : Addr} (hp : p.block < w.heap.size) (hs : ¬ S p.block) : w'.frozen? p = w.frozen? p := World.frozen?_of_block (w := w) (h.block p.block hp hs)
theorem Touch.row {S : Nat → Prop} {w w' : World} (h : Touch S w w') {b t n : Nat} {f : Nat → Value} (hr : w.rowIs b t n f) (hs : ¬ S b) : w'.rowIs b t n f := hr.of_block (h.block b hr.lt hs)
theorem Below.drewN {B : Nat} {a w : World} (h : Below B a w) (n : Nat) : Below B a (w.drewN n) := ⟨h.os, h.tape, h.output, h.size, h.block⟩
theorem below_row {B : Nat} {w w' : World} (h : Below B w w') {b t n : Nat} {f : Nat → Value} (hr : w.rowIs b t n f) (hb : b < B) : w'.rowIs b t n f := hr.of_block (h.block b hb)
theorem rowIs_eq {w : World} {c : Array Value} {t n : Nat} {f : Nat → Value} (h : c = ((List.range n).map f).toArray) : (w.alloc (.cells c t)).rowIs w.heap.size t n f := by
 subst h
 have := World.rowIs_alloc w ((List.range n).map f).toArray t f (fun i hi => by simp at hi; simp [hi])
 simpa using this
theorem cell_alloc_lt {w : World} (o : Obj) {p : Addr} (h : p.block < w.heap.size) : (w.alloc o).cell? p = w.cell? p := World.cell?_of_block (w := w) (Below.heap_alloc w o p.block h)
theorem cell_setCell_ne {w : World} {p q : Addr} (u : Value) (h : p.block ≠ q.block) : (w.setCell q u).cell? p = w.cell? p := World.cell?_of_block (w := w) (Below.heap_setCell w q u p.block h)
def pick5 (v0 v1 v2 v3 v4 : Value) : Nat → Value
 | 0 => v0 | 1 => v1 | 2 => v2 | 3 => v3 | _ => v4
theorem rowIs_box5 (w : World) (v0 v1 v2 v3 v4 : Value) (t : Nat) : (w.alloc (.cells #[v0, v1, v2, v3, v4] t)).rowIs w.heap.size t 5 (pick5 v0 v1 v2 v3 v4) := rowIs_eq rfl
theorem row5_heap {w : World} {b t : Nat} {v0 v1 v2 v3 v4 : Value} (h : w.rowIs b t 5 (pick5 v0 v1 v2 v3 v4)) : w.heap[b]? = some (.cells #[v0, v1, v2, v3, v4] t (0, 0)) := by
 obtain ⟨c, hc, hn, hf⟩ := h
 have e : c = #[v0, v1, v2, v3, v4] := by
   apply Array.ext (by simp [hn])
   intro i h1 h2
   have := hf i (by omega)
   rw [Array.getElem?_eq_getElem h1] at this
   have h3 := Option.some.inj this
   rw [h3]
   rcases i with _ | _ | _ | _ | _ | i <;> first | rfl | (simp at h2; omega)
 rw [hc, e]
end Go.Proofs.YtgghgcilpfdbjaaGreatDoor

namespace Go.Proofs.YtgghgcilpfdbjaaGreatDoor
open Go.ChangeShapes Go.WideShapes Go.ChangeAt Go.RowKit Go.Joins Go.Deep
abbrev Key2 := ByteArray × ByteArray
def KeysAt (w : World) (lo hi : Nat) (a : Option Addr) (l : List Key2) : Prop :=
 l = [] ∨ ∃ b off, a = some ⟨b, off, none⟩ ∧ lo ≤ b ∧ b < hi ∧ ∀ i (h : i < l.length), w.cell? ⟨b, off + i * 2, none⟩ = some (.string l[i].1) ∧ w.cell? ⟨b, off + i * 2 + 1, none⟩ = some (.string l[i].2)
theorem KeysAt.at {w : World} {lo hi : Nat} {a : Option Addr} {l : List Key2} (h : KeysAt w lo hi a l) (i : Nat) (hi' : i < l.length) :
   ∃ b off, a = some ⟨b, off, none⟩ ∧ lo ≤ b ∧ b < hi ∧ w.cell? ⟨b, off + i * 2, none⟩ = some (.string l[i].1) ∧ w.cell? ⟨b, off + i * 2 + 1, none⟩ = some (.string l[i].2) := by
 rcases h with h | ⟨b, off, ha, hb, hb', hr⟩
 · rw [h] at hi'; simp at hi'
 · exact ⟨b, off, ha, hb, hb', hr i hi'⟩
theorem KeysAt.carry {w w' : World} {lo hi lo' hi' : Nat} {a : Option Addr} {l : List Key2} (h : KeysAt w lo hi a l) (h1 : lo' ≤ lo) (h2 : hi ≤ hi') (hs : ∀ b, lo ≤ b → b < hi → w'.heap[b]? = w.heap[b]?) : KeysAt w' lo' hi' a l := by
 rcases h with h | ⟨b, off, ha, hb, hb', hr⟩
 · exact .inl h
 · refine .inr ⟨b, off, ha, by omega, by omega, fun i hi => ?_⟩
   have e : ∀ o, w'.cell? ⟨b, o, none⟩ = w.cell? ⟨b, o, none⟩ := fun o => World.cell?_of_block (w := w) (w' := w') (hs b hb hb')
   rw [e, e]; exact hr i hi
theorem KeysAt.below {w w' : World} {lo hi lo' hi' B : Nat} {a : Option Addr} {l : List Key2} (h : KeysAt w lo hi a l) (hb : Below B w w') (hB : hi ≤ B) (h1 : lo' ≤ lo) (h2 : hi ≤ hi') : KeysAt w' lo' hi' a l :=
 h.carry h1 h2 fun b _ hlt => hb.block b (by omega)
def TrisAt (w : World) (lo hi : Nat) (a : Option Addr) (l : List (ByteArray × ByteArray × ByteArray)) : Prop :=
 l = [] ∨ ∃ b off, a = some ⟨b, off, none⟩ ∧ lo ≤ b ∧ b < hi ∧ ∀ i (h : i < l.length), w.cell? ⟨b, off + i * 3, none⟩ = some (.string l[i].1) ∧ w.cell? ⟨b, off + i * 3 + 1, none⟩ = some (.string l[i].2.1) ∧ w.cell? ⟨b, off + i * 3 + 2, none⟩ = some (.string l[i].2.2)
theorem TrisAt.at {w : World} {lo hi : Nat} {a : Option Addr} {l : List (ByteArray × ByteArray × ByteArray)} (h : TrisAt w lo hi a l) (i : Nat) (hi' : i < l.length) :
   ∃ b off, a = some ⟨b, off, none⟩ ∧ lo ≤ b ∧ b < hi ∧ w.cell? ⟨b, off + i * 3, none⟩ = some (.string l[i].1) ∧ w.cell? ⟨b, off + i * 3 + 1, none⟩ = some (.string l[i].2.1) ∧ w.cell? ⟨b, off + i * 3 + 2, none⟩ = some (.string l[i].2.2) := by
 rcases h with h | ⟨b, off, ha, hb, hb', hr⟩
 · rw [h] at hi'; simp at hi'
 · exact ⟨b, off, ha, hb, hb', hr i hi'⟩
theorem TrisAt.carry {w w' : World} {lo hi lo' hi' : Nat} {a : Option Addr} {l : List (ByteArray × ByteArray × ByteArray)} (h : TrisAt w lo hi a l) (h1 : lo' ≤ lo) (h2 : hi ≤ hi') (hs : ∀ b, lo ≤ b → b < hi → w'.heap[b]? = w.heap[b]?) : TrisAt w' lo' hi' a l := by
 rcases h with h | ⟨b, off, ha, hb, hb', hr⟩
 · exact .inl h
 · refine .inr ⟨b, off, ha, by omega, by omega, fun i hi => ?_⟩
   have e : ∀ o, w'.cell? ⟨b, o, none⟩ = w.cell? ⟨b, o, none⟩ := fun o => World.cell?_of_block (w := w) (w' := w') (hs b hb hb')
   rw [e, e, e]; exact hr i hi
theorem TrisAt.below {w w' : World} {lo hi lo' hi' B : Nat} {a : Option Addr} {l : List (ByteArray × ByteArray × ByteArray)} (h : TrisAt w lo hi a l) (hb : Below B w w') (hB : hi ≤ B) (h1 : lo' ≤ lo) (h2 : hi ≤ hi') : TrisAt w' lo' hi' a l :=
 h.carry h1 h2 fun b _ hlt => hb.block b (by omega)
section
variable {H : Type} {enc : TypeId × Value → H} {P : Program} {w : World} {spare : Nat → Bool} {held : Bool}
end
end Go.Proofs.YtgghgcilpfdbjaaGreatDoor

namespace Go.Proofs.YtgghgcilpfdbjaaGreatDoor
open Go.RowKit
def leapN (y : Nat) : Bool := y % 4 == 0 && y % 100 != 0 || y % 400 == 0
def leapsN (y : Nat) : Nat := y / 4 - y / 100 + y / 400
def startN (y : Nat) : Nat := 365 * (y - 1970) + leapsN (y - 1) - leapsN 1969
def beforeN : Nat → Nat
 | 0 => 0 | 1 => 31 | 2 => 59 | 3 => 90 | 4 => 120 | 5 => 151 | 6 => 181 | 7 => 212 | 8 => 243 | 9 => 273 | 10 => 304 | 11 => 334 | _ => 365
def daysN (y m : Nat) : Nat := if 1970 ≤ y ∧ y ≤ 9999 ∧ 1 ≤ m ∧ m ≤ 12 then beforeN m - beforeN (m - 1) + (if m = 2 ∧ leapN y = true then 1 else 0) else 0
def yearN : Nat → Nat → Nat → Nat
 | 0, y, _ => y
 | f + 1, y, d => if y < 9999 ∧ startN (y + 1) ≤ d then yearN f (y + 1) d else y
def monthN (y : Nat) : Nat → Nat → Nat → Nat × Nat
 | 0, m, d => (m, d)
 | f + 1, m, d => if m < 12 ∧ daysN y m ≤ d then monthN y f (m + 1) (d - daysN y m) else (m, d)
def padL (n w : Nat) : List UInt8 := List.replicate (w - (Lib.itoa n).length) 48 ++ Lib.itoa n
def dateL (n : Nat) : List UInt8 :=
 let y := yearN 8030 1970 (n / 86400)
 let md := monthN y 12 1 (n / 86400 - startN y)
 let t := n % 86400
 padL y 4 ++ [45] ++ padL md.1 2 ++ [45] ++ padL (md.2 + 1) 2 ++ [84] ++ padL (t / 3600) 2 ++ [58] ++ padL (t / 60 % 60) 2 ++ [58] ++ padL (t % 60) 2 ++ [90]
def digsN : List UInt8 → Int → Int
 | [], n => n
 | c :: r, n => if 48 ≤ c.toNat ∧ c.toNat ≤ 57 then digsN r (10 * n + ((c.toNat : Int) - 48)) else -1
def readD (s : List UInt8) : Int × Int :=
 if s.length ≠ 20 then (0, 3) else
 if s[4]? ≠ some 45 ∨ s[7]? ≠ some 45 ∨ s[10]? ≠ some 84 ∨ s[13]? ≠ some 58 ∨ s[16]? ≠ some 58 ∨ s[19]? ≠ some 90 then (0, 3) else
 let y := digsN (s.take 4) 0
 let m := digsN ((s.drop 5).take 2) 0
 let d := digsN ((s.drop 8).take 2) 0
 let days : Int := if y < 0 ∨ m < 0 then 0 else daysN y.toNat m.toNat
 if d < 1 ∨ days < d then (0, 3) else
 let hh := digsN ((s.drop 11).take 2) 0
 let mm := digsN ((s.drop 14).take 2) 0
 let ss := digsN ((s.drop 17).take 2) 0
 if hh < 0 ∨ 23 < hh ∨ mm < 0 ∨ 59 < mm ∨ ss < 0 ∨ 59 < ss then (0, 3) else
 let n : Int := startN y.toNat + beforeN (m.toNat - 1) + d - 1 + (if 2 < m ∧ leapN y.toNat = true then 1 else 0)
 (n * 86400 + (hh * 3600 + mm * 60 + ss), 0)
theorem box_cell {w : World} {p T j : Nat} {cs : Array Value} {u : Value} (hp : w.heap[p]? = some (.cells cs T (0, 0))) (hj : cs[j]? = some u) : w.cell? ⟨p, j, none⟩ = some u := by simp [World.cell?, hp, hj]
theorem heap_lt {w : World} {p : Nat} {o : Obj} (h : w.heap[p]? = some o) : p < w.heap.size := (Array.getElem?_eq_some_iff.1 h).1
structure TabW (w : World) : Prop where
 months : ∀ i, i < 13 → w.cell? ⟨0, i, none⟩ = some (.int .i64 (beforeN i))
 lt : 0 < w.heap.size
theorem TabW.below {w w' : World} (h : TabW w) (hb : Below w.heap.size w w') : TabW w' where
 months i hi := by rw [hb.cell h.lt]; exact h.months i hi
 lt := Nat.lt_of_lt_of_le h.lt hb.size
theorem TabW.drew {w : World} (h : TabW w) : TabW w.drew := ⟨h.months, h.lt⟩
theorem whenLeap (y : Nat) (w : World) (hy : y ≤ 100000) : Calls Tryz.prog 129 #[.int .i64 y] w fun e w' => e = .returned (.bool (leapN y)) ∧ w' = w := by
 have e4 : ((y : Int).tmod 4) = ((y % 4 : Nat) : Int) := by rw [Int.tmod_eq_emod_of_nonneg (by omega)]; omega
 have e1 : ((y : Int).tmod 100) = ((y % 100 : Nat) : Int) := by rw [Int.tmod_eq_emod_of_nonneg (by omega)]; omega
 have e0 : ((y : Int).tmod 400) = ((y % 400 : Nat) : Int) := by rw [Int.tmod_eq_emod_of_nonneg (by omega)]; omega
 have HL := Lib.hid (show leapN y = (y % 4 == 0 && y % 100 != 0 || y % 400 == 0) from rfl)
 generalize y % 4 = a at *
 generalize y % 100 = b at *
 generalize y % 400 = c at *
 by_cases ha : a = 0
 · subst ha
   have e4' : ((y : Int).tmod 4) = 0 := e4
   by_cases hb : b = 0
   · subst hb
     have e1' : ((y : Int).tmod 100) = 0 := e1
     by_cases hc : c = 0
     · subst hc
       have e0' : ((y : Int).tmod 400) = 0 := e0
       clear e4 e1 e0
       go_enter Tryz.func129, Tryz.ntmps129
       go_wp2
       go_ret
       exact ⟨ret_bool (by rw [HL.out]; rfl), rfl⟩
     · have hc' : ((c : Int) == 0) = false := by simp; omega
       clear e4 e1
       go_enter Tryz.func129, Tryz.ntmps129
       go_wp2
       go_ret
       exact ⟨ret_bool (by rw [HL.out]; simp [hc]), rfl⟩
   · have hb' : ((b : Int) == 0) = false := by simp; omega
     have hb2 : ((b : Int) != 0) = true := by simp; omega
     clear e4 e0
     go_enter Tryz.func129, Tryz.ntmps129
     go_wp2
     go_ret
     exact ⟨ret_bool (by rw [HL.out]; simp [hb]), rfl⟩
 · have ha' : ((a : Int) == 0) = false := by simp; omega
   by_cases hc : c = 0
   · subst hc
     have e0' : ((y : Int).tmod 400) = 0 := e0
     clear e1 e0
     go_enter Tryz.func129, Tryz.ntmps129
     go_wp2
     go_ret
     exact ⟨ret_bool (by rw [HL.out]; simp), rfl⟩
   · have hc' : ((c : Int) == 0) = false := by simp; omega
     clear e1
     go_enter Tryz.func129, Tryz.ntmps129
     go_wp2
     go_ret
     exact ⟨ret_bool (by rw [HL.out]; simp [ha, hc]), rfl⟩
theorem whenLeaps (y : Nat) (w : World) (hy : y ≤ 100000) : Calls Tryz.prog 128 #[.int .i64 y] w fun e w' => e = .returned (.int .i64 (leapsN y)) ∧ w' = w := by
 have e4 : ((y : Int).tdiv 4) = ((y / 4 : Nat) : Int) := by rw [Int.tdiv_eq_ediv_of_nonneg (by omega)]; omega
 have e1 : ((y : Int).tdiv 100) = ((y / 100 : Nat) : Int) := by rw [Int.tdiv_eq_ediv_of_nonneg (by omega)]; omega
 have e0 : ((y : Int).tdiv 400) = ((y / 400 : Nat) : Int) := by rw [Int.tdiv_eq_ediv_of_nonneg (by omega)]; omega
 have HL := Lib.hid (show (leapsN y : Int) = ((y / 4 : Nat) : Int) - ((y / 100 : Nat) : Int) + ((y / 400 : Nat) : Int) by unfold leapsN; omega)
 go_enter Tryz.func128, Tryz.ntmps128
 go_wp2
 go_ret
 exact ⟨ret_int (by rw [HL.out]; omega), rfl⟩
theorem whenUpTo (n h : Int) (w : World) : Calls Tryz.prog 169 #[.int .i64 n, .int .i64 h] w fun e w' => e = .returned (.bool (decide (0 ≤ n) && decide (n ≤ h))) ∧ w' = w := by
 by_cases h0 : 0 ≤ n
 · have h0' : decide (0 ≤ n) = true := by simpa using h0
   go_enter Tryz.func169, Tryz.ntmps169
   go_wp2
   go_ret
   exact ⟨ret_bool (by simp [h0]), rfl⟩
 · have h0' : decide (0 ≤ n) = false := by simpa using h0
   go_enter Tryz.func169, Tryz.ntmps169
   go_wp2
   go_ret
   exact ⟨ret_bool (by simp), rfl⟩
theorem leapsN_le (y : Nat) : leapsN y ≤ y := by unfold leapsN; omega
theorem whenStart (y : Nat) (w : World) (h1 : 1970 ≤ y) (hy : y ≤ 10000) : Calls Tryz.prog 92 #[.int .i64 y] w fun e w' => e = .returned (.int .i64 (startN y)) ∧ w' = w := by
 have HA := Lib.hid (whenLeaps (y - 1) w (by omega))
 have HB := Lib.hid (whenLeaps 1969 w (by omega))
 have hl := leapsN_le (y - 1)
 have e1 : ((y - 1 : Nat) : Int) = (y : Int) - 1 := by omega
 rw [e1] at HA
 have HL := Lib.hid (show (startN y : Int) = 365 * ((y : Int) - 1970) + (leapsN (y - 1) : Int) - 477 by
   have h2 : leapsN 1969 = 477 := by decide
   have h3 : leapsN 1969 ≤ leapsN (y - 1) := by unfold leapsN; omega
   unfold startN; rw [h2] at h3 ⊢; omega)
 rw [show (leapsN 1969 : Int) = 477 by decide] at HB
 generalize leapsN (y - 1) = q at *
 go_enter Tryz.func92, Tryz.ntmps92
 go_wp2_with fail
 refine HA.out.mono ?_
 rintro e w' ⟨rfl, rfl⟩
 go_wp2_with fail
 refine HB.out.mono ?_
 rintro e w' ⟨rfl, rfl⟩
 go_wp2
 go_ret
 exact ⟨ret_int (by rw [HL.out]), rfl⟩
def daysZ (y m : Int) : Int := if y < 0 ∨ m < 0 then 0 else daysN y.toNat m.toNat
theorem daysZ_no {y m : Int} (h : y < 1970 ∨ 9999 < y ∨ m < 1 ∨ 12 < m) : daysZ y m = 0 := by
 unfold daysZ daysN; split
 · rfl
 · rw [if_neg (by omega)]; rfl
theorem before_up : ∀ m : Fin 13, 1 ≤ m.val → beforeN (m.val - 1) ≤ beforeN m.val ∧ beforeN m.val ≤ 365 := by decide
theorem whenDays (y m : Int) (w : World) (hT : TabW w) : Calls Tryz.prog 93 #[.int .i64 y, .int .i64 m] w fun e w' => e = .returned (.int .i64 (daysZ y m)) ∧ Below w.heap.size w w' := by
 by_cases h1 : 1970 ≤ y
 · by_cases h2 : y ≤ 9999
   · by_cases h3 : 1 ≤ m
     · by_cases h4 : m ≤ 12
       · obtain ⟨a, rfl⟩ : ∃ a : Nat, y = a := ⟨y.toNat, by omega⟩
         obtain ⟨b, rfl⟩ : ∃ b : Nat, m = b := ⟨m.toNat, by omega⟩
         have hu := before_up ⟨b, by omega⟩ (by show 1 ≤ b; omega)
         have hd : daysZ a b = (beforeN b : Int) - (beforeN (b - 1) : Int) + (if b = 2 ∧ leapN a = true then 1 else 0) := by
           unfold daysZ daysN
           rw [if_neg (by omega), if_pos (by simp; omega)]
           simp only [Int.toNat_natCast]
           have := hu.1
           simp only at this
           split <;> omega
         have HD := Lib.hid hd
         have HU := Lib.hid hu
         have HL := Lib.hid (fun w' : World => whenLeap a w' (by omega))
         have q1 : w.cell? ⟨0, b, none⟩ = some (.int .i64 (beforeN b)) := hT.months b (by omega)
         have q2 : w.cell? ⟨0, b - 1, none⟩ = some (.int .i64 (beforeN (b - 1))) := hT.months (b - 1) (by omega)
         have hu1 : (beforeN (b - 1) : Int) ≤ beforeN b := by have := hu.1; simp only at this; omega
         have hu2 : (beforeN b : Int) ≤ 365 := by have := hu.2; simp only at this; omega
         clear hd hu hT
         generalize beforeN b = p at *
         generalize beforeN (b - 1) = q at *
         by_cases hb2 : b = 2
         · have hb3 : ((b : Int) == 2) = true := by simp; omega
           have HB := Lib.hid hb2
           clear hb2
           cases hl : leapN a
           · rw [hl] at HL HD
             clear hl
             go_enter Tryz.func93, Tryz.ntmps93
             go_upto_region 3 with fail
             go_quiet (fail)
             go_wp2_with fail
             refine (HL.out _).mono ?_
             rintro e w' ⟨rfl, h'⟩
             subst h'
             go_wp2
             go_ret
             exact ⟨ret_int (by rw [HD.out]; simp), Below.drewN (Below.refl _ _) _⟩
           · rw [hl] at HL HD
             clear hl
             go_enter Tryz.func93, Tryz.ntmps93
             go_upto_region 3 with fail
             go_quiet (fail)
             go_wp2_with fail
             refine (HL.out _).mono ?_
             rintro e w' ⟨rfl, h'⟩
             subst h'
             go_wp2
             go_ret
             exact ⟨ret_int (by rw [HD.out, if_pos ⟨HB.out, by simp⟩]), Below.drewN (Below.refl _ _) _⟩
         · have hb3 : ((b : Int) == 2) = false := by simp; omega
           have HD := Lib.hid (show daysZ a b = p - q by rw [HD.out, if_neg (by omega)]; omega)
           clear hb2
           go_enter Tryz.func93, Tryz.ntmps93
           go_upto_region 3 with fail
           go_quiet (fail)
           go_wp2
           go_ret
           exact ⟨ret_int (by rw [HD.out]), Below.drewN (Below.refl _ _) _⟩
       · have HD := Lib.hid (daysZ_no (y := y) (m := m) (by omega))
         go_enter Tryz.func93, Tryz.ntmps93
         go_wp2
         go_ret
         exact ⟨ret_int (by rw [HD.out]), Below.refl _ _⟩
     · have HD := Lib.hid (daysZ_no (y := y) (m := m) (by omega))
       go_enter Tryz.func93, Tryz.ntmps93
       go_wp2
       go_ret
       exact ⟨ret_int (by rw [HD.out]), Below.refl _ _⟩
   · have HD := Lib.hid (daysZ_no (y := y) (m := m) (by omega))
     go_enter Tryz.func93, Tryz.ntmps93
     go_wp2
     go_ret
     exact ⟨ret_int (by rw [HD.out]), Below.refl _ _⟩
 · have HD := Lib.hid (daysZ_no (y := y) (m := m) (by omega))
   go_enter Tryz.func93, Tryz.ntmps93
   go_wp2
   go_ret
   exact ⟨ret_int (by rw [HD.out]), Below.refl _ _⟩
end Go.Proofs.YtgghgcilpfdbjaaGreatDoor
