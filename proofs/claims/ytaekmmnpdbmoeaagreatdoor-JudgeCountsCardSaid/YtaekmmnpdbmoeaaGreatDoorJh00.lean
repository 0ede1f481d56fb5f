/- Plain functions on bytes: what the program's predicates on texts compute. No program in sight. JSON values as plain data (JV), and how they lie in memory (Rep). No program in sight. 'Touch S w w'': of the blocks that were there only those in S may have changed. No program in sight. What lies at a place in memory is one value; so no value lies within itself. No program in sight. Rows of values (and of texts) that a call builds by append: what they hold, and that it stays. No program in sight. The contract of value.endless: a value that can be read as data does not contain itself. Rows of two and of five cells that are stored to cell by cell; a result that lies in a cell of its own beside a plain one. No program in sight. The contracts of strings.Builder's copyCheck, WriteByte, WriteString and String (of a builder that holds a byte): the shelf's walks, turned to this program, whose copyCheck ends where a builder was copied. SHA-256 as plain functions on integers. No program in sight. -/
import Derived.Below
import Derived.Laws.Strings
import Derived.Deep.OwnRows
import Derived.Deep.Draws
import Derived.Deep.AppendLies
import Derived.Test.YtaekmmnpdbmoeaaGreatDoorProg
import Derived.WalkKit
import Derived.WalkSpells
import Derived.WalkLawsBesides
import Derived.Lib.Hide
import Derived.LaidEqlPtr
import Derived.Laws.ResultCell
import Derived.Lib.Builder
import Derived.Lib.AppendStr
import Derived.Lib.UnsafeStr
import Derived.Lib.FrozenHead2
import Derived.Lib.OthersKept
import Derived.Laws.Externs
import Derived.Laws.BitsAllLaws

namespace Go.Proofs.YtaekmmnpdbmoeaaGreatDoor
open Go.RowKit

def isHex (c : UInt8) : Bool := decide ((48 ≤ c.toNat ∧ c.toNat ≤ 57) ∨ (97 ≤ c.toNat ∧ c.toNat ≤ 102))
def hexN (c : UInt8) : Int := if 48 ≤ c.toNat ∧ c.toNat ≤ 57 then (c.toNat : Int) - 48 else if 97 ≤ c.toNat ∧ c.toNat ≤ 102 then (c.toNat : Int) - 97 + 10 else 0
def nameC (c : UInt8) : Bool :=
  decide ((97 ≤ c.toNat ∧ c.toNat ≤ 122) ∨ (65 ≤ c.toNat ∧ c.toNat ≤ 90) ∨ (48 ≤ c.toNat ∧ c.toNat ≤ 57) ∨ c.toNat = 46 ∨ c.toNat = 95 ∨ c.toNat = 45)
def allHex (l : List UInt8) : Bool := l.all isHex
def roleOk (l : List UInt8) : Bool := decide (1 ≤ l.length ∧ l.length ≤ 64) && !(l.headD 0 == 46) && l.all nameC
def pubOk (l : List UInt8) : Bool := decide (2 ≤ l.length ∧ l.length ≤ 128 ∧ l.length % 2 = 0) && allHex l

def keyOk (s p : List UInt8) : Bool := roleOk s && pubOk p
theorem ret_bool {a b : Bool} (h : a = b) : Ending.returned (.bool a) = .returned (.bool b) := by rw [h]
theorem ret_int {k : IntKind} {a b : Int} (h : a = b) : Ending.returned (.int k a) = .returned (.int k b) := by rw [h]

theorem ret_ib {k : IntKind} {a b : Int} {x y : Bool} (h : a = b) (h' : x = y) : Ending.returned (.tuple #[.int k a, .bool x]) = .returned (.tuple #[.int k b, .bool y]) := by rw [h, h']
theorem hexN_dig {c : UInt8} (h : 48 ≤ (c.toNat : Int)) (h' : (c.toNat : Int) ≤ 57) : hexN c = (c.toNat : Int) - 48 ∧ isHex c = true := by
  unfold hexN isHex; rw [if_pos (by omega)]; exact ⟨rfl, by simp; omega⟩
theorem hexN_let {c : UInt8} (h : 97 ≤ (c.toNat : Int)) (h' : (c.toNat : Int) ≤ 102) : hexN c = (c.toNat : Int) - 97 + 10 ∧ isHex c = true := by
  unfold hexN isHex; rw [if_neg (by omega), if_pos (by omega)]; exact ⟨rfl, by simp; omega⟩
theorem hexN_no {c : UInt8} (h : ¬ (48 ≤ (c.toNat : Int) ∧ (c.toNat : Int) ≤ 57)) (h' : ¬ (97 ≤ (c.toNat : Int) ∧ (c.toNat : Int) ≤ 102)) : hexN c = 0 ∧ isHex c = false := by
  unfold hexN isHex; rw [if_neg (by omega), if_neg (by omega)]; exact ⟨rfl, by simp; omega⟩
theorem toList_get (s : ByteArray) (k : Nat) (h : k < s.size) : s.data.toList[k]'(by simpa using h) = s[k] := rfl
theorem toList_length (s : ByteArray) : s.data.toList.length = s.size := by simp
theorem take_snoc (s : ByteArray) (k : Nat) (h : k < s.size) : s.data.toList.take (k + 1) = s.data.toList.take k ++ [s[k]] := by
  rw [List.take_succ_eq_append_getElem (by simpa using h)]; rfl
theorem all_take_succ (p : UInt8 → Bool) (s : ByteArray) (k : Nat) (h : k < s.size) : (s.data.toList.take (k + 1)).all p = ((s.data.toList.take k).all p && p s[k]) := by
  rw [take_snoc s k h, List.all_append]; simp
theorem all_of_take (p : UInt8 → Bool) (s : ByteArray) (h : (s.data.toList.take s.size).all p = true) : s.data.toList.all p = true := by
  rwa [List.take_of_length_le (by simp)] at h
theorem all_false (p : UInt8 → Bool) (s : ByteArray) (k : Nat) (h : k < s.size) (hp : p s[k] = false) : s.data.toList.all p = false := by
  rw [List.all_eq_false]; exact ⟨s[k], by rw [← toList_get s k h]; exact List.getElem_mem _, by simp [hp]⟩

theorem nameC_true {c : UInt8} (h : (97 ≤ (c.toNat : Int) ∧ (c.toNat : Int) ≤ 122) ∨ (65 ≤ (c.toNat : Int) ∧ (c.toNat : Int) ≤ 90) ∨ (48 ≤ (c.toNat : Int) ∧ (c.toNat : Int) ≤ 57) ∨ (c.toNat : Int) = 46 ∨ (c.toNat : Int) = 95 ∨ (c.toNat : Int) = 45) : nameC c = true := by
  unfold nameC; simp; omega
theorem nameC_false {c : UInt8} (h : ¬ ((97 ≤ (c.toNat : Int) ∧ (c.toNat : Int) ≤ 122) ∨ (65 ≤ (c.toNat : Int) ∧ (c.toNat : Int) ≤ 90) ∨ (48 ≤ (c.toNat : Int) ∧ (c.toNat : Int) ≤ 57) ∨ (c.toNat : Int) = 46 ∨ (c.toNat : Int) = 95 ∨ (c.toNat : Int) = 45)) : nameC c = false := by
  unfold nameC; simp; omega
theorem toList_ne (s : ByteArray) (h : 0 < s.size) : ¬ s.toList = [] ∧ s.toList.isEmpty = false := by
  have e : s.toList = s.data.toList := ByteArray.toList_eq s
  have l := toList_length s
  rw [e]; constructor
  · intro h0; rw [h0] at l; simp at l; omega
  · cases h1 : s.data.toList with
    | nil => rw [h1] at l; simp at l; omega
    | cons a r => rfl
theorem toList_nil (s : ByteArray) (h : s.size = 0) : s.toList = [] := by
  have e : s.toList = s.data.toList := ByteArray.toList_eq s
  rw [e]; exact List.eq_nil_of_length_eq_zero (by simpa using h)
theorem headD_get (s : ByteArray) (h : 0 < s.size) : s.data.toList.headD 0 = s[0] := by
  have l := toList_length s
  have g : ∀ (L : List UInt8) (hL : 0 < L.length), L.headD 0 = L[0] := fun L hL => by cases L with
    | nil => simp at hL
    | cons a r => rfl
  rw [← toList_get s 0 h]; exact g _ (by omega)
theorem role_len {s : ByteArray} (h : s.size < 1 ∨ 64 < s.size) : roleOk s.data.toList = false := by
  unfold roleOk; rw [toList_length, decide_eq_false (by omega)]; rfl
theorem role_dot {s : ByteArray} (h0 : 0 < s.size) (h : s[0].toNat = 46) : roleOk s.data.toList = false := by
  unfold roleOk; rw [headD_get s h0]
  have : s[0] = 46 := by apply UInt8.toNat_inj.1; exact h
  rw [this]; simp
theorem role_bad {s : ByteArray} (k : Nat) (hk : k < s.size) (h : nameC s[k] = false) : roleOk s.data.toList = false := by
  unfold roleOk; rw [all_false nameC s k hk h]; simp
theorem role_good {s : ByteArray} (h0 : 0 < s.size) (h1 : s.size ≤ 64) (h2 : ¬ s[0].toNat = 46) (h : (s.data.toList.take s.size).all nameC = true) : roleOk s.data.toList = true := by
  unfold roleOk; rw [all_of_take nameC s h, headD_get s h0, toList_length]
  have : ¬ s[0] = 46 := fun e => h2 (by rw [e]; rfl)
  simp [this]; omega

theorem pub_no {s : ByteArray} (h : s.size < 2 ∨ 128 < s.size ∨ s.size % 2 = 1) : pubOk s.data.toList = false := by
  unfold pubOk; rw [toList_length, decide_eq_false (by omega)]; rfl
theorem pub_hex {s : ByteArray} (h1 : 2 ≤ s.size) (h2 : s.size ≤ 128) (h3 : s.size % 2 = 0) : pubOk s.data.toList = allHex s.data.toList := by
  unfold pubOk; rw [toList_length, decide_eq_true ⟨h1, h2, h3⟩]; simp

end Go.Proofs.YtaekmmnpdbmoeaaGreatDoor

namespace Go.Proofs.YtaekmmnpdbmoeaaGreatDoor
open Go.RowKit

/-- A value of JSON as data: kind, number, text, names, items. -/
inductive JV where
  | mk (kind n : Int) (t : ByteArray) (names : List ByteArray) (items : List JV)

namespace JV
def kind : JV → Int | mk k _ _ _ _ => k
def n : JV → Int | mk _ n _ _ _ => n
def t : JV → ByteArray | mk _ _ t _ _ => t
def names : JV → List ByteArray | mk _ _ _ ns _ => ns
def items : JV → List JV | mk _ _ _ _ xs => xs
end JV

def bytesSum : List ByteArray → Nat
  | [] => 0
  | s :: r => s.size + 1 + bytesSum r

mutual
/-- How much there is in a value. -/
def JV.wt : JV → Nat
  | .mk _ _ t ns xs => 1 + t.size + bytesSum ns + JV.wts xs
def JV.wts : List JV → Nat
  | [] => 0
  | x :: r => JV.wt x + JV.wts r
end

mutual
/-- The numbers are of their kinds. -/
def JV.num : JV → Prop
  | .mk k n _ _ xs => (0 ≤ k ∧ k ≤ 255) ∧ (-9223372036854775808 ≤ n ∧ n ≤ 9223372036854775807) ∧ JV.nums xs
def JV.nums : List JV → Prop
  | [] => True
  | x :: r => JV.num x ∧ JV.nums r
end

/-- A row of texts behind an address. -/
def StrsAt (w : World) (lo hi : Nat) (a : Option Addr) (l : List ByteArray) : Prop :=
  l = [] ∨ ∃ b off, a = some ⟨b, off, none⟩ ∧ lo ≤ b ∧ b < hi ∧ ∀ i (h : i < l.length), w.cell? ⟨b, off + i, none⟩ = some (.string l[i])

/-- A block of cells; of the call's own ('0 < lo') it bears no mark. (A block that came in may bear one.) -/
def BlkU (w : World) (lo b : Nat) : Prop := ∃ cs t fr, w.heap[b]? = some (.cells cs t fr) ∧ (0 < lo → fr = (0, 0))

mutual
/-- The value 'x' of Go's is 'v'; all blocks that it leads to lie from lo on, below hi. -/
def Rep (w : World) (lo hi : Nat) : JV → Value → Prop
  | .mk k n t ns xs, x => ∃ an cn ai ci, x = .agg #[.int .u8 k, .int .i64 n, .string t, .slice an ns.length cn, .slice ai xs.length ci] ∧ ns.length ≤ cn ∧ xs.length ≤ ci ∧
      StrsAt w lo hi an ns ∧ (xs = [] ∨ ∃ b off, ai = some ⟨b, off, none⟩ ∧ lo ≤ b ∧ b < hi ∧ BlkU w lo b ∧ RepL w lo hi xs b off)
/-- Values in a row, five cells each. -/
def RepL (w : World) (lo hi : Nat) : List JV → Nat → Nat → Prop
  | [], _, _ => True
  | v :: r, b, off => (∃ c0 c1 c2 c3 c4, w.cell? ⟨b, off, none⟩ = some c0 ∧ w.cell? ⟨b, off + 1, none⟩ = some c1 ∧ w.cell? ⟨b, off + 2, none⟩ = some c2 ∧ w.cell? ⟨b, off + 3, none⟩ = some c3 ∧ w.cell? ⟨b, off + 4, none⟩ = some c4 ∧ w.frozen? ⟨b, off, none⟩ = false ∧
      Rep w lo hi v (.agg #[c0, c1, c2, c3, c4])) ∧ RepL w lo hi r b (off + 5)
end

def ValsAt (w : World) (lo hi : Nat) (a : Option Addr) (l : List JV) : Prop :=
  l = [] ∨ ∃ b off, a = some ⟨b, off, none⟩ ∧ lo ≤ b ∧ b < hi ∧ BlkU w lo b ∧ RepL w lo hi l b off

/-- A slice of texts. -/
def SStr (w : World) (lo hi : Nat) (l : List ByteArray) (x : Value) : Prop := ∃ a c, x = .slice a l.length c ∧ l.length ≤ c ∧ StrsAt w lo hi a l
/-- A slice of values. -/
def SVal (w : World) (lo hi : Nat) (l : List JV) (x : Value) : Prop := ∃ a c, x = .slice a l.length c ∧ l.length ≤ c ∧ ValsAt w lo hi a l

theorem Rep.parts {w : World} {lo hi : Nat} {v : JV} {x : Value} (h : Rep w lo hi v x) :
    ∃ an cn ai ci, x = .agg #[.int .u8 v.kind, .int .i64 v.n, .string v.t, .slice an v.names.length cn, .slice ai v.items.length ci] ∧ v.names.length ≤ cn ∧ v.items.length ≤ ci ∧ StrsAt w lo hi an v.names ∧ ValsAt w lo hi ai v.items := by
  cases v; unfold Rep at h; exact h

theorem Rep.mk {w : World} {lo hi : Nat} {v : JV} {an ai : Option Addr} {cn ci : Nat} (h1 : v.names.length ≤ cn) (h2 : v.items.length ≤ ci) (h3 : StrsAt w lo hi an v.names) (h4 : ValsAt w lo hi ai v.items) :
    Rep w lo hi v (.agg #[.int .u8 v.kind, .int .i64 v.n, .string v.t, .slice an v.names.length cn, .slice ai v.items.length ci]) := by
  cases v; unfold Rep; exact ⟨an, cn, ai, ci, rfl, h1, h2, h3, h4⟩

theorem RepL.at {w : World} {lo hi : Nat} : ∀ {l : List JV} {b off : Nat} (_ : RepL w lo hi l b off) (i : Nat) (h : i < l.length),
    ∃ c0 c1 c2 c3 c4, w.cell? ⟨b, off + i * 5, none⟩ = some c0 ∧ w.cell? ⟨b, off + i * 5 + 1, none⟩ = some c1 ∧ w.cell? ⟨b, off + i * 5 + 2, none⟩ = some c2 ∧ w.cell? ⟨b, off + i * 5 + 3, none⟩ = some c3 ∧ w.cell? ⟨b, off + i * 5 + 4, none⟩ = some c4 ∧ w.frozen? ⟨b, off + i * 5, none⟩ = false ∧
      Rep w lo hi l[i] (.agg #[c0, c1, c2, c3, c4])
  | [], _, _, _, i, h => by simp at h
  | v :: r, b, off, hr, 0, _ => by unfold RepL at hr; exact hr.1
  | v :: r, b, off, hr, i + 1, h => by
    unfold RepL at hr
    have := RepL.at hr.2 i (by simpa using h)
    rw [show off + (i + 1) * 5 = off + 5 + i * 5 by omega]
    exact this

theorem RepL.of_at {w : World} {lo hi : Nat} : ∀ {l : List JV} {b off : Nat} (_ : ∀ (i : Nat) (h : i < l.length),
    ∃ c0 c1 c2 c3 c4, w.cell? ⟨b, off + i * 5, none⟩ = some c0 ∧ w.cell? ⟨b, off + i * 5 + 1, none⟩ = some c1 ∧ w.cell? ⟨b, off + i * 5 + 2, none⟩ = some c2 ∧ w.cell? ⟨b, off + i * 5 + 3, none⟩ = some c3 ∧ w.cell? ⟨b, off + i * 5 + 4, none⟩ = some c4 ∧ w.frozen? ⟨b, off + i * 5, none⟩ = false ∧
      Rep w lo hi l[i] (.agg #[c0, c1, c2, c3, c4])), RepL w lo hi l b off
  | [], _, _, _ => by unfold RepL; trivial
  | v :: r, b, off, hr => by
    unfold RepL
    refine ⟨hr 0 (by simp), RepL.of_at fun i h => ?_⟩
    have := hr (i + 1) (by simpa using h)
    rw [show off + (i + 1) * 5 = off + 5 + i * 5 by omega] at this
    exact this

theorem BlkU.carry {w w' : World} {lo lo' b : Nat} (h : BlkU w lo b) (h1 : lo' ≤ lo) (hs : w'.heap[b]? = w.heap[b]?) : BlkU w' lo' b := by
  obtain ⟨cs, t, fr, h2, h3⟩ := h
  exact ⟨cs, t, fr, by rw [hs]; exact h2, fun h0 => h3 (by omega)⟩
theorem StrsAt.carry {w w' : World} {lo hi lo' hi' : Nat} {a : Option Addr} {l : List ByteArray} (h : StrsAt w lo hi a l) (h1 : lo' ≤ lo) (h2 : hi ≤ hi')
    (hs : ∀ b, lo ≤ b → b < hi → w'.heap[b]? = w.heap[b]?) : StrsAt w' lo' hi' a l := by
  rcases h with h | ⟨b, off, ha, hb, hb', hc⟩
  · exact .inl h
  · refine .inr ⟨b, off, ha, by omega, by omega, fun i hi => ?_⟩
    rw [World.cell?_of_block (w := w) (hs b hb hb')]; exact hc i hi

mutual
theorem Rep.carry {w w' : World} {lo hi lo' hi' : Nat} (h1 : lo' ≤ lo) (h2 : hi ≤ hi') (hs : ∀ b, lo ≤ b → b < hi → w'.heap[b]? = w.heap[b]?) :
    ∀ (v : JV) (x : Value), Rep w lo hi v x → Rep w' lo' hi' v x
  | .mk k n t ns xs, x, h => by
    unfold Rep at h ⊢
    obtain ⟨an, cn, ai, ci, rfl, h3, h4, h5, h6⟩ := h
    refine ⟨an, cn, ai, ci, rfl, h3, h4, h5.carry h1 h2 hs, ?_⟩
    rcases h6 with h6 | ⟨b, off, ha, hb, hb', hu, hr⟩
    · exact .inl h6
    · exact .inr ⟨b, off, ha, by omega, by omega, hu.carry h1 (hs b hb hb'), RepL.carry h1 h2 hs xs b off hb hb' hr⟩
theorem RepL.carry {w w' : World} {lo hi lo' hi' : Nat} (h1 : lo' ≤ lo) (h2 : hi ≤ hi') (hs : ∀ b, lo ≤ b → b < hi → w'.heap[b]? = w.heap[b]?) :
    ∀ (l : List JV) (b off : Nat), lo ≤ b → b < hi → RepL w lo hi l b off → RepL w' lo' hi' l b off
  | [], _, _, _, _, _ => by unfold RepL; trivial
  | v :: r, b, off, hb, hb', h => by
    unfold RepL at h ⊢
    obtain ⟨⟨c0, c1, c2, c3, c4, e0, e1, e2, e3, e4, hf, hv⟩, hr⟩ := h
    have hz : w'.frozen? ⟨b, off, none⟩ = w.frozen? ⟨b, off, none⟩ := World.frozen?_of_block (w := w) (hs b hb hb')
    have hc : ∀ o, w'.cell? ⟨b, o, none⟩ = w.cell? ⟨b, o, none⟩ := fun o => World.cell?_of_block (w := w) (hs b hb hb')
    exact ⟨⟨c0, c1, c2, c3, c4, by rw [hc, e0], by rw [hc, e1], by rw [hc, e2], by rw [hc, e3], by rw [hc, e4], by rw [hz, hf], Rep.carry h1 h2 hs v _ hv⟩, RepL.carry h1 h2 hs r b (off + 5) hb hb' hr⟩
end

theorem Rep.below {w w' : World} {lo hi lo' hi' B : Nat} {v : JV} {x : Value} (h : Rep w lo hi v x) (hb : Below B w w') (hB : hi ≤ B) (h1 : lo' ≤ lo) (h2 : hi ≤ hi') : Rep w' lo' hi' v x :=
  Rep.carry h1 h2 (fun b _ hlt => hb.block b (by omega)) v x h
theorem StrsAt.below {w w' : World} {lo hi lo' hi' B : Nat} {a : Option Addr} {l : List ByteArray} (h : StrsAt w lo hi a l) (hb : Below B w w') (hB : hi ≤ B) (h1 : lo' ≤ lo) (h2 : hi ≤ hi') : StrsAt w' lo' hi' a l :=
  h.carry h1 h2 fun b _ hlt => hb.block b (by omega)
theorem ValsAt.carry {w w' : World} {lo hi lo' hi' : Nat} {a : Option Addr} {l : List JV} (h : ValsAt w lo hi a l) (h1 : lo' ≤ lo) (h2 : hi ≤ hi')
    (hs : ∀ b, lo ≤ b → b < hi → w'.heap[b]? = w.heap[b]?) : ValsAt w' lo' hi' a l := by
  rcases h with h | ⟨b, off, ha, hb, hb', hu, hr⟩
  · exact .inl h
  · exact .inr ⟨b, off, ha, by omega, by omega, hu.carry h1 (hs b hb hb'), RepL.carry h1 h2 hs l b off hb hb' hr⟩
theorem ValsAt.below {w w' : World} {lo hi lo' hi' B : Nat} {a : Option Addr} {l : List JV} (h : ValsAt w lo hi a l) (hb : Below B w w') (hB : hi ≤ B) (h1 : lo' ≤ lo) (h2 : hi ≤ hi') : ValsAt w' lo' hi' a l :=
  h.carry h1 h2 fun b _ hlt => hb.block b (by omega)

/-- An element of a row of values. -/
theorem ValsAt.at {w : World} {lo hi : Nat} {a : Option Addr} {l : List JV} (h : ValsAt w lo hi a l) (i : Nat) (hi' : i < l.length) :
    ∃ b off c0 c1 c2 c3 c4, a = some ⟨b, off, none⟩ ∧ lo ≤ b ∧ b < hi ∧ w.cell? ⟨b, off + i * 5, none⟩ = some c0 ∧ w.cell? ⟨b, off + i * 5 + 1, none⟩ = some c1 ∧ w.cell? ⟨b, off + i * 5 + 2, none⟩ = some c2 ∧ w.cell? ⟨b, off + i * 5 + 3, none⟩ = some c3 ∧ w.cell? ⟨b, off + i * 5 + 4, none⟩ = some c4 ∧
      Rep w lo hi l[i] (.agg #[c0, c1, c2, c3, c4]) := by
  rcases h with h | ⟨b, off, ha, hb, hb', _, hr⟩
  · rw [h] at hi'; simp at hi'
  · obtain ⟨c0, c1, c2, c3, c4, r0, r1, r2, r3, r4, _, r⟩ := hr.at i hi'
    exact ⟨b, off, c0, c1, c2, c3, c4, ha, hb, hb', r0, r1, r2, r3, r4, r⟩
theorem ValsAt.blk {w : World} {lo hi b off : Nat} {l : List JV} (h : ValsAt w lo hi (some ⟨b, off, none⟩) l) (i : Nat) (hi' : i < l.length) : BlkU w lo b ∧ w.frozen? ⟨b, off + i * 5, none⟩ = false := by
  rcases h with h | ⟨b', off', ha, hb, hb', hu, hr⟩
  · rw [h] at hi'; simp at hi'
  · simp only [Option.some.injEq, Addr.mk.injEq, and_true] at ha
    obtain ⟨rfl, rfl⟩ := ha
    obtain ⟨c0, c1, c2, c3, c4, r0, r1, r2, r3, r4, hf, r⟩ := hr.at i hi'
    exact ⟨hu, hf⟩
/-- .. its cells written out. -/
theorem ValsAt.get {w : World} {lo hi : Nat} {a : Option Addr} {l : List JV} (h : ValsAt w lo hi a l) (i : Nat) (hi' : i < l.length) :
    ∃ b off an cn ai ci, a = some ⟨b, off, none⟩ ∧ lo ≤ b ∧ b < hi ∧ w.cell? ⟨b, off + i * 5, none⟩ = some (.int .u8 l[i].kind) ∧ w.cell? ⟨b, off + i * 5 + 1, none⟩ = some (.int .i64 l[i].n) ∧ w.cell? ⟨b, off + i * 5 + 2, none⟩ = some (.string l[i].t) ∧
      w.cell? ⟨b, off + i * 5 + 3, none⟩ = some (.slice an l[i].names.length cn) ∧ w.cell? ⟨b, off + i * 5 + 4, none⟩ = some (.slice ai l[i].items.length ci) ∧
      Rep w lo hi l[i] (.agg #[.int .u8 l[i].kind, .int .i64 l[i].n, .string l[i].t, .slice an l[i].names.length cn, .slice ai l[i].items.length ci]) := by
  obtain ⟨b, off, c0, c1, c2, c3, c4, ha, hb, hb', e0, e1, e2, e3, e4, hr⟩ := h.at i hi'
  obtain ⟨an, cn, ai, ci, hx, _⟩ := hr.parts
  simp only [Value.agg.injEq, Array.mk.injEq, List.cons.injEq, and_true] at hx
  obtain ⟨rfl, rfl, rfl, rfl, rfl⟩ := hx
  exact ⟨b, off, an, cn, ai, ci, ha, hb, hb', e0, e1, e2, e3, e4, hr⟩
theorem StrsAt.at {w : World} {lo hi : Nat} {a : Option Addr} {l : List ByteArray} (h : StrsAt w lo hi a l) (i : Nat) (hi' : i < l.length) :
    ∃ b off, a = some ⟨b, off, none⟩ ∧ lo ≤ b ∧ b < hi ∧ w.cell? ⟨b, off + i, none⟩ = some (.string l[i]) := by
  rcases h with h | ⟨b, off, ha, hb, hb', hr⟩
  · rw [h] at hi'; simp at hi'
  · exact ⟨b, off, ha, hb, hb', hr i hi'⟩

theorem JV.wt_eq (v : JV) : v.wt = 1 + v.t.size + bytesSum v.names + JV.wts v.items := by cases v; simp [JV.wt, JV.t, JV.names, JV.items]
theorem JV.wt_pos (v : JV) : 1 ≤ v.wt := by rw [JV.wt_eq]; omega
theorem bytesSum_get : ∀ (l : List ByteArray) (i : Nat) (h : i < l.length), l[i].size + 1 ≤ bytesSum l
  | s :: r, 0, _ => by simp [bytesSum]
  | s :: r, i + 1, h => by have := bytesSum_get r i (by simpa using h); simp [bytesSum]; omega
theorem bytesSum_len : ∀ (l : List ByteArray), l.length ≤ bytesSum l
  | [] => by simp [bytesSum]
  | s :: r => by have := bytesSum_len r; simp [bytesSum]; omega
theorem JV.wts_get : ∀ (l : List JV) (i : Nat) (h : i < l.length), l[i].wt ≤ JV.wts l
  | s :: r, 0, _ => by simp [JV.wts]
  | s :: r, i + 1, h => by have := JV.wts_get r i (by simpa using h); simp [JV.wts]; omega
theorem JV.wts_len : ∀ (l : List JV), l.length ≤ JV.wts l
  | [] => by simp
  | s :: r => by have := JV.wts_len r; have := JV.wt_pos s; simp [JV.wts]; omega
theorem JV.wt_bd (v : JV) : v.t.size ≤ v.wt ∧ v.names.length ≤ v.wt ∧ v.items.length ≤ v.wt ∧ JV.wts v.items < v.wt := by
  have := JV.wt_eq v; have := bytesSum_len v.names; have := JV.wts_len v.items; omega
theorem JV.nums_get : ∀ (l : List JV) (i : Nat) (h : i < l.length), JV.nums l → JV.num l[i]
  | s :: r, 0, _, h => by unfold JV.nums at h; exact h.1
  | s :: r, i + 1, hi, h => by unfold JV.nums at h; exact JV.nums_get r i (by simpa using hi) h.2
theorem JV.num_parts {v : JV} (h : v.num) : (0 ≤ v.kind ∧ v.kind ≤ 255) ∧ (-9223372036854775808 ≤ v.n ∧ v.n ≤ 9223372036854775807) ∧ JV.nums v.items := by
  cases v; unfold JV.num at h; exact h

end Go.Proofs.YtaekmmnpdbmoeaaGreatDoor

namespace Go.Proofs.YtaekmmnpdbmoeaaGreatDoor
open Go.RowKit

structure Touch (S : Nat → Prop) (w w' : World) : Prop where
  os : w'.os = w.os
  tape : w'.tape = w.tape
  output : w'.output = w.output
  size : w.heap.size ≤ w'.heap.size
  block : ∀ k, k < w.heap.size → ¬ S k → w'.heap[k]? = w.heap[k]?

theorem Touch.refl (S : Nat → Prop) (w : World) : Touch S w w := ⟨rfl, rfl, rfl, Nat.le_refl _, fun _ _ _ => rfl⟩
theorem Touch.trans {S : Nat → Prop} {a b c : World} (h : Touch S a b) (k : Touch S b c) : Touch S a c :=
  ⟨k.os.trans h.os, k.tape.trans h.tape, k.output.trans h.output, Nat.le_trans h.size k.size, fun i hi hs => (k.block i (Nat.lt_of_lt_of_le hi h.size) hs).trans (h.block i hi hs)⟩
theorem Touch.mono {S S' : Nat → Prop} {w w' : World} (h : Touch S w w') (hs : ∀ k, k < w.heap.size → S k → S' k) : Touch S' w w' := ⟨h.os, h.tape, h.output, h.size, fun k hk hn => h.block k hk fun s => hn (hs k hk s)⟩
theorem Touch.of_below {S : Nat → Prop} {w w' : World} {B : Nat} (h : Below B w w') (hB : w.heap.size ≤ B) : Touch S w w' := ⟨h.os, h.tape, h.output, h.size, fun k hk _ => h.block k (by omega)⟩
theorem Touch.below {S : Nat → Prop} {w w' : World} {B : Nat} (h : Touch S w w') (hB : B ≤ w.heap.size) (hs : ∀ k, k < B → ¬ S k) : Below B w w' := ⟨h.os, h.tape, h.output, h.size, fun k hk => h.block k (by omega) (hs k hk)⟩
theorem Touch.drew {S : Nat → Prop} {a w : World} (h : Touch S a w) : Touch S a w.drew := ⟨h.os, h.tape, h.output, h.size, h.block⟩
theorem Touch.drewN {S : Nat → Prop} {a w : World} (h : Touch S a w) (n : Nat) : Touch S a (w.drewN n) := ⟨h.os, h.tape, h.output, h.size, h.block⟩
theorem Touch.alloc {S : Nat → Prop} {a w : World} (h : Touch S a w) (o : Obj) : Touch S a (w.alloc o) :=
  ⟨h.os, h.tape, h.output, by have := h.size; simp; omega, fun k hk hs => by rw [Below.heap_alloc _ _ _ (Nat.lt_of_lt_of_le hk h.size)]; exact h.block k hk hs⟩
theorem Touch.setCell {S : Nat → Prop} {a w : World} (h : Touch S a w) {p : Addr} (hp : S p.block ∨ a.heap.size ≤ p.block) (u : Value) : Touch S a (w.setCell p u) :=
  ⟨h.os, h.tape, h.output, by have := h.size; simp [World.setCell]; omega, fun k hk hs => by
    rw [Below.heap_setCell _ _ _ _ (fun e => by rcases hp with hp | hp; exact hs (e ▸ hp); omega)]; exact h.block k hk hs⟩
theorem Touch.cell {S : Nat → Prop} {w w' : World} (h : Touch S w w') {p : Addr} (hp : p.block < w.heap.size) (hs : ¬ S p.block) : w'.cell? p = w.cell? p := World.cell?_of_block (w := w) (h.block p.block hp hs)
theorem Touch.frozen {S : Nat → Prop} {w w' : World} (h : Touch S w w') {p : Addr} (hp : p.block < w.heap.size) (hs : ¬ S p.block) : w'.frozen? p = w.frozen? p := World.frozen?_of_block (w := w) (h.block p.block hp hs)
theorem Touch.row {S : Nat → Prop} {w w' : World} (h : Touch S w w') {b t n : Nat} {f : Nat → Value} (hr : w.rowIs b t n f) (hs : ¬ S b) : w'.rowIs b t n f := hr.of_block (h.block b hr.lt hs)
theorem Below.drewN {B : Nat} {a w : World} (h : Below B a w) (n : Nat) : Below B a (w.drewN n) := ⟨h.os, h.tape, h.output, h.size, h.block⟩
theorem below_row {B : Nat} {w w' : World} (h : Below B w w') {b t n : Nat} {f : Nat → Value} (hr : w.rowIs b t n f) (hb : b < B) : w'.rowIs b t n f := hr.of_block (h.block b hb)

theorem rowIs_rep (w : World) (z : Value) (n : Nat) (t : TypeId) (f : Nat → Value) (hf : ∀ i, i < n → f i = z) : (w.alloc (.cells (Array.replicate n z) t)).rowIs w.heap.size t n f := by
  have := World.rowIs_alloc w (Array.replicate n z) t f (by intro i hi; simp at hi; simp [hi, hf i hi])
  simpa using this

theorem rowIs_any (w : World) (c : Array Value) (t n : Nat) (hn : c.size = n) : (w.alloc (.cells c t)).rowIs w.heap.size t n (fun i => c.getD i default) := by
  have := World.rowIs_alloc w c t (fun i => c.getD i default) (fun i hi => by simp [hi])
  rwa [hn] at this
theorem rowIs_eq {w : World} {c : Array Value} {t n : Nat} {f : Nat → Value} (h : c = ((List.range n).map f).toArray) : (w.alloc (.cells c t)).rowIs w.heap.size t n f := by
  subst h
  have := World.rowIs_alloc w ((List.range n).map f).toArray t f (fun i hi => by simp at hi; simp [hi])
  simpa using this
theorem cell_alloc_lt {w : World} (o : Obj) {p : Addr} (h : p.block < w.heap.size) : (w.alloc o).cell? p = w.cell? p := World.cell?_of_block (w := w) (Below.heap_alloc w o p.block h)
theorem cell_setCell_ne {w : World} {p q : Addr} (u : Value) (h : p.block ≠ q.block) : (w.setCell q u).cell? p = w.cell? p := World.cell?_of_block (w := w) (Below.heap_setCell w q u p.block h)
def pick5 (v0 v1 v2 v3 v4 : Value) : Nat → Value
  | 0 => v0 | 1 => v1 | 2 => v2 | 3 => v3 | _ => v4
theorem rowIs_box5 (w : World) (v0 v1 v2 v3 v4 : Value) (t : Nat) : (w.alloc (.cells #[v0, v1, v2, v3, v4] t)).rowIs w.heap.size t 5 (pick5 v0 v1 v2 v3 v4) := rowIs_eq rfl
theorem row5_heap {w : World} {b t : Nat} {v0 v1 v2 v3 v4 : Value} (h : w.rowIs b t 5 (pick5 v0 v1 v2 v3 v4)) : w.heap[b]? = some (.cells #[v0, v1, v2, v3, v4] t (0, 0)) := by
  obtain ⟨c, hc, hn, hf⟩ := h
  have e : c = #[v0, v1, v2, v3, v4] := by
    apply Array.ext (by simp [hn])
    intro i h1 h2
    have := hf i (by omega)
    rw [Array.getElem?_eq_getElem h1] at this
    have h3 := Option.some.inj this
    rw [h3]
    rcases i with _ | _ | _ | _ | _ | i <;> first | rfl | (simp at h2; omega)
  rw [hc, e]
def pick8 (v0 v1 v2 v3 v4 v5 v6 v7 : Value) : Nat → Value
  | 0 => v0 | 1 => v1 | 2 => v2 | 3 => v3 | 4 => v4 | 5 => v5 | 6 => v6 | _ => v7
theorem set8 {W : World} {b t : Nat} {f : Nat → Value} (v0 v1 v2 v3 v4 v5 v6 v7 : Value) (h : W.rowIs b t 8 f) :
    ((((((((W.setCell ⟨b, 0, none⟩ v0).setCell ⟨b, 1, none⟩ v1).setCell ⟨b, 2, none⟩ v2).setCell ⟨b, 3, none⟩ v3).setCell ⟨b, 4, none⟩ v4).setCell ⟨b, 5, none⟩ v5).setCell ⟨b, 6, none⟩ v6).setCell ⟨b, 7, none⟩ v7).rowIs b t 8 (pick8 v0 v1 v2 v3 v4 v5 v6 v7) := by
  refine ((((((((h.set 0 v0).set 1 v1).set 2 v2).set 3 v3).set 4 v4).set 5 v5).set 6 v6).set 7 v7).congr fun j hj => ?_
  rcases j with _ | _ | _ | _ | _ | _ | _ | _ | j <;> first | rfl | omega
theorem below8 {B : Nat} {a W : World} {b : Nat} (v0 v1 v2 v3 v4 v5 v6 v7 : Value) (h : Below B a W) (hb : B ≤ b) :
    Below B a ((((((((W.setCell ⟨b, 0, none⟩ v0).setCell ⟨b, 1, none⟩ v1).setCell ⟨b, 2, none⟩ v2).setCell ⟨b, 3, none⟩ v3).setCell ⟨b, 4, none⟩ v4).setCell ⟨b, 5, none⟩ v5).setCell ⟨b, 6, none⟩ v6).setCell ⟨b, 7, none⟩ v7) :=
  (((((((h.setCell hb v0).setCell hb v1).setCell hb v2).setCell hb v3).setCell hb v4).setCell hb v5).setCell hb v6).setCell hb v7

end Go.Proofs.YtaekmmnpdbmoeaaGreatDoor

namespace Go.Proofs.YtaekmmnpdbmoeaaGreatDoor
open Go.RowKit

theorem StrsAt.inj {w : World} {lo hi lo' hi' : Nat} {a : Option Addr} {l m : List ByteArray} (hl : l.length = m.length) (h : StrsAt w lo hi a l) (h' : StrsAt w lo' hi' a m) : l = m := by
  rcases h with rfl | ⟨b, off, ha, _, _, hc⟩
  · exact (List.eq_nil_of_length_eq_zero (by rw [← hl]; rfl)).symm
  · rcases h' with rfl | ⟨b', off', ha', _, _, hc'⟩
    · exact List.eq_nil_of_length_eq_zero (by rw [hl]; rfl)
    · rw [ha] at ha'
      simp only [Option.some.injEq, Addr.mk.injEq, and_true] at ha'
      obtain ⟨rfl, rfl⟩ := ha'
      apply List.ext_getElem hl
      intro i h1 h2
      have e1 := hc i h1
      have e2 := hc' i h2
      rw [e1] at e2
      simpa using e2

mutual
theorem Rep.inj {w : World} {lo hi lo' hi' : Nat} : ∀ (v u : JV) (x : Value), Rep w lo hi v x → Rep w lo' hi' u x → v = u
  | .mk k n t ns xs, .mk k' n' t' ns' xs', x, h, h' => by
    unfold Rep at h h'
    obtain ⟨an, cn, ai, ci, hx, h1, h2, h3, h4⟩ := h
    obtain ⟨an', cn', ai', ci', hx', h1', h2', h3', h4'⟩ := h'
    rw [hx] at hx'
    simp only [Value.agg.injEq, Array.mk.injEq, List.cons.injEq, and_true, Value.int.injEq, true_and, Value.string.injEq, Value.slice.injEq] at hx'
    obtain ⟨rfl, rfl, rfl, ⟨rfl, e1, _⟩, rfl, e2, _⟩ := hx'
    have en := h3.inj e1 h3'
    subst en
    rcases h4 with rfl | ⟨b, off, ha, _, _, _, hr⟩
    · have : xs' = [] := List.eq_nil_of_length_eq_zero (by rw [← e2]; rfl)
      subst this; rfl
    · rcases h4' with rfl | ⟨b', off', ha', _, _, _, hr'⟩
      · have : xs = [] := List.eq_nil_of_length_eq_zero (by rw [e2]; rfl)
        subst this; rfl
      · rw [ha] at ha'
        simp only [Option.some.injEq, Addr.mk.injEq, and_true] at ha'
        obtain ⟨rfl, rfl⟩ := ha'
        rw [RepL.inj xs xs' b off e2 hr hr']
theorem RepL.inj {w : World} {lo hi lo' hi' : Nat} : ∀ (l m : List JV) (b off : Nat), l.length = m.length → RepL w lo hi l b off → RepL w lo' hi' m b off → l = m
  | [], m, _, _, hl, _, _ => (List.eq_nil_of_length_eq_zero (by rw [← hl]; rfl)).symm
  | v :: r, [], _, _, hl, _, _ => by simp at hl
  | v :: r, u :: s, b, off, hl, h, h' => by
    unfold RepL at h h'
    obtain ⟨⟨c0, c1, c2, c3, c4, e0, e1, e2, e3, e4, _, hv⟩, hr⟩ := h
    obtain ⟨⟨d0, d1, d2, d3, d4, f0, f1, f2, f3, f4, _, hu⟩, hs⟩ := h'
    rw [e0] at f0; rw [e1] at f1; rw [e2] at f2; rw [e3] at f3; rw [e4] at f4
    simp only [Option.some.injEq] at f0 f1 f2 f3 f4
    subst f0 f1 f2 f3 f4
    rw [Rep.inj v u _ hv hu, RepL.inj r s b (off + 5) (by simpa using hl) hr hs]
end

/-- A value at an address. -/
def VAt (w : World) (lo hi : Nat) (v : JV) (b o : Nat) : Prop := ∃ c0 c1 c2 c3 c4, w.cell? ⟨b, o, none⟩ = some c0 ∧ w.cell? ⟨b, o + 1, none⟩ = some c1 ∧ w.cell? ⟨b, o + 2, none⟩ = some c2 ∧ w.cell? ⟨b, o + 3, none⟩ = some c3 ∧ w.cell? ⟨b, o + 4, none⟩ = some c4 ∧ Rep w lo hi v (.agg #[c0, c1, c2, c3, c4])
theorem VAt.inj {w : World} {lo hi lo' hi' : Nat} {v u : JV} {b o : Nat} (h : VAt w lo hi v b o) (h' : VAt w lo' hi' u b o) : v = u := by
  obtain ⟨c0, c1, c2, c3, c4, e0, e1, e2, e3, e4, hv⟩ := h
  obtain ⟨d0, d1, d2, d3, d4, f0, f1, f2, f3, f4, hu⟩ := h'
  rw [e0] at f0; rw [e1] at f1; rw [e2] at f2; rw [e3] at f3; rw [e4] at f4
  simp only [Option.some.injEq] at f0 f1 f2 f3 f4
  subst f0 f1 f2 f3 f4
  exact Rep.inj v u _ hv hu

/-- A pointer to a value of more than so much, or nil. -/
def Above (w : World) (lo hi : Nat) (n : Nat) (p : Option Addr) : Prop := p = none ∨ ∃ b o v, p = some ⟨b, o, none⟩ ∧ VAt w lo hi v b o ∧ n < v.wt ∧ BlkU w lo b ∧ w.frozen? ⟨b, o, none⟩ = false

end Go.Proofs.YtaekmmnpdbmoeaaGreatDoor

namespace Go.Proofs.YtaekmmnpdbmoeaaGreatDoor
open Go.RowKit

/-- The cells of values, five each; where each lies; none of it in a block of X. -/
def RepRow (w : World) (base : Nat) (X : Nat → Prop) (l : List JV) (cs : List Value) : Prop :=
  cs.length = 5 * l.length ∧ ∀ i (h : i < l.length), ∃ lo hi an cn ai ci, base ≤ lo ∧ hi ≤ w.heap.size ∧ (∀ b, X b → ¬ (lo ≤ b ∧ b < hi)) ∧
    cs[5 * i]? = some (.int .u8 l[i].kind) ∧ cs[5 * i + 1]? = some (.int .i64 l[i].n) ∧ cs[5 * i + 2]? = some (.string l[i].t) ∧ cs[5 * i + 3]? = some (.slice an l[i].names.length cn) ∧ cs[5 * i + 4]? = some (.slice ai l[i].items.length ci) ∧
    Rep w lo hi l[i] (.agg #[.int .u8 l[i].kind, .int .i64 l[i].n, .string l[i].t, .slice an l[i].names.length cn, .slice ai l[i].items.length ci])

theorem RepRow.nil (w : World) (base : Nat) (X : Nat → Prop) : RepRow w base X [] [] := ⟨rfl, fun i h => by simp at h⟩

/-- What is not in X stays; X may shrink or turn, outside what is held. -/
theorem RepRow.carry {w w' : World} {base base' : Nat} {X X' : Nat → Prop} {l : List JV} {cs : List Value} (h : RepRow w base X l cs) (hsz : w.heap.size ≤ w'.heap.size)
    (hb : base' ≤ base) (hs : ∀ b, b < w.heap.size → ¬ X b → w'.heap[b]? = w.heap[b]?) (hX : ∀ b, X' b → X b ∨ w.heap.size ≤ b) : RepRow w' base' X' l cs := by
  refine ⟨h.1, fun i hi => ?_⟩
  obtain ⟨lo, hi', an, cn, ai, ci, h1, h2, h3, e0, e1, e2, e3, e4, hr⟩ := h.2 i hi
  refine ⟨lo, hi', an, cn, ai, ci, by omega, by omega, fun b hx hb => ?_, e0, e1, e2, e3, e4, Rep.carry (Nat.le_refl _) (Nat.le_refl _) (fun b hb1 hb2 => hs b (by omega) fun hx => h3 b hx ⟨hb1, hb2⟩) _ _ hr⟩
  rcases hX b hx with hx | hx
  · exact h3 b hx hb
  · omega

/-- One value more. -/
theorem RepRow.snoc {w : World} {base : Nat} {X : Nat → Prop} {l : List JV} {cs : List Value} (h : RepRow w base X l cs) (v : JV) (lo hi : Nat) (an : Option Addr) (cn : Nat) (ai : Option Addr) (ci : Nat) (h1 : base ≤ lo) (h2 : hi ≤ w.heap.size) (h3 : ∀ b, X b → ¬ (lo ≤ b ∧ b < hi))
    (hr : Rep w lo hi v (.agg #[.int .u8 v.kind, .int .i64 v.n, .string v.t, .slice an v.names.length cn, .slice ai v.items.length ci])) :
    RepRow w base X (l ++ [v]) (cs ++ [.int .u8 v.kind, .int .i64 v.n, .string v.t, .slice an v.names.length cn, .slice ai v.items.length ci]) := by
  refine ⟨by simp [h.1]; omega, fun i hi' => ?_⟩
  have hl := h.1
  by_cases e : i < l.length
  · obtain ⟨lo', hi'', an', cn', ai', ci', k1, k2, k3, e0, e1, e2, e3, e4, hr'⟩ := h.2 i e
    have ei : (l ++ [v])[i] = l[i] := List.getElem_append_left e
    rw [ei]
    refine ⟨lo', hi'', an', cn', ai', ci', k1, k2, k3, ?_, ?_, ?_, ?_, ?_, hr'⟩
    · rw [List.getElem?_append_left (by omega)]; exact e0
    · rw [List.getElem?_append_left (by omega)]; exact e1
    · rw [List.getElem?_append_left (by omega)]; exact e2
    · rw [List.getElem?_append_left (by omega)]; exact e3
    · rw [List.getElem?_append_left (by omega)]; exact e4
  · obtain rfl : i = l.length := by simp at hi'; omega
    have ei : (l ++ [v])[l.length] = v := by simp
    rw [ei]
    refine ⟨lo, hi, an, cn, ai, ci, h1, h2, h3, ?_, ?_, ?_, ?_, ?_, hr⟩
    · rw [List.getElem?_append_right (by omega), show 5 * l.length - cs.length = 0 by omega]; rfl
    · rw [List.getElem?_append_right (by omega), show 5 * l.length + 1 - cs.length = 1 by omega]; rfl
    · rw [List.getElem?_append_right (by omega), show 5 * l.length + 2 - cs.length = 2 by omega]; rfl
    · rw [List.getElem?_append_right (by omega), show 5 * l.length + 3 - cs.length = 3 by omega]; rfl
    · rw [List.getElem?_append_right (by omega), show 5 * l.length + 4 - cs.length = 4 by omega]; rfl

/-- A row that the call owns, of values: a slice of values. -/
theorem owns_vals {w : World} {base e : Nat} {X : Nat → Prop} {v : Value} {n : Nat} {cs : List Value} {l : List JV} (h : w.ownsRow base e 5 v n cs) (hr : RepRow w base X l cs) (hn : n = l.length) :
    ∃ a c, v = .slice a l.length c ∧ l.length ≤ c ∧ ValsAt w base w.heap.size a l := by
  subst hn
  rcases h.2 with ⟨rfl, h0⟩ | ⟨g, cap, cur, rfl, hg, hh, hc, hm, hs, ht⟩
  · exact ⟨none, 0, by rw [h0], by omega, .inl (List.eq_nil_of_length_eq_zero h0)⟩
  · refine ⟨_, _, rfl, hc, ?_⟩
    by_cases h0 : l = []
    · exact .inl h0
    · have hlt : g < w.heap.size := by
        rcases Nat.lt_or_ge g w.heap.size with hlt | hge
        · exact hlt
        · rw [Array.getElem?_eq_none hge] at hh; cases hh
      have hcell : ∀ j u, cs[j]? = some u → w.cell? ⟨g, j, none⟩ = some u := fun j u hj => by
        have := h.cells (g := g) rfl j u hj
        have e : (⟨g, 0, none⟩ : Addr).add j = ⟨g, j, none⟩ := by unfold Addr.add; split <;> simp_all
        rwa [e] at this
      refine .inr ⟨g, 0, rfl, hg, hlt, ⟨cur, e, (0, 0), hh, fun _ => rfl⟩, RepL.of_at fun i hi => ?_⟩
      obtain ⟨lo, hi', an, cn, ai, ci, k1, k2, k3, e0, e1, e2, e3, e4, hr'⟩ := hr.2 i hi
      have z : ∀ j, 0 + i * 5 + j = 5 * i + j := fun j => by omega
      refine ⟨_, _, _, _, _, hcell _ _ ?_, hcell _ _ ?_, hcell _ _ ?_, hcell _ _ ?_, hcell _ _ ?_, ?_, Rep.carry k1 k2 (fun _ _ _ => rfl) _ _ hr'⟩
      · rw [show 0 + i * 5 = 5 * i by omega]; exact e0
      · rw [z 1]; exact e1
      · rw [z 2]; exact e2
      · rw [z 3]; exact e3
      · rw [z 4]; exact e4
      · simp [World.frozen?, hh]

/-- 'x.f = append(x.f, f(y))', x a variable of the call's own (block cb), one cell of which (j) is the slice: what behind it holds. -/
theorem row_step {W wr w3 w4 : World} {cb e T : Nat} {f : Nat → Value} {j k g cap : Nat} {vi : Value} {cs : List Value} {l : List JV} {it : JV} {an ai : Option Addr} {cn ci : Nat} {o o' : Obj}
    (hcb : cb < W.heap.size) (htc : Touch (· = cb) W wr) (hrow : wr.rowIs cb T 5 f) (hown : wr.ownsRow W.heap.size e 5 vi k cs) (hrr : RepRow wr W.heap.size (fun b => b = cb ∨ vi.ownBlock = some b) l cs)
    (hb3 : Below (wr.heap.size + 1) (wr.alloc o).drew w3) (hr3 : Rep w3 (wr.heap.size + 1) w3.heap.size it (.agg #[.int .u8 it.kind, .int .i64 it.n, .string it.t, .slice an it.names.length cn, .slice ai it.items.length ci]))
    (hg : (w3.alloc o').grownBy w4 vi.ownBlock) (hat : vi.ownBlock = some g ∨ g = w3.heap.size + 1)
    (ho4 : w4.ownsRow W.heap.size e 5 (.slice (some ⟨g, 0, none⟩) (k + 1) cap) (k + 1) (cs ++ [.int .u8 it.kind, .int .i64 it.n, .string it.t, .slice an it.names.length cn, .slice ai it.items.length ci])) :
    Touch (· = cb) W (w4.setCell ⟨cb, j, none⟩ (.slice (some ⟨g, 0, none⟩) (k + 1) cap)) ∧
    (w4.setCell ⟨cb, j, none⟩ (.slice (some ⟨g, 0, none⟩) (k + 1) cap)).rowIs cb T 5 (fun i => if i = j then .slice (some ⟨g, 0, none⟩) (k + 1) cap else f i) ∧
    (w4.setCell ⟨cb, j, none⟩ (.slice (some ⟨g, 0, none⟩) (k + 1) cap)).ownsRow W.heap.size e 5 (.slice (some ⟨g, 0, none⟩) (k + 1) cap) (k + 1) (cs ++ [.int .u8 it.kind, .int .i64 it.n, .string it.t, .slice an it.names.length cn, .slice ai it.items.length ci]) ∧
    RepRow (w4.setCell ⟨cb, j, none⟩ (.slice (some ⟨g, 0, none⟩) (k + 1) cap)) W.heap.size (fun b => b = cb ∨ (Value.slice (some ⟨g, 0, none⟩) (k + 1) cap).ownBlock = some b) (l ++ [it]) (cs ++ [.int .u8 it.kind, .int .i64 it.n, .string it.t, .slice an it.names.length cn, .slice ai it.items.length ci]) := by
  have hwz : W.heap.size ≤ wr.heap.size := htc.size
  have hz3 : wr.heap.size + 1 ≤ w3.heap.size := by have := hb3.size; simp at this; omega
  have hz4 : w3.heap.size + 1 ≤ w4.heap.size := by have := hg.size; simp at this; omega
  have hz5 : (w4.setCell ⟨cb, j, none⟩ (.slice (some ⟨g, 0, none⟩) (k + 1) cap)).heap.size = w4.heap.size := by simp [World.setCell]
  have hoz : ∀ b, vi.ownBlock = some b → W.heap.size ≤ b ∧ b < wr.heap.size := fun b hb => hown.lt b hb
  -- from wr on
  have s1 : ∀ b, b < wr.heap.size → w3.heap[b]? = wr.heap[b]? := fun b hb => by
    rw [hb3.block b (by omega)]; exact Below.heap_alloc wr o b hb
  have s2 : ∀ b, b < w3.heap.size → vi.ownBlock ≠ some b → w4.heap[b]? = w3.heap[b]? := fun b hb hne => by
    rw [hg.block b (by simp; omega) (fun e => hne e.symm)]; exact Below.heap_alloc w3 o' b hb
  have s3 : ∀ b, b ≠ cb → (w4.setCell ⟨cb, j, none⟩ (.slice (some ⟨g, 0, none⟩) (k + 1) cap)).heap[b]? = w4.heap[b]? := fun b hb => Below.heap_setCell _ _ _ _ hb
  have hcn : vi.ownBlock ≠ some cb := fun e => by have := (hoz cb e).1; omega
  refine ⟨⟨?_, ?_, ?_, by omega, fun b hb hne => ?_⟩, ?_, ?_, ?_⟩
  · show w4.os = _; rw [hg.os, show (w3.alloc o').os = w3.os from rfl, hb3.os, show ((wr.alloc o).drew).os = wr.os from rfl, htc.os]
  · show w4.tape = _; rw [hg.tape, show (w3.alloc o').tape = w3.tape from rfl, hb3.tape, show ((wr.alloc o).drew).tape = wr.tape from rfl, htc.tape]
  · show w4.output = _; rw [hg.output, show (w3.alloc o').output = w3.output from rfl, hb3.output, show ((wr.alloc o).drew).output = wr.output from rfl, htc.output]
  · rw [s3 b hne, s2 b (by omega) (fun e => by have := (hoz b e).1; omega), s1 b (by omega)]; exact htc.block b hb hne
  · have h4 : w4.rowIs cb T 5 f := hrow.of_block (by rw [s2 cb (by omega) hcn, s1 cb (by omega)])
    exact h4.set j _
  · exact ownsRow_setCell_below ho4 hcb _
  · have hgb : ∀ b, (Value.slice (some ⟨g, 0, none⟩) (k + 1) cap).ownBlock = some b → b = g := fun b hb => by
      simp [Value.ownBlock] at hb; exact hb.symm
    have c1 : RepRow (w4.setCell ⟨cb, j, none⟩ (.slice (some ⟨g, 0, none⟩) (k + 1) cap)) W.heap.size (fun b => b = cb ∨ (Value.slice (some ⟨g, 0, none⟩) (k + 1) cap).ownBlock = some b) l cs := by
      refine hrr.carry (by omega) (Nat.le_refl _) (fun b hb hx => ?_) (fun b hx => ?_)
      · rw [s3 b (fun e => hx (.inl e)), s2 b (by omega) (fun e => hx (.inr e)), s1 b hb]
      · rcases hx with hx | hx
        · exact .inl (.inl hx)
        · rw [hgb b hx]
          rcases hat with ha | ha
          · exact .inl (.inr ha)
          · exact .inr (by omega)
    refine c1.snoc it (wr.heap.size + 1) w3.heap.size an cn ai ci (by omega) (by omega) (fun b hx hb => ?_) (Rep.carry (Nat.le_refl _) (Nat.le_refl _) (fun b h1 h2 => ?_) _ _ hr3)
    · rcases hx with hx | hx
      · omega
      · rw [hgb b hx] at hb
        rcases hat with ha | ha
        · have := (hoz g ha).2; omega
        · omega
    · rw [s3 b (by omega), s2 b h2 (fun e => by have := (hoz b e).2; omega)]

theorem owns_strs {w : World} {base e : Nat} {v : Value} {n : Nat} {l : List ByteArray} (h : w.ownsRow base e 1 v n (l.map .string)) (hn : n = l.length) :
    ∃ a c, v = .slice a l.length c ∧ l.length ≤ c ∧ StrsAt w base w.heap.size a l := by
  subst hn
  rcases h.2 with ⟨rfl, h0⟩ | ⟨g, cap, cur, rfl, hg, hh, hc, hm, hs, ht⟩
  · exact ⟨none, 0, by rw [h0], by omega, .inl (List.eq_nil_of_length_eq_zero h0)⟩
  · refine ⟨_, _, rfl, hc, ?_⟩
    by_cases h0 : l = []
    · exact .inl h0
    · have hlt : g < w.heap.size := by
        rcases Nat.lt_or_ge g w.heap.size with hlt | hge
        · exact hlt
        · rw [Array.getElem?_eq_none hge] at hh; cases hh
      refine .inr ⟨g, 0, rfl, hg, hlt, fun i hi => ?_⟩
      have := h.cells (g := g) rfl i (.string l[i]) (by simp [hi])
      have e : (⟨g, 0, none⟩ : Addr).add i = ⟨g, 0 + i, none⟩ := by unfold Addr.add; split <;> simp_all
      rwa [e] at this

end Go.Proofs.YtaekmmnpdbmoeaaGreatDoor

namespace Go.Proofs.YtaekmmnpdbmoeaaGreatDoor
open Go.RowKit

theorem infoVal : ∃ j, Tryz.prog.info? 44 = some j ∧ j.size ≠ 0 := by
  have h : (Tryz.prog.info? 44).map (·.size) = some 5 := by kernel_rfl
  cases hj : Tryz.prog.info? 44 with
  | none => rw [hj] at h; cases h
  | some j =>
    rw [hj] at h
    have e : j.size = 5 := by simpa using h
    exact ⟨j, rfl, by rw [e]; decide⟩

set_option maxRecDepth 100000 in
set_option maxHeartbeats 1000000 in
theorem valueEndless (N : Nat) : ∀ (l : List JV) (a : Option Addr) (c lv : Nat) (p : Option Addr) (lo hi : Nat) (w : World), 0 < lo → JV.wts l ≤ N → lv + N ≤ 1099511627776 → ValsAt w lo hi a l → Above w lo hi (JV.wts l) p →
    Calls Tryz.prog 140 #[.slice a l.length c, .int .i64 lv, .pointer p, .bool false] w fun e w' => e = .returned (.bool false) ∧ w = w' := by
  induction N with
  | zero =>
    intro l a c lv p lo hi w hlo hN hlv hV hA
    have hlen := JV.wts_len l
    obtain rfl : l = [] := List.eq_nil_of_length_eq_zero (by omega)
    clear hV hA
    go_enter Tryz.func140, Tryz.ntmps140
    go_wp2
    refine wp_loop_rounds 1 ?_
    rw [rounds_succ]
    go_wp2
    go_ret
    exact ⟨rfl, rfl⟩
  | succ N ih =>
    intro l a c lv p lo hi w hlo hN hlv hV hA
    have IH := Lib.hid ih; clear ih
    have HV := Lib.hid hV; clear hV
    have HA := Lib.hid hA; clear hA
    have hlen := JV.wts_len l
    obtain ⟨n, hn⟩ : ∃ n, n = l.length := ⟨_, rfl⟩
    rw [← hn]
    rw [← hn] at hlen
    have HN := Lib.hid hn; clear hn
    go_enter Tryz.func140, Tryz.ntmps140
    go_wp2
    go_loop [9, 10, 11, 14] (fun _ _ _ i => ∃ k : Nat, k ≤ n ∧ i = .int .i64 k) (fun _ _ _ i => n - (intOf i).toNat)
    case atStart => exact ⟨0, by omega, rfl⟩
    case round =>
      obtain ⟨k, hk, rfl⟩ := hrel
      by_cases hlt : k < n
      · have hlt' : k < l.length := by rw [← HN.out]; exact hlt
        obtain ⟨b, off, an, cn, ai, ci, rfl, _, hb, y0, y1, y2, y3, y4, hrep⟩ := HV.out.get k hlt'
        have hwk := JV.wts_get l k hlt'
        have HVA : Hid (VAt w lo hi l[k] b (off + k * 5)) := ⟨_, _, _, _, _, y0, y1, y2, y3, y4, hrep⟩
        obtain ⟨_, _, _, hwi⟩ := l[k].wt_bd
        have HI := Lib.hid (show ValsAt w lo hi ai l[k].items by
          obtain ⟨an', cn', ai', ci', hx, _, _, _, h5⟩ := hrep.parts
          simp only [Value.agg.injEq, Array.mk.injEq, List.cons.injEq, and_true, Value.slice.injEq] at hx
          obtain ⟨_, _, _, _, rfl, _, _⟩ := hx
          exact h5)
        have hblk := HV.out.blk k hlt'
        have HBK := Lib.hid hblk
        clear hblk
        generalize l[k] = it at *
        have hblk := HBK.out
        clear hrep y1 y2 y3
        have HA1 : Hid (Above w lo hi (JV.wts it.items) (some ⟨b, off + k * 5, none⟩)) := .inr ⟨b, off + k * 5, it, rfl, HVA.out, by omega, hblk.1, hblk.2⟩
        clear hblk
        rcases HA.out with rfl | ⟨pb, po, pv, rfl, hpv, hpw, hpu, hpf⟩
        · have HA2 : Hid (Above w lo hi (JV.wts it.items) none) := .inl rfl
          cases hbit : (bits BinOp.and IntKind.i64 (lv : Int) ((lv : Int) - 1) == 0)
          · go_wp2_with fail
            rw [show (lv : Int) + 1 = ((lv + 1 : Nat) : Int) by omega]
            refine (IH.out it.items ai ci (lv + 1) none lo hi w hlo (by omega) (by omega) HI.out HA2.out).mono ?_
            rintro e w1 ⟨rfl, rfl⟩
            go_wp2
            go_round
            case rel => exact ⟨k + 1, by omega, by go_num⟩
            case measure => simp [intOf]; omega
          · go_wp2_with fail
            rw [show (lv : Int) + 1 = ((lv + 1 : Nat) : Int) by omega]
            refine (IH.out it.items ai ci (lv + 1) _ lo hi w hlo (by omega) (by omega) HI.out HA1.out).mono ?_
            rintro e w1 ⟨rfl, rfl⟩
            go_wp2
            go_round
            case rel => exact ⟨k + 1, by omega, by go_num⟩
            case measure => simp [intOf]; omega
        · have HA2 : Hid (Above w lo hi (JV.wts it.items) (some ⟨pb, po, none⟩)) := .inr ⟨pb, po, pv, rfl, hpv, by omega, hpu, hpf⟩
          have hne : ¬ (b = pb ∧ off + k * 5 = po) := fun ⟨e1, e2⟩ => by
            subst e1 e2
            have := hpv.inj HVA.out
            subst this
            omega
          have heq : (binOp .eql 195 (.pointer (some ⟨b, off + k * 5, none⟩)) (.pointer (some ⟨pb, po, none⟩))).run Tryz.prog w = .ok (.bool false) w := by
            obtain ⟨ca, ta, fa, ha, ha'⟩ := HBK.out.1
            obtain ⟨cb, tb, fb, hb', hb''⟩ := hpu
            rw [ha' hlo] at ha
            rw [hb'' hlo] at hb'
            obtain ⟨j, hj1, hj2⟩ := infoVal
            exact run_eql_ptr_other w Tryz.underlying195 hj1 hj2 (fun e => hne (by simpa using e)) ha hb'
          clear hne hpv hpu hpf
          cases hbit : (bits BinOp.and IntKind.i64 (lv : Int) ((lv : Int) - 1) == 0)
          · go_wp2_with fail
            rw [show (lv : Int) + 1 = ((lv + 1 : Nat) : Int) by omega]
            refine (IH.out it.items ai ci (lv + 1) _ lo hi w hlo (by omega) (by omega) HI.out HA2.out).mono ?_
            rintro e w1 ⟨rfl, rfl⟩
            go_wp2
            go_round
            case rel => exact ⟨k + 1, by omega, by go_num⟩
            case measure => simp [intOf]; omega
          · go_wp2_with fail
            rw [show (lv : Int) + 1 = ((lv + 1 : Nat) : Int) by omega]
            refine (IH.out it.items ai ci (lv + 1) _ lo hi w hlo (by omega) (by omega) HI.out HA1.out).mono ?_
            rintro e w1 ⟨rfl, rfl⟩
            go_wp2
            go_round
            case rel => exact ⟨k + 1, by omega, by go_num⟩
            case measure => simp [intOf]; omega
      · go_wp2
        go_ret
        exact ⟨rfl, rfl⟩

set_option maxHeartbeats 400000 in
theorem endlessNil (a : Option Addr) (c lv : Nat) (p : Option Addr) (w : World) :
    Calls Tryz.prog 140 #[.slice a 0 c, .int .i64 lv, .pointer p, .bool false] w fun e w' => e = .returned (.bool false) ∧ w = w' := by
  go_enter Tryz.func140, Tryz.ntmps140
  go_wp2
  refine wp_loop_rounds 1 ?_
  rw [rounds_succ]
  go_wp2
  go_ret
  exact ⟨rfl, rfl⟩

set_option maxRecDepth 100000 in
set_option maxHeartbeats 1000000 in
/-- Values whose Items have no Items of their own: nothing is held against anything. -/
theorem endlessFlat (l : List JV) (a : Option Addr) (c lv : Nat) (lo hi : Nat) (w : World) (hN : JV.wts l ≤ 4294967296) (hlv : lv ≤ 1099511627776) (hV : ValsAt w lo hi a l) (hf : ∀ k (h : k < l.length), l[k].items = []) :
    Calls Tryz.prog 140 #[.slice a l.length c, .int .i64 lv, .pointer none, .bool false] w fun e w' => e = .returned (.bool false) ∧ w = w' := by
  have HV := Lib.hid hV; clear hV
  have HF := Lib.hid hf; clear hf
  have hlen := JV.wts_len l
  obtain ⟨n, hn⟩ : ∃ n, n = l.length := ⟨_, rfl⟩
  rw [← hn]
  rw [← hn] at hlen
  have HN := Lib.hid hn; clear hn
  go_enter Tryz.func140, Tryz.ntmps140
  go_wp2
  go_loop [9, 10, 11, 14] (fun _ _ _ i => ∃ k : Nat, k ≤ n ∧ i = .int .i64 k) (fun _ _ _ i => n - (intOf i).toNat)
  case atStart => exact ⟨0, by omega, rfl⟩
  case round =>
    obtain ⟨k, hk, rfl⟩ := hrel
    by_cases hlt : k < n
    · have hlt' : k < l.length := by rw [← HN.out]; exact hlt
      obtain ⟨b, off, an, cn, ai, ci, rfl, _, hb, y0, y1, y2, y3, y4, hrep⟩ := HV.out.get k hlt'
      rw [HF.out k hlt'] at y4
      simp only [List.length_nil] at y4
      clear hrep y1 y2 y3
      generalize l[k] = it at *
      cases hbit : (bits BinOp.and IntKind.i64 (lv : Int) ((lv : Int) - 1) == 0)
      · go_wp2_with fail
        rw [show (lv : Int) + 1 = ((lv + 1 : Nat) : Int) by omega]
        refine (endlessNil ai ci (lv + 1) none w).mono ?_
        rintro e w1 ⟨rfl, rfl⟩
        go_wp2
        go_round
        case rel => exact ⟨k + 1, by omega, by go_num⟩
        case measure => simp [intOf]; omega
      · go_wp2_with fail
        rw [show (lv : Int) + 1 = ((lv + 1 : Nat) : Int) by omega]
        refine (endlessNil ai ci (lv + 1) _ w).mono ?_
        rintro e w1 ⟨rfl, rfl⟩
        go_wp2
        go_round
        case rel => exact ⟨k + 1, by omega, by go_num⟩
        case measure => simp [intOf]; omega
    · go_wp2
      go_ret
      exact ⟨rfl, rfl⟩

/-- Of the call's own memory, or no deeper than two: then nothing in a value contains itself, and the program sees it. -/
def Seen (lo : Nat) (v : JV) : Prop := 0 < lo ∨ ∀ k (h : k < v.items.length), v.items[k].items = []
theorem endlessItem (it : JV) (ai : Option Addr) (ci : Nat) (lo hi : Nat) (w : World) (hN : it.wt ≤ 4294967296) (hV : ValsAt w lo hi ai it.items) (hs : Seen lo it) :
    Calls Tryz.prog 140 #[.slice ai it.items.length ci, .int .i64 1, .pointer none, .bool false] w fun e w' => e = .returned (.bool false) ∧ w = w' := by
  have := it.wt_bd
  rcases hs with h | h
  · exact valueEndless 4294967296 it.items ai ci 1 none lo hi w h (by omega) (by omega) hV (.inl rfl)
  · exact endlessFlat it.items ai ci 1 lo hi w (by omega) (by omega) hV h

end Go.Proofs.YtaekmmnpdbmoeaaGreatDoor

namespace Go.Proofs.YtaekmmnpdbmoeaaGreatDoor
open Go.RowKit

theorem set5 {W : World} {b t : Nat} {f : Nat → Value} (v0 v1 v2 v3 v4 : Value) (h : W.rowIs b t 5 f) :
    (((((W.setCell ⟨b, 0, none⟩ v0).setCell ⟨b, 1, none⟩ v1).setCell ⟨b, 2, none⟩ v2).setCell ⟨b, 3, none⟩ v3).setCell ⟨b, 4, none⟩ v4).rowIs b t 5 (pick5 v0 v1 v2 v3 v4) := by
  refine (((((h.set 0 v0).set 1 v1).set 2 v2).set 3 v3).set 4 v4).congr fun j hj => ?_
  rcases j with _ | _ | _ | _ | _ | j <;> first | rfl | omega
theorem below5 {B : Nat} {a W : World} {b : Nat} (v0 v1 v2 v3 v4 : Value) (h : Below B a W) (hb : B ≤ b) :
    Below B a (((((W.setCell ⟨b, 0, none⟩ v0).setCell ⟨b, 1, none⟩ v1).setCell ⟨b, 2, none⟩ v2).setCell ⟨b, 3, none⟩ v3).setCell ⟨b, 4, none⟩ v4) :=
  ((((h.setCell hb v0).setCell hb v1).setCell hb v2).setCell hb v3).setCell hb v4
theorem heap5 {W : World} {b k : Nat} (v0 v1 v2 v3 v4 : Value) (hk : k ≠ b) :
    (((((W.setCell ⟨b, 0, none⟩ v0).setCell ⟨b, 1, none⟩ v1).setCell ⟨b, 2, none⟩ v2).setCell ⟨b, 3, none⟩ v3).setCell ⟨b, 4, none⟩ v4).heap[k]? = W.heap[k]? := by
  rw [Below.heap_setCell _ _ _ _ hk, Below.heap_setCell _ _ _ _ hk, Below.heap_setCell _ _ _ _ hk, Below.heap_setCell _ _ _ _ hk, Below.heap_setCell _ _ _ _ hk]
theorem results_row_tmp {P : Program} {fn : Func} {p u : Tmp} {ty : TypeId} (h : fn.results = #[.cell p ty, .tmp u]) (tmps : Array Value) (w : World) (g : Nat) (t : TypeId) (cs : Array Value) (fr : Nat × Nat) (d : TypeDesc)
    (hp : tmps.getD p undef = .pointer (some ⟨g, 0, none⟩)) (hg : w.heap[g]? = some (.cells cs t fr))
    (hu : P.underlying ty = some d) (hd : (match d with | .struct _ | .array _ _ => true | _ => false) = true) (hi : (P.info? ty).map (·.size) = some cs.size) (x : Value) (hx : tmps.getD u undef = x) :
    (results fn tmps).run P w = .ok (.tuple #[.agg cs, x]) w := by
  rw [results_cell_tmp h, hp, hx]
  simp [asAddr, run_loadVar_row w g t ty cs fr d hg hu hd hi]

def zeroAgg : Value := .agg #[.int .u8 0, .int .i64 0, .string { data := #[] }, .slice none 0 0, .slice none 0 0]
def pick2 (v0 v1 : Value) : Nat → Value
  | 0 => v0 | _ => v1
theorem rowIs_box2 (w : World) (v0 v1 : Value) (t : Nat) : (w.alloc (.cells #[v0, v1] t)).rowIs w.heap.size t 2 (pick2 v0 v1) := rowIs_eq rfl
theorem row2_heap {w : World} {b t : Nat} {v0 v1 : Value} (h : w.rowIs b t 2 (pick2 v0 v1)) : w.heap[b]? = some (.cells #[v0, v1] t (0, 0)) := by
  obtain ⟨c, hc, hn, hf⟩ := h
  have e : c = #[v0, v1] := by
    apply Array.ext (by simp [hn])
    intro i h1 h2
    have := hf i (by omega)
    rw [Array.getElem?_eq_getElem h1] at this
    have h3 := Option.some.inj this
    rw [h3]
    rcases i with _ | _ | i <;> first | rfl | (simp at h2; omega)
  rw [hc, e]
theorem set2 {W : World} {b t : Nat} {f : Nat → Value} (v0 v1 : Value) (h : W.rowIs b t 2 f) : ((W.setCell ⟨b, 0, none⟩ v0).setCell ⟨b, 1, none⟩ v1).rowIs b t 2 (pick2 v0 v1) := by
  refine ((h.set 0 v0).set 1 v1).congr fun j hj => ?_
  rcases j with _ | _ | j <;> first | rfl | omega
theorem below2 {B : Nat} {a W : World} {b : Nat} (v0 v1 : Value) (h : Below B a W) (hb : B ≤ b) : Below B a ((W.setCell ⟨b, 0, none⟩ v0).setCell ⟨b, 1, none⟩ v1) := (h.setCell hb v0).setCell hb v1


def pick6 (v0 v1 v2 v3 v4 v5 : Value) : Nat → Value
  | 0 => v0 | 1 => v1 | 2 => v2 | 3 => v3 | 4 => v4 | _ => v5
theorem rowIs_box6 (w : World) (v0 v1 v2 v3 v4 v5 : Value) (t : Nat) : (w.alloc (.cells #[v0, v1, v2, v3, v4, v5] t)).rowIs w.heap.size t 6 (pick6 v0 v1 v2 v3 v4 v5) := rowIs_eq rfl
theorem row6_heap {w : World} {b t : Nat} {v0 v1 v2 v3 v4 v5 : Value} (h : w.rowIs b t 6 (pick6 v0 v1 v2 v3 v4 v5)) : w.heap[b]? = some (.cells #[v0, v1, v2, v3, v4, v5] t (0, 0)) := by
  obtain ⟨c, hc, hn, hf⟩ := h
  have e : c = #[v0, v1, v2, v3, v4, v5] := by
    apply Array.ext (by simp [hn])
    intro i h1 h2
    have := hf i (by omega)
    rw [Array.getElem?_eq_getElem h1] at this
    have h3 := Option.some.inj this
    rw [h3]
    rcases i with _ | _ | _ | _ | _ | _ | i <;> first | rfl | (simp at h2; omega)
  rw [hc, e]
theorem set6 {W : World} {b t : Nat} {f : Nat → Value} (v0 v1 v2 v3 v4 v5 : Value) (h : W.rowIs b t 6 f) :
    ((((((W.setCell ⟨b, 0, none⟩ v0).setCell ⟨b, 1, none⟩ v1).setCell ⟨b, 2, none⟩ v2).setCell ⟨b, 3, none⟩ v3).setCell ⟨b, 4, none⟩ v4).setCell ⟨b, 5, none⟩ v5).rowIs b t 6 (pick6 v0 v1 v2 v3 v4 v5) := by
  refine ((((((h.set 0 v0).set 1 v1).set 2 v2).set 3 v3).set 4 v4).set 5 v5).congr fun j hj => ?_
  rcases j with _ | _ | _ | _ | _ | _ | j <;> first | rfl | omega
theorem below6 {B : Nat} {a W : World} {b : Nat} (v0 v1 v2 v3 v4 v5 : Value) (h : Below B a W) (hb : B ≤ b) :
    Below B a ((((((W.setCell ⟨b, 0, none⟩ v0).setCell ⟨b, 1, none⟩ v1).setCell ⟨b, 2, none⟩ v2).setCell ⟨b, 3, none⟩ v3).setCell ⟨b, 4, none⟩ v4).setCell ⟨b, 5, none⟩ v5) :=
  (((((h.setCell hb v0).setCell hb v1).setCell hb v2).setCell hb v3).setCell hb v4).setCell hb v5
theorem heap6 {W : World} {b k : Nat} (v0 v1 v2 v3 v4 v5 : Value) (hk : k ≠ b) :
    ((((((W.setCell ⟨b, 0, none⟩ v0).setCell ⟨b, 1, none⟩ v1).setCell ⟨b, 2, none⟩ v2).setCell ⟨b, 3, none⟩ v3).setCell ⟨b, 4, none⟩ v4).setCell ⟨b, 5, none⟩ v5).heap[k]? = W.heap[k]? := by
  rw [Below.heap_setCell _ _ _ _ hk, Below.heap_setCell _ _ _ _ hk, Below.heap_setCell _ _ _ _ hk, Below.heap_setCell _ _ _ _ hk, Below.heap_setCell _ _ _ _ hk, Below.heap_setCell _ _ _ _ hk]


end Go.Proofs.YtaekmmnpdbmoeaaGreatDoor

namespace Go.Proofs.YtaekmmnpdbmoeaaGreatDoor
open Go.RowKit

theorem infoBuilder : ∃ j, Tryz.prog.info? 118 = some j ∧ j.size = 2 := by
  have h : (Tryz.prog.info? 118).map (·.size) = some 2 := by kernel_rfl
  obtain ⟨j, h1, h2⟩ := Option.map_eq_some_iff.1 h
  exact ⟨j, h1, h2⟩
theorem liesBuilder : liesAt Tryz.prog Tryz.prog.depth 118 (2 / Tryz.prog.cellsOf 118) 0 118 1 = true := by kernel_rfl
theorem infoByte : (Tryz.prog.info? 5).map (fun i => (i.zero, i.size, i.bytes)) = some (some (.int .u8 0), 1, 1) := by kernel_rfl
theorem cellsByte : Tryz.prog.cellsOf 5 = 1 := by kernel_rfl

/-- A builder in block b that holds these bytes; whatever lies in its block's first cell. -/
abbrev BuiF (B b : Nat) (bs : List Value) (w : World) : Prop := Lib.IsBuilderF 118 5 B b bs w
abbrev BuiU (B b : Nat) (bs : List Value) (w : World) : Prop := Lib.BuilderAtF 118 5 B b (.pointer (some ⟨b, 0, none⟩)) bs w
abbrev Kept (b : Nat) (w w' : World) : Prop := Lib.OthersKept 5 (some b) w w'

set_option maxHeartbeats 400000 in
set_option maxRecDepth 100000 in
theorem copyCheck_used (b : Nat) (w : World) (h0 : w.cell? ⟨b, 0, none⟩ = some (.pointer (some ⟨b, 0, none⟩))) :
    Calls Tryz.prog 106 #[.pointer (some ⟨b, 0, none⟩)] w fun e w' => e = .returned (.tuple #[]) ∧ w' = w := by
  obtain ⟨j, hj, _⟩ := infoBuilder
  go_enter Tryz.func106, Tryz.ntmps106
  go_wp2
  rw [Lib.run_neq_ptr_same w _ Tryz.underlying116 hj]
  go_wp2
  go_end0
  exact ⟨rfl, rfl⟩

set_option maxHeartbeats 400000 in
set_option maxRecDepth 100000 in
theorem copyCheck_fresh (b : Nat) (w : World) (h0 : w.cell? ⟨b, 0, none⟩ = some (.pointer none)) (hsh : w.shape? b = some (118, 2)) (hfz : w.frozen? ⟨b, 0, none⟩ = false) :
    Calls Tryz.prog 106 #[.pointer (some ⟨b, 0, none⟩)] w fun e w' => e = .returned (.tuple #[]) ∧ w' = w.setCell ⟨b, 0, none⟩ (.pointer (some ⟨b, 0, none⟩)) := by
  obtain ⟨j, hj, hjs⟩ := infoBuilder
  go_enter Tryz.func106, Tryz.ntmps106
  go_wp2
  rw [Lib.run_to_unsafe w ⟨b, 0, none⟩ Tryz.underlying116 Tryz.underlying166 hj (by rw [hjs]; decide) hsh (Nat.zero_lt_succ 1)]
  simp only [Result.andThen]
  rw [Oper.upon_value]
  go_wp2
  rw [run_callFunc_extern Tryz.func127 (by kernel_rfl) (by kernel_rfl) (by kernel_rfl) (e := Extern.AbiNoEscape.same) (by kernel_rfl)]
  rw [Lib.run_noEscape]
  simp only [Result.andThen]
  rw [Oper.upon_value]
  go_wp2
  rw [Lib.run_from_unsafe w ⟨b, 0, none⟩ Tryz.underlying166 Tryz.underlying116 hj hsh liesBuilder]
  simp only [Result.andThen]
  rw [Oper.upon_value]
  go_wp2
  go_end0
  exact ⟨rfl, rfl⟩

theorem copyCheck (B b : Nat) (bs : List Value) (w : World) (h : BuiF B b bs w) :
    Calls Tryz.prog 106 #[.pointer (some ⟨b, 0, none⟩)] w fun e w' => e = .returned (.tuple #[]) ∧ (BuiU B b bs w' ∧ Below B w w' ∧ Kept b w w') := by
  rcases h with h | h
  · refine (copyCheck_fresh b w h.cell0 h.shape h.frozen0).mono ?_
    rintro e w' ⟨rfl, rfl⟩
    exact ⟨rfl, h.used _, (Below.refl B w).setCell (p := ⟨b, 0, none⟩) h.1 _, (Lib.OthersKept.refl _ _ w).setCell ⟨b, 0, none⟩ rfl _⟩
  · refine (copyCheck_used b w h.cell0).mono ?_
    rintro e w' ⟨rfl, rfl⟩
    exact ⟨rfl, h, Below.refl B _, Lib.OthersKept.refl _ _ _⟩

set_option maxHeartbeats 400000 in
set_option maxRecDepth 100000 in
theorem writeByte (B b : Nat) (bs : List Value) (c : Int) (w : World) (h : BuiF B b bs w) (hlen : bs.length + 1 ≤ 140737488355328) (hBw : B ≤ w.heap.size) :
    Calls Tryz.prog 84 #[.pointer (some ⟨b, 0, none⟩), .int .u8 c] w fun e w' => e = .returned .nilIface ∧ (BuiU B b (bs ++ [.int .u8 c]) w' ∧ Below B w w' ∧ Kept b w w') := by
  obtain ⟨i0, hi, hz0, hz1, hz2⟩ := info_parts infoByte
  go_enter Tryz.func84, Tryz.ntmps84
  go_wp2_with (go_at_call 106; refine (copyCheck B b bs _ h).mono ?_)
  rintro e w1 ⟨rfl, h1, hb1, hk1⟩
  obtain ⟨hB, v, hbk, hown, hne⟩ := h1
  have c0 : w1.cell? ⟨b, 0, none⟩ = some (.pointer (some ⟨b, 0, none⟩)) := by rw [Lib.cell_of_heap hbk]; rfl
  have c1 : w1.cell? ⟨b, 1, none⟩ = some v := by rw [Lib.cell_of_heap hbk]; rfl
  go_wp2_with (at_builtin; refine wpList_append_ownF _ rfl _ _ 108 rfl B 5 i0 (.int .u8 0) 1 1 Tryz.underlying108 hi hz0 hz1 hz2 rfl (by decide) _ _ _ rfl (hown.alloc _) ⟨w1.heap.size, 0, none⟩ 1 1 [.int .u8 c] rfl rfl ?c1 ?c2 ?c3 ?c4 ?c5 ?_)
  case c1 =>
    intro j u hj
    match j, hj with
    | 0, hj => simp at hj; subst hj; simp [Addr.add]
  case c2 => intro u hu; simp at hu; subst hu; rfl
  case c3 => unfold maxLen; omega
  case c4 => omega
  case c5 => have := hb1.size; simp; omega
  intro v' w2 hown' hgrow _
  have hlt : b < w1.heap.size := by
    rcases Nat.lt_or_ge b w1.heap.size with h' | h'
    · exact h'
    · simp [Array.getElem?_eq_none h'] at hbk
  have hb2 : w2.heap[b]? = some (.cells #[.pointer (some ⟨b, 0, none⟩), v] 118 (0, 0)) := by
    rw [hgrow.block b (by simp; omega) (fun e => hne e.symm), Lib.alloc_old w1 _ b hlt]
    exact hbk
  have d0 : w2.cell? ⟨b, 0, none⟩ = some (.pointer (some ⟨b, 0, none⟩)) := by rw [Lib.cell_of_heap hb2]; rfl
  have d1 : w2.cell? ⟨b, 1, none⟩ = some v := by rw [Lib.cell_of_heap hb2]; rfl
  have f1 : w2.frozen? ⟨b, 1, none⟩ = false := Lib.frozen_of_heap hb2 1
  obtain ⟨g, cap, rfl⟩ : ∃ g cap, v' = .slice (some ⟨g, 0, none⟩) (bs.length + 1) cap := by
    rcases hown'.2 with ⟨_, h0⟩ | ⟨g, cap, cur, fz, hv, _⟩
    · omega
    · exact ⟨g, cap, hv⟩
  go_wp2
  go_ret
  refine ⟨rfl, ?_, ?_, ((hk1.alloc _).grown hgrow (Lib.ownsRowF_kind (hown.alloc _))).setCell ⟨b, 1, none⟩ rfl _⟩
  · exact Lib.BuilderAtF.put (T := 118) (e := 5) hB hb2 (bs' := bs ++ [.int .u8 c]) (by simpa using hown') (by decide)
  · exact ((hb1.alloc (by have := hb1.size; omega) _).grown hgrow (by have := hb1.size; simp; omega) (fun k hk => (hown.lt k hk).1)).setCell (p := ⟨b, 1, none⟩) hB _

set_option maxHeartbeats 400000 in
set_option maxRecDepth 100000 in
theorem writeString (B b : Nat) (bs : List Value) (s : ByteArray) (w : World) (h : BuiF B b bs w) (hlen : bs.length + s.size ≤ 140737488355328) (hBw : B ≤ w.heap.size) :
    Calls Tryz.prog 81 #[.pointer (some ⟨b, 0, none⟩), .string s] w fun e w' => e = .returned (.tuple #[.int .i64 s.size, .nilIface]) ∧ (BuiU B b (bs ++ Lib.strCells s) w' ∧ Below B w w' ∧ Kept b w w') := by
  obtain ⟨i0, hi, hz0, hz1, hz2⟩ := info_parts infoByte
  go_enter Tryz.func81, Tryz.ntmps81
  go_wp2_with (go_at_call 106; refine (copyCheck B b bs _ h).mono ?_)
  rintro e w1 ⟨rfl, h1, hb1, hk1⟩
  obtain ⟨hB, v, hbk, hown, hne⟩ := h1
  have c0 : w1.cell? ⟨b, 0, none⟩ = some (.pointer (some ⟨b, 0, none⟩)) := by rw [Lib.cell_of_heap hbk]; rfl
  have c1 : w1.cell? ⟨b, 1, none⟩ = some v := by rw [Lib.cell_of_heap hbk]; rfl
  go_wp2_with (at_builtin; refine Lib.wpList_append_own_stringF _ rfl _ _ 108 9 rfl B 5 i0 Tryz.underlying108 Tryz.underlying9 hi hz0 hz1 hz2 _ _ _ rfl hown s rfl ?c3 ?c4 ?c5 ?_)
  case c3 => unfold maxLen; omega
  case c4 => omega
  case c5 => have := hb1.size; omega
  intro v' w2 hown' hgrow _
  have hlt : b < w1.heap.size := by
    rcases Nat.lt_or_ge b w1.heap.size with h' | h'
    · exact h'
    · simp [Array.getElem?_eq_none h'] at hbk
  have hb2 : w2.heap[b]? = some (.cells #[.pointer (some ⟨b, 0, none⟩), v] 118 (0, 0)) := by
    rw [hgrow.block b hlt (fun e => hne e.symm)]
    exact hbk
  have d0 : w2.cell? ⟨b, 0, none⟩ = some (.pointer (some ⟨b, 0, none⟩)) := by rw [Lib.cell_of_heap hb2]; rfl
  have d1 : w2.cell? ⟨b, 1, none⟩ = some v := by rw [Lib.cell_of_heap hb2]; rfl
  have f1 : w2.frozen? ⟨b, 1, none⟩ = false := Lib.frozen_of_heap hb2 1
  obtain ⟨ao, n', cap, rfl⟩ : ∃ ao n' cap, v' = .slice ao n' cap := by
    rcases hown'.2 with ⟨hv, _⟩ | ⟨g, cap, cur, fz, hv, _⟩
    · exact ⟨_, _, _, hv⟩
    · exact ⟨_, _, _, hv⟩
  go_wp2
  go_ret2
  refine ⟨rfl, ?_, ?_, (hk1.grown hgrow (Lib.ownsRowF_kind hown)).setCell ⟨b, 1, none⟩ rfl _⟩
  · exact Lib.BuilderAtF.put (T := 118) (e := 5) hB hb2 (bs' := bs ++ Lib.strCells s) (by simpa [Lib.strCells_length] using hown') (by decide)
  · exact (hb1.grown hgrow (by have := hb1.size; omega) (fun k hk => (hown.lt k hk).1)).setCell (p := ⟨b, 1, none⟩) hB _

set_option maxHeartbeats 400000 in
set_option maxRecDepth 100000 in
theorem builderString (B b : Nat) (l : List UInt8) (w : World) (h : BuiF B b (Lib.byteCells l) w) (h0 : l ≠ []) :
    Calls Tryz.prog 85 #[.pointer (some ⟨b, 0, none⟩)] w fun e w' => e = .returned (.string ⟨l.toArray⟩) ∧ Below B w w' ∧ Kept b w w' := by
  obtain ⟨p, hAt⟩ : ∃ p, Lib.BuilderAtF 118 5 B b p (Lib.byteCells l) w := by
    rcases h with h | h
    · exact ⟨_, h⟩
    · exact ⟨_, h⟩
  obtain ⟨hB, v, hbk, hown, hne⟩ := hAt
  have hl0 : l.length ≠ 0 := by simpa using h0
  rw [Lib.byteCells_length] at hown
  obtain ⟨g, cap, cur, fz, rfl, hbg, hg, hfz, hnc, hcm, hcs, htake⟩ : ∃ g cap cur fz, v = .slice (some ⟨g, 0, none⟩) l.length cap ∧ B ≤ g ∧ w.heap[g]? = some (.cells cur 5 fz) ∧ fz.2 ≤ l.length * 1 ∧ l.length ≤ cap ∧ cap ≤ maxLen ∧ cur.size = cap * 1 ∧ cur.toList.take (l.length * 1) = Lib.byteCells l := by
    rcases hown.2 with ⟨_, hz⟩ | ⟨g, cap, cur, fz, hv, r⟩
    · exact absurd hz hl0
    · exact ⟨g, cap, cur, fz, hv, r⟩
  have c1 : w.drew.cell? ⟨b, 1, none⟩ = some (.slice (some ⟨g, 0, none⟩) l.length cap) := by
    have : w.drew.heap[b]? = some (.cells #[p, .slice (some ⟨g, 0, none⟩) l.length cap] 118 (0, 0)) := hbk
    rw [Lib.cell_of_heap this]; rfl
  have hSD : (Builtin.unsafeSliceData_ #[108] 149 #[.slice (some ⟨g, 0, none⟩) l.length cap]).run Tryz.prog w.drew = .ok (.pointer (some ⟨g, 0, none⟩)) w.drew :=
    Lib.run_unsafeSliceData_row _ _ _ _ _ _ (by omega)
  have hUS : (Builtin.unsafeString_ #[149, 3] 9 #[.pointer (some ⟨g, 0, none⟩), .int .i64 l.length]).run Tryz.prog w.drew = .ok (.string ⟨l.toArray⟩) (w.drew.freeze ⟨g, 0, none⟩ l.length) := by
    refine Lib.run_unsafeString_row w.drew 149 3 9 5 Tryz.underlying149 cellsByte g cur.size (by have hg' : w.drew.heap[g]? = some (.cells cur 5 fz) := hg; simp [World.shape?, hg']) l h0 (by omega) (by unfold maxLen at hcm; omega) ?_
    intro j x hx
    have := hown.cells (g := g) rfl j (.int .u8 x.toNat) (by simp [Lib.byteCells, hx])
    exact this
  have HX := Lib.hid (show Below B w (w.drew.freeze ⟨g, 0, none⟩ l.length) ∧ Kept b w (w.drew.freeze ⟨g, 0, none⟩ l.length) from ⟨Lib.below_freeze (Below.drew (Below.refl B w)) (p := ⟨g, 0, none⟩) hbg _, ((Lib.OthersKept.refl _ _ w).drew).freeze ⟨g, 0, none⟩ _ ⟨cur, fz, hg⟩⟩)
  clear hown hbk hne hg htake hcs hfz
  go_enter Tryz.func85, Tryz.ntmps85
  go_wp2
  go_region
  all_goals (go_wp2; go_ret; exact ⟨rfl, HX.out⟩)

end Go.Proofs.YtaekmmnpdbmoeaaGreatDoor

namespace Go.Proofs.YtaekmmnpdbmoeaaGreatDoor
open Go.RowKit

/-- A word's bits, turned to the right by n places. -/
def rotr (x : Int) (n : Nat) : Int := x % 2 ^ n * 2 ^ (32 - n) + x / 2 ^ n
def bxor (a b : Int) : Int := bits .xor .u32 a b
def band (a b : Int) : Int := bits .and .u32 a b
def bnot (a : Int) : Int := bits .xor .u32 IntKind.u32.max a
def wadd (a b : Int) : Int := (a + b) % 4294967296
def sg0 (x : Int) : Int := bxor (bxor (rotr x 7) (rotr x 18)) (x / 8)
def sg1 (x : Int) : Int := bxor (bxor (rotr x 17) (rotr x 19)) (x / 1024)
def bg0 (x : Int) : Int := bxor (bxor (rotr x 2) (rotr x 13)) (rotr x 22)
def bg1 (x : Int) : Int := bxor (bxor (rotr x 6) (rotr x 11)) (rotr x 25)
def chc (e f g : Int) : Int := bxor (band e f) (band (bnot e) g)
def maj (a b c : Int) : Int := bxor (bxor (band a b) (band a c)) (band b c)
def be4 (p : Nat → Int) (i : Nat) : Int := p (4 * i) * 16777216 + p (4 * i + 1) * 65536 + p (4 * i + 2) * 256 + p (4 * i + 3)
/-- The first n words of a block's 64. -/
def wseq (p : Nat → Int) : Nat → List Int
  | 0 => []
  | n + 1 => let l := wseq p n
    l ++ [if n < 16 then be4 p n else wadd (wadd (wadd (l.getD (n - 16) 0) (sg0 (l.getD (n - 15) 0))) (l.getD (n - 7) 0)) (sg1 (l.getD (n - 2) 0))]
def wrd (p : Nat → Int) (i : Nat) : Int := (wseq p (i + 1)).getD i 0

structure S8 where
  (a b c d e f g h : Int)
def S8.at (s : S8) : Nat → Int
  | 0 => s.a | 1 => s.b | 2 => s.c | 3 => s.d | 4 => s.e | 5 => s.f | 6 => s.g | _ => s.h
def kays : List Int := [0x428a2f98, 0x71374491, 0xb5c0fbcf, 0xe9b5dba5, 0x3956c25b, 0x59f111f1, 0x923f82a4, 0xab1c5ed5,
  0xd807aa98, 0x12835b01, 0x243185be, 0x550c7dc3, 0x72be5d74, 0x80deb1fe, 0x9bdc06a7, 0xc19bf174,
  0xe49b69c1, 0xefbe4786, 0x0fc19dc6, 0x240ca1cc, 0x2de92c6f, 0x4a7484aa, 0x5cb0a9dc, 0x76f988da,
  0x983e5152, 0xa831c66d, 0xb00327c8, 0xbf597fc7, 0xc6e00bf3, 0xd5a79147, 0x06ca6351, 0x14292967,
  0x27b70a85, 0x2e1b2138, 0x4d2c6dfc, 0x53380d13, 0x650a7354, 0x766a0abb, 0x81c2c92e, 0x92722c85,
  0xa2bfe8a1, 0xa81a664b, 0xc24b8b70, 0xc76c51a3, 0xd192e819, 0xd6990624, 0xf40e3585, 0x106aa070,
  0x19a4c116, 0x1e376c08, 0x2748774c, 0x34b0bcb5, 0x391c0cb3, 0x4ed8aa4a, 0x5b9cca4f, 0x682e6ff3,
  0x748f82ee, 0x78a5636f, 0x84c87814, 0x8cc70208, 0x90befffa, 0xa4506ceb, 0xbef9a3f7, 0xc67178f2]
def kay (i : Nat) : Int := kays.getD i 0
def hinit : S8 := ⟨0x6a09e667, 0xbb67ae85, 0x3c6ef372, 0xa54ff53a, 0x510e527f, 0x9b05688c, 0x1f83d9ab, 0x5be0cd19⟩
def first (k x : Int) (s : S8) : Int := wadd (wadd (wadd (wadd s.h (bg1 s.e)) (chc s.e s.f s.g)) k) x
def rnd (k x : Int) (s : S8) : S8 := ⟨wadd (wadd (first k x s) (bg0 s.a)) (maj s.a s.b s.c), s.a, s.b, s.c, wadd s.d (first k x s), s.e, s.f, s.g⟩
def rnds (p : Nat → Int) (s : S8) : Nat → S8
  | 0 => s
  | n + 1 => rnd (kay n) (wrd p n) (rnds p s n)
def S8.add (s t : S8) : S8 := ⟨wadd s.a t.a, wadd s.b t.b, wadd s.c t.c, wadd s.d t.d, wadd s.e t.e, wadd s.f t.f, wadd s.g t.g, wadd s.h t.h⟩
/-- The eight numbers behind a block. -/
def press (s : S8) (p : Nat → Int) : S8 := s.add (rnds p s 64)

theorem wseq_len (p : Nat → Int) : ∀ n, (wseq p n).length = n
  | 0 => rfl
  | n + 1 => by simp [wseq, wseq_len p n]
theorem wseq_getD (p : Nat → Int) (i : Nat) : ∀ n, i < n → (wseq p n).getD i 0 = wrd p i
  | 0, h => by omega
  | n + 1, h => by
    by_cases e : i = n
    · subst e; rfl
    · rw [← wseq_getD p i n (by omega)]
      simp only [wseq, List.getD_eq_getElem?_getD]
      rw [List.getElem?_append_left (by rw [wseq_len]; omega)]
theorem wrd_lo (p : Nat → Int) (n : Nat) (h : n < 16) : wrd p n = be4 p n := by
  unfold wrd; simp only [wseq, List.getD_eq_getElem?_getD]
  rw [List.getElem?_append_right (by rw [wseq_len]; omega), wseq_len]; simp [h]
theorem wrd_hi (p : Nat → Int) (n : Nat) (h : 16 ≤ n) : wrd p n = wadd (wadd (wadd (wrd p (n - 16)) (sg0 (wrd p (n - 15)))) (wrd p (n - 7))) (sg1 (wrd p (n - 2))) := by
  conv => lhs; unfold wrd
  simp only [wseq, List.getD_eq_getElem?_getD]
  rw [List.getElem?_append_right (by rw [wseq_len]; omega), wseq_len]
  simp only [Nat.sub_self, List.getElem?_cons_zero, Option.getD_some, if_neg (show ¬ n < 16 by omega)]
  simp only [← List.getD_eq_getElem?_getD]
  rw [wseq_getD p (n - 16) n (by omega), wseq_getD p (n - 15) n (by omega), wseq_getD p (n - 7) n (by omega), wseq_getD p (n - 2) n (by omega)]

theorem wadd_bd (a b : Int) : 0 ≤ wadd a b ∧ wadd a b < 4294967296 := by unfold wadd; omega
theorem bxor_bd {a b : Int} (h1 : 0 ≤ a) (h2 : a < 4294967296) (h3 : 0 ≤ b) (h4 : b < 4294967296) : 0 ≤ bxor a b ∧ bxor a b < 4294967296 := by
  unfold bxor; rw [u32_xor a b h1 h2 h3 h4]
  have := Nat.xor_lt_two_pow (x := a.toNat) (y := b.toNat) (n := 32) (by omega) (by omega)
  omega
theorem band_bd {a b : Int} (h1 : 0 ≤ a) (h2 : a < 4294967296) (h3 : 0 ≤ b) (h4 : b < 4294967296) : 0 ≤ band a b ∧ band a b < 4294967296 := by
  unfold band; rw [u32_and a b h1 h2 h3 h4]
  have := Nat.and_lt_two_pow (x := a.toNat) (y := b.toNat) (n := 32) (by omega)
  omega
def w32 (x : Int) : Prop := 0 ≤ x ∧ x < 4294967296
theorem rotr_bd {x : Int} (h : w32 x) (n : Nat) (hn : n ≤ 32) : w32 (rotr x n) := by
  obtain ⟨h1, h2⟩ := h
  unfold rotr w32
  have hp : (0 : Int) < 2 ^ n := Int.pow_pos (by omega)
  have hq : (0 : Int) < 2 ^ (32 - n) := Int.pow_pos (by omega)
  have e : (2 : Int) ^ n * 2 ^ (32 - n) = 4294967296 := by rw [← Int.pow_add, show n + (32 - n) = 32 by omega]; rfl
  have a1 : 0 ≤ x % 2 ^ n := Int.emod_nonneg _ (by omega)
  have a2 : x % 2 ^ n ≤ 2 ^ n - 1 := by have := Int.emod_lt_of_pos x hp; omega
  have a3 : 0 ≤ x / 2 ^ n := Int.ediv_nonneg h1 (by omega)
  have a4 : x / 2 ^ n < 2 ^ (32 - n) := by
    apply Int.ediv_lt_of_lt_mul hp; rw [Int.mul_comm, e]; exact h2
  have a5 : x % 2 ^ n * 2 ^ (32 - n) ≤ (2 ^ n - 1) * 2 ^ (32 - n) := Int.mul_le_mul_of_nonneg_right a2 (by omega)
  have a6 : 0 ≤ x % 2 ^ n * 2 ^ (32 - n) := Int.mul_nonneg a1 (by omega)
  rw [Int.sub_mul, e] at a5
  constructor <;> omega

theorem be4_eq (a b c d : Int) (ha : 0 ≤ a ∧ a ≤ 255) (hb : 0 ≤ b ∧ b ≤ 255) (hc : 0 ≤ c ∧ c ≤ 255) (hd : 0 ≤ d ∧ d ≤ 255) :
    bits .or .u32 (bits .or .u32 (bits .or .u32 (a % 4294967296 * 16777216 % 4294967296) (b % 4294967296 * 65536 % 4294967296)) (c % 4294967296 * 256 % 4294967296)) (d % 4294967296) =
      a * 16777216 + b * 65536 + c * 256 + d := by
  obtain ⟨a, rfl⟩ := Int.eq_ofNat_of_zero_le ha.1
  obtain ⟨b, rfl⟩ := Int.eq_ofNat_of_zero_le hb.1
  obtain ⟨c, rfl⟩ := Int.eq_ofNat_of_zero_le hc.1
  obtain ⟨d, rfl⟩ := Int.eq_ofNat_of_zero_le hd.1
  have e1 : ((a : Int) % 4294967296 * 16777216 % 4294967296) = ((a * 16777216 : Nat) : Int) := by omega
  have e2 : ((b : Int) % 4294967296 * 65536 % 4294967296) = ((b * 65536 : Nat) : Int) := by omega
  have e3 : ((c : Int) % 4294967296 * 256 % 4294967296) = ((c * 256 : Nat) : Int) := by omega
  have e4 : ((d : Int) % 4294967296) = ((d : Nat) : Int) := by omega
  rw [e1, e2, e3, e4, u32_or_nat _ _ (by omega) (by omega), nat_join 24 _ _ (by omega) (by omega), u32_or_nat _ _ (by omega) (by omega), nat_join 16 _ _ (by omega) (by omega), u32_or_nat _ _ (by omega) (by omega), nat_join 8 _ _ (by omega) (by omega)]
  omega

theorem wrd_w32 (p : Nat → Int) (hp : ∀ i, i < 64 → 0 ≤ p i ∧ p i ≤ 255) (i : Nat) : w32 (wrd p i) := by
  by_cases h : i < 16
  · rw [wrd_lo p i h]; unfold be4 w32
    have := hp (4 * i) (by omega); have := hp (4 * i + 1) (by omega); have := hp (4 * i + 2) (by omega); have := hp (4 * i + 3) (by omega); omega
  · rw [wrd_hi p i (by omega)]; exact wadd_bd _ _

def S8.ok (s : S8) : Prop := w32 s.a ∧ w32 s.b ∧ w32 s.c ∧ w32 s.d ∧ w32 s.e ∧ w32 s.f ∧ w32 s.g ∧ w32 s.h
theorem rnd_ok {k x : Int} {s : S8} (h : s.ok) : (rnd k x s).ok := by
  obtain ⟨ha, hb, hc, hd, he, hf, hg, hh⟩ := h
  exact ⟨wadd_bd _ _, ha, hb, hc, wadd_bd _ _, he, hf, hg⟩
theorem rnds_ok (p : Nat → Int) {s : S8} (h : s.ok) : ∀ n, (rnds p s n).ok
  | 0 => h
  | n + 1 => rnd_ok (rnds_ok p h n)
theorem add_ok (s t : S8) : (s.add t).ok := ⟨wadd_bd _ _, wadd_bd _ _, wadd_bd _ _, wadd_bd _ _, wadd_bd _ _, wadd_bd _ _, wadd_bd _ _, wadd_bd _ _⟩
theorem hinit_ok : hinit.ok := by unfold S8.ok hinit w32; simp
theorem press_ok (s : S8) (p : Nat → Int) : (press s p).ok := add_ok _ _

theorem rnd_a (k x : Int) (s : S8) : (s.h + bg1 s.e + chc s.e s.f s.g + k + x + bg0 s.a + maj s.a s.b s.c) % 4294967296 = (rnd k x s).a := by
  show _ = wadd (wadd (first k x s) (bg0 s.a)) (maj s.a s.b s.c)
  unfold first wadd; omega
theorem rnd_e (k x : Int) (s : S8) : (s.d + (s.h + bg1 s.e + chc s.e s.f s.g + k + x)) % 4294967296 = (rnd k x s).e := by
  show _ = wadd s.d (first k x s)
  unfold first wadd; omega
theorem add_at (s t : S8) (j : Nat) : (s.add t).at j = wadd (s.at j) (t.at j) := by
  rcases j with _ | _ | _ | _ | _ | _ | _ | j <;> rfl

/-- The byte at a place, as a number. -/
def byteI (l : List UInt8) (i : Nat) : Int := ((l.getD i 0).toNat : Int)
/-- The eight numbers behind the first n blocks. -/
def shaSt (l : List UInt8) : Nat → S8
  | 0 => hinit
  | n + 1 => press (shaSt l n) (fun j => byteI l (64 * n + j))
theorem shaSt_ok (l : List UInt8) : ∀ n, (shaSt l n).ok
  | 0 => hinit_ok
  | _ + 1 => press_ok _ _
theorem byteI_bd (l : List UInt8) (i : Nat) : 0 ≤ byteI l i ∧ byteI l i ≤ 255 := by
  unfold byteI; have := (l.getD i 0).toNat_lt; omega
theorem wseq_congr {p q : Nat → Int} (h : ∀ j, j < 64 → p j = q j) : ∀ n, wseq p n = wseq q n
  | 0 => rfl
  | n + 1 => by
    simp only [wseq, wseq_congr h n]
    by_cases hn : n < 16
    · simp only [if_pos hn]; unfold be4; rw [h _ (by omega), h _ (by omega), h _ (by omega), h _ (by omega)]
    · simp only [if_neg hn]
theorem rnds_congr {p q : Nat → Int} (h : ∀ j, j < 64 → p j = q j) (s : S8) : ∀ n, rnds p s n = rnds q s n
  | 0 => rfl
  | n + 1 => by simp only [rnds, rnds_congr h s n, wrd, wseq_congr h (n + 1)]
theorem press_congr {p q : Nat → Int} (h : ∀ j, j < 64 → p j = q j) (s : S8) : press s p = press s q := by
  unfold press; rw [rnds_congr h]
theorem shaSt_congr {l m : List UInt8} : ∀ n, (∀ i, i < 64 * n → byteI l i = byteI m i) → shaSt l n = shaSt m n
  | 0, _ => rfl
  | n + 1, h => by
    simp only [shaSt]
    rw [shaSt_congr n fun i hi => h i (by omega)]
    exact press_congr (fun j hj => h _ (by omega)) _

/-- The byte j of a number's eight, the greatest first. -/
def be8 (n : Nat) (j : Nat) : Int := (n : Int) / 2 ^ (56 - 8 * j) % 256
def u8 (i : Int) : UInt8 := UInt8.ofNat i.toNat
theorem u8_toNat {i : Int} (h : 0 ≤ i) (h' : i < 256) : ((u8 i).toNat : Int) = i := by
  unfold u8; rw [UInt8.toNat_ofNat']; omega
def be8L (n : Nat) : List UInt8 := (List.range 8).map fun j => u8 (be8 n j)
theorem be8L_len (n : Nat) : (be8L n).length = 8 := by simp [be8L]
theorem be8_bd (n j : Nat) : 0 ≤ be8 n j ∧ be8 n j < 256 := by unfold be8; omega
theorem be8L_get (n j : Nat) (hj : j < (be8L n).length) : ((be8L n)[j].toNat : Int) = be8 n j := by
  simp only [be8L, List.getElem_map, List.getElem_range]; exact u8_toNat (be8_bd n j).1 (be8_bd n j).2
def wordBytes (x : Int) : List UInt8 := [u8 (x / 16777216 % 256), u8 (x / 65536 % 256), u8 (x / 256 % 256), u8 (x % 256)]
def sumK (s : S8) : Nat → List UInt8
  | 0 => []
  | k + 1 => sumK s k ++ wordBytes (s.at k)
/-- What is hashed: the text, and what is laid behind it. -/
def shaPad (l : List UInt8) : List UInt8 := l ++ (128 :: List.replicate ((119 - l.length % 64) % 64) 0) ++ be8L (l.length * 8)
def shaSum (l : List UInt8) : List UInt8 := sumK (shaSt (shaPad l) ((shaPad l).length / 64)) 8
theorem sumK_length (s : S8) : ∀ k, (sumK s k).length = 4 * k
  | 0 => rfl
  | k + 1 => by simp [sumK, sumK_length s k, wordBytes]; omega
theorem shaSum_length (l : List UInt8) : (shaSum l).length = 32 := sumK_length _ 8
theorem shaPad_length (l : List UInt8) : (shaPad l).length = l.length + 9 + (119 - l.length % 64) % 64 := by
  unfold shaPad be8L; simp; omega

end Go.Proofs.YtaekmmnpdbmoeaaGreatDoor
