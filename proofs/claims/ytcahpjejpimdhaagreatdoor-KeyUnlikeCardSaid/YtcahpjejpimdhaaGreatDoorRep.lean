/- JSON values as plain data (JV), and how they lie in memory (Rep). No program in sight. -/
import Derived.Test.YtcahpjejpimdhaaGreatDoorPlain
namespace Go.Proofs.YtcahpjejpimdhaaGreatDoor
open Go.RowKit

/-- A value of JSON as data: kind, number, text, names, items. -/
inductive JV where
  | mk (kind n : Int) (t : ByteArray) (names : List ByteArray) (items : List JV)

namespace JV
def kind : JV → Int | mk k _ _ _ _ => k
def n : JV → Int | mk _ n _ _ _ => n
def t : JV → ByteArray | mk _ _ t _ _ => t
def names : JV → List ByteArray | mk _ _ _ ns _ => ns
def items : JV → List JV | mk _ _ _ _ xs => xs
end JV

def bytesSum : List ByteArray → Nat
  | [] => 0
  | s :: r => s.size + 1 + bytesSum r

mutual
/-- How much there is in a value. -/
def JV.wt : JV → Nat
  | .mk _ _ t ns xs => 1 + t.size + bytesSum ns + JV.wts xs
def JV.wts : List JV → Nat
  | [] => 0
  | x :: r => JV.wt x + JV.wts r
end

mutual
/-- The numbers are of their kinds. -/
def JV.num : JV → Prop
  | .mk k n _ _ xs => (0 ≤ k ∧ k ≤ 255) ∧ (-9223372036854775808 ≤ n ∧ n ≤ 9223372036854775807) ∧ JV.nums xs
def JV.nums : List JV → Prop
  | [] => True
  | x :: r => JV.num x ∧ JV.nums r
end

/-- A row of texts behind an address. -/
def StrsAt (w : World) (lo hi : Nat) (a : Option Addr) (l : List ByteArray) : Prop :=
  l = [] ∨ ∃ b off, a = some ⟨b, off, none⟩ ∧ lo ≤ b ∧ b < hi ∧ ∀ i (h : i < l.length), w.cell? ⟨b, off + i, none⟩ = some (.string l[i])

/-- A block of cells; of the call's own ('0 < lo') it bears no mark. (A block that came in may bear one.) -/
def BlkU (w : World) (lo b : Nat) : Prop := ∃ cs t fr, w.heap[b]? = some (.cells cs t fr) ∧ (0 < lo → fr = (0, 0))

mutual
/-- The value 'x' of Go's is 'v'; all blocks that it leads to lie from lo on, below hi. -/
def Rep (w : World) (lo hi : Nat) : JV → Value → Prop
  | .mk k n t ns xs, x => ∃ an cn ai ci, x = .agg #[.int .u8 k, .int .i64 n, .string t, .slice an ns.length cn, .slice ai xs.length ci] ∧ ns.length ≤ cn ∧ xs.length ≤ ci ∧
      StrsAt w lo hi an ns ∧ (xs = [] ∨ ∃ b off, ai = some ⟨b, off, none⟩ ∧ lo ≤ b ∧ b < hi ∧ BlkU w lo b ∧ RepL w lo hi xs b off)
/-- Values in a row, five cells each. -/
def RepL (w : World) (lo hi : Nat) : List JV → Nat → Nat → Prop
  | [], _, _ => True
  | v :: r, b, off => (∃ c0 c1 c2 c3 c4, w.cell? ⟨b, off, none⟩ = some c0 ∧ w.cell? ⟨b, off + 1, none⟩ = some c1 ∧ w.cell? ⟨b, off + 2, none⟩ = some c2 ∧ w.cell? ⟨b, off + 3, none⟩ = some c3 ∧ w.cell? ⟨b, off + 4, none⟩ = some c4 ∧ w.frozen? ⟨b, off, none⟩ = false ∧
      Rep w lo hi v (.agg #[c0, c1, c2, c3, c4])) ∧ RepL w lo hi r b (off + 5)
end

def ValsAt (w : World) (lo hi : Nat) (a : Option Addr) (l : List JV) : Prop :=
  l = [] ∨ ∃ b off, a = some ⟨b, off, none⟩ ∧ lo ≤ b ∧ b < hi ∧ BlkU w lo b ∧ RepL w lo hi l b off

/-- A slice of texts. -/
def SStr (w : World) (lo hi : Nat) (l : List ByteArray) (x : Value) : Prop := ∃ a c, x = .slice a l.length c ∧ l.length ≤ c ∧ StrsAt w lo hi a l
/-- A slice of values. -/
def SVal (w : World) (lo hi : Nat) (l : List JV) (x : Value) : Prop := ∃ a c, x = .slice a l.length c ∧ l.length ≤ c ∧ ValsAt w lo hi a l

theorem Rep.parts {w : World} {lo hi : Nat} {v : JV} {x : Value} (h : Rep w lo hi v x) :
    ∃ an cn ai ci, x = .agg #[.int .u8 v.kind, .int .i64 v.n, .string v.t, .slice an v.names.length cn, .slice ai v.items.length ci] ∧ v.names.length ≤ cn ∧ v.items.length ≤ ci ∧ StrsAt w lo hi an v.names ∧ ValsAt w lo hi ai v.items := by
  cases v; unfold Rep at h; exact h

theorem Rep.mk {w : World} {lo hi : Nat} {v : JV} {an ai : Option Addr} {cn ci : Nat} (h1 : v.names.length ≤ cn) (h2 : v.items.length ≤ ci) (h3 : StrsAt w lo hi an v.names) (h4 : ValsAt w lo hi ai v.items) :
    Rep w lo hi v (.agg #[.int .u8 v.kind, .int .i64 v.n, .string v.t, .slice an v.names.length cn, .slice ai v.items.length ci]) := by
  cases v; unfold Rep; exact ⟨an, cn, ai, ci, rfl, h1, h2, h3, h4⟩

theorem RepL.at {w : World} {lo hi : Nat} : ∀ {l : List JV} {b off : Nat} (_ : RepL w lo hi l b off) (i : Nat) (h : i < l.length),
    ∃ c0 c1 c2 c3 c4, w.cell? ⟨b, off + i * 5, none⟩ = some c0 ∧ w.cell? ⟨b, off + i * 5 + 1, none⟩ = some c1 ∧ w.cell? ⟨b, off + i * 5 + 2, none⟩ = some c2 ∧ w.cell? ⟨b, off + i * 5 + 3, none⟩ = some c3 ∧ w.cell? ⟨b, off + i * 5 + 4, none⟩ = some c4 ∧ w.frozen? ⟨b, off + i * 5, none⟩ = false ∧
      Rep w lo hi l[i] (.agg #[c0, c1, c2, c3, c4])
  | [], _, _, _, i, h => by simp at h
  | v :: r, b, off, hr, 0, _ => by unfold RepL at hr; exact hr.1
  | v :: r, b, off, hr, i + 1, h => by
    unfold RepL at hr
    have := RepL.at hr.2 i (by simpa using h)
    rw [show off + (i + 1) * 5 = off + 5 + i * 5 by omega]
    exact this

theorem RepL.of_at {w : World} {lo hi : Nat} : ∀ {l : List JV} {b off : Nat} (_ : ∀ (i : Nat) (h : i < l.length),
    ∃ c0 c1 c2 c3 c4, w.cell? ⟨b, off + i * 5, none⟩ = some c0 ∧ w.cell? ⟨b, off + i * 5 + 1, none⟩ = some c1 ∧ w.cell? ⟨b, off + i * 5 + 2, none⟩ = some c2 ∧ w.cell? ⟨b, off + i * 5 + 3, none⟩ = some c3 ∧ w.cell? ⟨b, off + i * 5 + 4, none⟩ = some c4 ∧ w.frozen? ⟨b, off + i * 5, none⟩ = false ∧
      Rep w lo hi l[i] (.agg #[c0, c1, c2, c3, c4])), RepL w lo hi l b off
  | [], _, _, _ => by unfold RepL; trivial
  | v :: r, b, off, hr => by
    unfold RepL
    refine ⟨hr 0 (by simp), RepL.of_at fun i h => ?_⟩
    have := hr (i + 1) (by simpa using h)
    rw [show off + (i + 1) * 5 = off + 5 + i * 5 by omega] at this
    exact this

theorem BlkU.carry {w w' : World} {lo lo' b : Nat} (h : BlkU w lo b) (h1 : lo' ≤ lo) (hs : w'.heap[b]? = w.heap[b]?) : BlkU w' lo' b := by
  obtain ⟨cs, t, fr, h2, h3⟩ := h
  exact ⟨cs, t, fr, by rw [hs]; exact h2, fun h0 => h3 (by omega)⟩
theorem StrsAt.carry {w w' : World} {lo hi lo' hi' : Nat} {a : Option Addr} {l : List ByteArray} (h : StrsAt w lo hi a l) (h1 : lo' ≤ lo) (h2 : hi ≤ hi')
    (hs : ∀ b, lo ≤ b → b < hi → w'.heap[b]? = w.heap[b]?) : StrsAt w' lo' hi' a l := by
  rcases h with h | ⟨b, off, ha, hb, hb', hc⟩
  · exact .inl h
  · refine .inr ⟨b, off, ha, by omega, by omega, fun i hi => ?_⟩
    rw [World.cell?_of_block (w := w) (hs b hb hb')]; exact hc i hi

mutual
theorem Rep.carry {w w' : World} {lo hi lo' hi' : Nat} (h1 : lo' ≤ lo) (h2 : hi ≤ hi') (hs : ∀ b, lo ≤ b → b < hi → w'.heap[b]? = w.heap[b]?) :
    ∀ (v : JV) (x : Value), Rep w lo hi v x → Rep w' lo' hi' v x
  | .mk k n t ns xs, x, h => by
    unfold Rep at h ⊢
    obtain ⟨an, cn, ai, ci, rfl, h3, h4, h5, h6⟩ := h
    refine ⟨an, cn, ai, ci, rfl, h3, h4, h5.carry h1 h2 hs, ?_⟩
    rcases h6 with h6 | ⟨b, off, ha, hb, hb', hu, hr⟩
    · exact .inl h6
    · exact .inr ⟨b, off, ha, by omega, by omega, hu.carry h1 (hs b hb hb'), RepL.carry h1 h2 hs xs b off hb hb' hr⟩
theorem RepL.carry {w w' : World} {lo hi lo' hi' : Nat} (h1 : lo' ≤ lo) (h2 : hi ≤ hi') (hs : ∀ b, lo ≤ b → b < hi → w'.heap[b]? = w.heap[b]?) :
    ∀ (l : List JV) (b off : Nat), lo ≤ b → b < hi → RepL w lo hi l b off → RepL w' lo' hi' l b off
  | [], _, _, _, _, _ => by unfold RepL; trivial
  | v :: r, b, off, hb, hb', h => by
    unfold RepL at h ⊢
    obtain ⟨⟨c0, c1, c2, c3, c4, e0, e1, e2, e3, e4, hf, hv⟩, hr⟩ := h
    have hz : w'.frozen? ⟨b, off, none⟩ = w.frozen? ⟨b, off, none⟩ := World.frozen?_of_block (w := w) (hs b hb hb')
    have hc : ∀ o, w'.cell? ⟨b, o, none⟩ = w.cell? ⟨b, o, none⟩ := fun o => World.cell?_of_block (w := w) (hs b hb hb')
    exact ⟨⟨c0, c1, c2, c3, c4, by rw [hc, e0], by rw [hc, e1], by rw [hc, e2], by rw [hc, e3], by rw [hc, e4], by rw [hz, hf], Rep.carry h1 h2 hs v _ hv⟩, RepL.carry h1 h2 hs r b (off + 5) hb hb' hr⟩
end

theorem Rep.below {w w' : World} {lo hi lo' hi' B : Nat} {v : JV} {x : Value} (h : Rep w lo hi v x) (hb : Below B w w') (hB : hi ≤ B) (h1 : lo' ≤ lo) (h2 : hi ≤ hi') : Rep w' lo' hi' v x :=
  Rep.carry h1 h2 (fun b _ hlt => hb.block b (by omega)) v x h
theorem StrsAt.below {w w' : World} {lo hi lo' hi' B : Nat} {a : Option Addr} {l : List ByteArray} (h : StrsAt w lo hi a l) (hb : Below B w w') (hB : hi ≤ B) (h1 : lo' ≤ lo) (h2 : hi ≤ hi') : StrsAt w' lo' hi' a l :=
  h.carry h1 h2 fun b _ hlt => hb.block b (by omega)
theorem ValsAt.carry {w w' : World} {lo hi lo' hi' : Nat} {a : Option Addr} {l : List JV} (h : ValsAt w lo hi a l) (h1 : lo' ≤ lo) (h2 : hi ≤ hi')
    (hs : ∀ b, lo ≤ b → b < hi → w'.heap[b]? = w.heap[b]?) : ValsAt w' lo' hi' a l := by
  rcases h with h | ⟨b, off, ha, hb, hb', hu, hr⟩
  · exact .inl h
  · exact .inr ⟨b, off, ha, by omega, by omega, hu.carry h1 (hs b hb hb'), RepL.carry h1 h2 hs l b off hb hb' hr⟩
theorem ValsAt.below {w w' : World} {lo hi lo' hi' B : Nat} {a : Option Addr} {l : List JV} (h : ValsAt w lo hi a l) (hb : Below B w w') (hB : hi ≤ B) (h1 : lo' ≤ lo) (h2 : hi ≤ hi') : ValsAt w' lo' hi' a l :=
  h.carry h1 h2 fun b _ hlt => hb.block b (by omega)

/-- An element of a row of values. -/
theorem ValsAt.at {w : World} {lo hi : Nat} {a : Option Addr} {l : List JV} (h : ValsAt w lo hi a l) (i : Nat) (hi' : i < l.length) :
    ∃ b off c0 c1 c2 c3 c4, a = some ⟨b, off, none⟩ ∧ lo ≤ b ∧ b < hi ∧ w.cell? ⟨b, off + i * 5, none⟩ = some c0 ∧ w.cell? ⟨b, off + i * 5 + 1, none⟩ = some c1 ∧ w.cell? ⟨b, off + i * 5 + 2, none⟩ = some c2 ∧ w.cell? ⟨b, off + i * 5 + 3, none⟩ = some c3 ∧ w.cell? ⟨b, off + i * 5 + 4, none⟩ = some c4 ∧
      Rep w lo hi l[i] (.agg #[c0, c1, c2, c3, c4]) := by
  rcases h with h | ⟨b, off, ha, hb, hb', _, hr⟩
  · rw [h] at hi'; simp at hi'
  · obtain ⟨c0, c1, c2, c3, c4, r0, r1, r2, r3, r4, _, r⟩ := hr.at i hi'
    exact ⟨b, off, c0, c1, c2, c3, c4, ha, hb, hb', r0, r1, r2, r3, r4, r⟩
theorem ValsAt.blk {w : World} {lo hi b off : Nat} {l : List JV} (h : ValsAt w lo hi (some ⟨b, off, none⟩) l) (i : Nat) (hi' : i < l.length) : BlkU w lo b ∧ w.frozen? ⟨b, off + i * 5, none⟩ = false := by
  rcases h with h | ⟨b', off', ha, hb, hb', hu, hr⟩
  · rw [h] at hi'; simp at hi'
  · simp only [Option.some.injEq, Addr.mk.injEq, and_true] at ha
    obtain ⟨rfl, rfl⟩ := ha
    obtain ⟨c0, c1, c2, c3, c4, r0, r1, r2, r3, r4, hf, r⟩ := hr.at i hi'
    exact ⟨hu, hf⟩
/-- .. its cells written out. -/
theorem ValsAt.get {w : World} {lo hi : Nat} {a : Option Addr} {l : List JV} (h : ValsAt w lo hi a l) (i : Nat) (hi' : i < l.length) :
    ∃ b off an cn ai ci, a = some ⟨b, off, none⟩ ∧ lo ≤ b ∧ b < hi ∧ w.cell? ⟨b, off + i * 5, none⟩ = some (.int .u8 l[i].kind) ∧ w.cell? ⟨b, off + i * 5 + 1, none⟩ = some (.int .i64 l[i].n) ∧ w.cell? ⟨b, off + i * 5 + 2, none⟩ = some (.string l[i].t) ∧
      w.cell? ⟨b, off + i * 5 + 3, none⟩ = some (.slice an l[i].names.length cn) ∧ w.cell? ⟨b, off + i * 5 + 4, none⟩ = some (.slice ai l[i].items.length ci) ∧
      Rep w lo hi l[i] (.agg #[.int .u8 l[i].kind, .int .i64 l[i].n, .string l[i].t, .slice an l[i].names.length cn, .slice ai l[i].items.length ci]) := by
  obtain ⟨b, off, c0, c1, c2, c3, c4, ha, hb, hb', e0, e1, e2, e3, e4, hr⟩ := h.at i hi'
  obtain ⟨an, cn, ai, ci, hx, _⟩ := hr.parts
  simp only [Value.agg.injEq, Array.mk.injEq, List.cons.injEq, and_true] at hx
  obtain ⟨rfl, rfl, rfl, rfl, rfl⟩ := hx
  exact ⟨b, off, an, cn, ai, ci, ha, hb, hb', e0, e1, e2, e3, e4, hr⟩
theorem StrsAt.at {w : World} {lo hi : Nat} {a : Option Addr} {l : List ByteArray} (h : StrsAt w lo hi a l) (i : Nat) (hi' : i < l.length) :
    ∃ b off, a = some ⟨b, off, none⟩ ∧ lo ≤ b ∧ b < hi ∧ w.cell? ⟨b, off + i, none⟩ = some (.string l[i]) := by
  rcases h with h | ⟨b, off, ha, hb, hb', hr⟩
  · rw [h] at hi'; simp at hi'
  · exact ⟨b, off, ha, hb, hb', hr i hi'⟩

theorem JV.wt_eq (v : JV) : v.wt = 1 + v.t.size + bytesSum v.names + JV.wts v.items := by cases v; simp [JV.wt, JV.t, JV.names, JV.items]
theorem JV.wt_pos (v : JV) : 1 ≤ v.wt := by rw [JV.wt_eq]; omega
theorem bytesSum_get : ∀ (l : List ByteArray) (i : Nat) (h : i < l.length), l[i].size + 1 ≤ bytesSum l
  | s :: r, 0, _ => by simp [bytesSum]
  | s :: r, i + 1, h => by have := bytesSum_get r i (by simpa using h); simp [bytesSum]; omega
theorem bytesSum_len : ∀ (l : List ByteArray), l.length ≤ bytesSum l
  | [] => by simp [bytesSum]
  | s :: r => by have := bytesSum_len r; simp [bytesSum]; omega
theorem JV.wts_get : ∀ (l : List JV) (i : Nat) (h : i < l.length), l[i].wt ≤ JV.wts l
  | s :: r, 0, _ => by simp [JV.wts]
  | s :: r, i + 1, h => by have := JV.wts_get r i (by simpa using h); simp [JV.wts]; omega
theorem JV.wts_len : ∀ (l : List JV), l.length ≤ JV.wts l
  | [] => by simp
  | s :: r => by have := JV.wts_len r; have := JV.wt_pos s; simp [JV.wts]; omega
theorem JV.wt_bd (v : JV) : v.t.size ≤ v.wt ∧ v.names.length ≤ v.wt ∧ v.items.length ≤ v.wt ∧ JV.wts v.items < v.wt := by
  have := JV.wt_eq v; have := bytesSum_len v.names; have := JV.wts_len v.items; omega
theorem JV.nums_get : ∀ (l : List JV) (i : Nat) (h : i < l.length), JV.nums l → JV.num l[i]
  | s :: r, 0, _, h => by unfold JV.nums at h; exact h.1
  | s :: r, i + 1, hi, h => by unfold JV.nums at h; exact JV.nums_get r i (by simpa using hi) h.2
theorem JV.num_parts {v : JV} (h : v.num) : (0 ≤ v.kind ∧ v.kind ≤ 255) ∧ (-9223372036854775808 ≤ v.n ∧ v.n ≤ 9223372036854775807) ∧ JV.nums v.items := by
  cases v; unfold JV.num at h; exact h

end Go.Proofs.YtcahpjejpimdhaaGreatDoor
