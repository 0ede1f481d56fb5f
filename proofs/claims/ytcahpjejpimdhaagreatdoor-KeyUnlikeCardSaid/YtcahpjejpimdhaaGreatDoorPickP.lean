/- A picker (pick.Obj) as data, and how it lies in memory. -/
import Derived.Test.YtcahpjejpimdhaaGreatDoorGet
import Derived.Maps.OwnOps
import Derived.Maps.Views
import Derived.StringKeys
namespace Go.Proofs.YtcahpjejpimdhaaGreatDoor
open Go.RowKit Go.WideMaps Go.Maps

/-- What stands by a name. -/
def lookL : List ByteArray → List JV → ByteArray → Option JV
  | n :: ns, x :: xs, y => if n = y then some x else lookL ns xs y
  | _, _, _ => none
def JV.look (v : JV) (y : ByteArray) : Option JV := lookL v.names v.items y
theorem lookL_none : ∀ (ns : List ByteArray) (xs : List JV) (y : ByteArray), (∀ t (h : t < ns.length), ns[t] ≠ y) → lookL ns xs y = none
  | [], _, _, _ => by simp [lookL]
  | n :: ns, [], _, _ => by simp [lookL]
  | n :: ns, x :: xs, y, h => by
    have h0 := h 0 (by simp)
    simp only [List.getElem_cons_zero] at h0
    rw [lookL, if_neg h0]
    exact lookL_none ns xs y fun t ht => by have := h (t + 1) (by simp; omega); simpa using this
theorem lookL_some : ∀ (ns : List ByteArray) (xs : List JV) (y : ByteArray) (r : Nat) (h : r < ns.length) (h' : r < xs.length), (∀ t (ht : t < ns.length), t < r → ns[t] ≠ y) → ns[r] = y → lookL ns xs y = some xs[r]
  | n :: ns, x :: xs, y, 0, _, _, _, e => by simp only [List.getElem_cons_zero] at e; rw [lookL, if_pos e]; rfl
  | n :: ns, x :: xs, y, r + 1, h, h', hn, e => by
    have h0 := hn 0 (by simp) (by omega)
    simp only [List.getElem_cons_zero] at h0
    rw [lookL, if_neg h0]
    exact lookL_some ns xs y r (by simpa using h) (by simpa using h') (fun t ht hr => by have := hn (t + 1) (by simp; omega) (by omega); simpa using this) (by simpa using e)
theorem look_some {v : JV} {y : ByteArray} (hr : rises v.names = true) (r : Nat) (h : r < v.names.length) (h' : r < v.items.length) (e : v.names[r] = y) : v.look y = some v.items[r] :=
  lookL_some _ _ _ r h h' (fun t ht hlt e2 => by
    have := rises_lt hr t r ht h hlt
    rw [e2, e, bl_irrefl] at this; cases this) e

/-- What a picker holds: the names that were asked, and the first error. -/
structure PS where
  asked : List ByteArray
  err : Int
def pickText (v : JV) (y : ByteArray) (st : PS) : ByteArray × PS :=
  if st.err ≠ 0 then ({ data := #[] }, st) else match v.look y with
    | none => ({ data := #[] }, ⟨st.asked, 6⟩)
    | some it => if it.kind = 3 then (it.t, ⟨y :: st.asked, 0⟩) else ({ data := #[] }, ⟨st.asked, 10⟩)
def pickDone (v : JV) (st : PS) : Int := if st.err ≠ 0 then st.err else if v.names.all (fun n => st.asked.any fun a => decide (a = n)) then 0 else 11

/-- The map of the names that were asked. -/
def AskD (D : DataW Unit) (asked : List ByteArray) : Prop :=
  IsMap D ∧ ∀ s : ByteArray, ∃ c : Int, D.atKey (.string s.data.toList) (.lit (.int .i64 0)) = .lit (.int .i64 c) ∧ 0 ≤ c ∧ c ≤ asked.length ∧ (c = 0 ↔ s ∉ asked)
theorem AskD.nil : AskD (.map []) [] := ⟨isMap_empty, fun s => ⟨0, rfl, by omega, by simp, by simp⟩⟩
theorem AskD.cons {D : DataW Unit} {asked : List ByteArray} (h : AskD D asked) (y : ByteArray) (c : Int) (hc : D.atKey (.string y.data.toList) (.lit (.int .i64 0)) = .lit (.int .i64 c)) :
    AskD (D.put (.string y.data.toList) (.lit (.int .i64 (c + 1)))) (y :: asked) := by
  refine ⟨h.1.put _ _, fun s => ?_⟩
  by_cases e : s = y
  · subst e
    obtain ⟨c', h1, h2, h3, h4⟩ := h.2 s
    rw [hc] at h1
    simp only [DataW.lit.injEq, Lit.int.injEq, true_and] at h1
    subst h1
    exact ⟨c + 1, atKey_put_same h.1 (by trivial) _ _, by omega, by simp; omega, by simp; omega⟩
  · obtain ⟨c', h1, h2, h3, h4⟩ := h.2 s
    have ne : Lit.string s.data.toList ≠ Lit.string y.data.toList := fun e2 => e (by
      have e3 : s.data.toList = y.data.toList := by simpa using e2
      exact ByteArray.ext (Array.toList_inj.1 e3))
    exact ⟨c', by rw [atKey_put_other ne]; exact h1, h2, by simp; omega, by simp [e, h4]⟩

/-- A picker of an object that may be: its block o, its map's block m. -/
structure PickAt (o m lo hi : Nat) (v : JV) (an ai : Option Addr) (cn ci : Nat) (st : PS) (w : World) : Prop where
  obj : w.heap[o]? = some (.cells #[.int .u8 v.kind, .int .i64 v.n, .string v.t, .slice an v.names.length cn, .slice ai v.items.length ci, .map (some m), .int .i64 st.err] 118 (0, 0))
  map : ∃ D n, w.ownsMap Tryz.prog 9 (plainElem (H := Unit) Tryz.prog 3) m n D ∧ n ≤ 1000000 + st.asked.length ∧ AskD D st.asked
  rep : Rep w lo hi v (.agg #[.int .u8 v.kind, .int .i64 v.n, .string v.t, .slice an v.names.length cn, .slice ai v.items.length ci])
  pos : 0 < lo
  out : ¬ (lo ≤ o ∧ o < hi) ∧ ¬ (lo ≤ m ∧ m < hi)
  le : hi ≤ w.heap.size
  kind : v.kind = 5
  rise : rises v.names = true
  len : v.names.length = v.items.length
  wt : v.wt ≤ 4294967296

theorem PickAt.below {o m lo hi : Nat} {v : JV} {an ai : Option Addr} {cn ci : Nat} {st : PS} {w w' : World} (h : PickAt o m lo hi v an ai cn ci st w) (hb : Below w.heap.size w w') : PickAt o m lo hi v an ai cn ci st w' where
  obj := by rw [hb.block o ((Array.getElem?_eq_some_iff.1 h.obj).1)]; exact h.obj
  map := by
    obtain ⟨D, n, h1, h2, h3⟩ := h.map
    exact ⟨D, n, h1.kept (row := none) ⟨hb.os, hb.tape, hb.output, hb.size, fun k hk _ => hb.block k hk⟩ (by simp), h2, h3⟩
  rep := h.rep.below hb h.le (Nat.le_refl _) (Nat.le_refl _)
  pos := h.pos
  out := h.out
  le := Nat.le_trans h.le hb.size
  kind := h.kind
  rise := h.rise
  len := h.len
  wt := h.wt
theorem PickAt.ne {o m lo hi : Nat} {v : JV} {an ai : Option Addr} {cn ci : Nat} {st : PS} {w : World} (h : PickAt o m lo hi v an ai cn ci st w) : m ≠ o := fun e => by
  obtain ⟨D, n, ⟨es, clock, h1, _⟩, _⟩ := h.map
  rw [e, h.obj] at h1; cases h1
theorem PickAt.fail {o m lo hi : Nat} {v : JV} {an ai : Option Addr} {cn ci : Nat} {st : PS} {w : World} (h : PickAt o m lo hi v an ai cn ci st w) (e : Int) : PickAt o m lo hi v an ai cn ci ⟨st.asked, e⟩ (w.setCell ⟨o, 6, none⟩ (.int .i64 e)) where
  obj := by simp [World.setCell, Array.getElem?_modify, h.obj]
  map := by
    obtain ⟨D, n, h1, h2, h3⟩ := h.map
    exact ⟨D, n, h1.kept (row := some o) ⟨rfl, rfl, rfl, by simp [World.setCell], fun k _ hk => Below.heap_setCell _ _ _ _ (fun e => hk (by simp [e]))⟩ (fun e => h.ne (Option.some.inj e)), h2, h3⟩
  rep := h.rep.carry (Nat.le_refl _) (Nat.le_refl _) fun b h1 h2 => Below.heap_setCell _ _ _ _ (fun (e : b = o) => h.out.1 ⟨e ▸ h1, e ▸ h2⟩)
  pos := h.pos
  out := h.out
  le := by have := h.le; simpa [World.setCell] using this
  kind := h.kind
  rise := h.rise
  len := h.len
  wt := h.wt
theorem PickAt.ask {o m lo hi : Nat} {v : JV} {an ai : Option Addr} {cn ci : Nat} {st : PS} {w w' : World} (h : PickAt o m lo hi v an ai cn ci st w) (y : ByteArray) (hg : w.grownBy w' (some m)) {D : DataW Unit} {n : Nat}
    (hm : w'.ownsMap Tryz.prog 9 (plainElem (H := Unit) Tryz.prog 3) m n D) (hn : n ≤ 1000000 + st.asked.length + 1) (hD : AskD D (y :: st.asked)) : PickAt o m lo hi v an ai cn ci ⟨y :: st.asked, st.err⟩ w' where
  obj := by rw [hg.block o ((Array.getElem?_eq_some_iff.1 h.obj).1) (fun e => h.ne (Option.some.inj e).symm)]; exact h.obj
  map := ⟨D, n, hm, by simp; omega, hD⟩
  rep := h.rep.carry (Nat.le_refl _) (Nat.le_refl _) fun b h1 h2 => hg.block b (Nat.lt_of_lt_of_le h2 h.le) (fun e => h.out.2 ⟨by rw [← Option.some.inj e]; exact h1, by rw [← Option.some.inj e]; exact h2⟩)
  pos := h.pos
  out := h.out
  le := Nat.le_trans h.le hg.size
  kind := h.kind
  rise := h.rise
  len := h.len
  wt := h.wt

end Go.Proofs.YtcahpjejpimdhaaGreatDoor
