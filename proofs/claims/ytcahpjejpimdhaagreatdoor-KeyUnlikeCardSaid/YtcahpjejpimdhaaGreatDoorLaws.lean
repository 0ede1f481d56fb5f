/- Laws of single operations that the walks lean on: copy of a text into a row; a whole row loaded, a whole row stored. Over any program. -/
import Derived.Test.YtcahpjejpimdhaaGreatDoorTouch
import Derived.Lib.LazyBuf
import Derived.Laws.Rows
import Derived.Lib.Builder
import Derived.Laws.IdiomStrings
import Derived.Laws.BytesArg
import Derived.Lib.BufferRead
namespace Go.Proofs.YtcahpjejpimdhaaGreatDoor
open Go.RowKit
section
variable {P : Program}

theorem touch_setCells {S : Nat → Prop} {b : Nat} {a : World} (hb : S b ∨ a.heap.size ≤ b) : ∀ (vs : List Value) (o : Nat) (w : World), Touch S a w → Touch S a (w.setCells b o vs)
  | [], _, _, h => h
  | v :: r, o, _, h => touch_setCells hb r (o + 1) _ (h.setCell hb v)

theorem run_copy_str (w : World) (dT sT ty elem : TypeId) (b o dLen dCap : Nat) (s : ByteArray)
    (hu : P.underlying dT = some (.slice elem)) (hz : ∀ w, (Go.sizeOf elem).run P w = .ok 1 w)
    (hc : ∀ j, j < Nat.min s.size dLen → (w.cell? ⟨b, o + j, none⟩).isSome = true) (hf : ∀ j, j < Nat.min s.size dLen → w.frozen? ⟨b, o + j, none⟩ = false) :
    (Builtin.copy_ #[dT, sT] ty #[.slice (some ⟨b, o, none⟩) dLen dCap, .string s]).run P w = .ok (goInt (Nat.min s.size dLen)) (w.setCells b o ((s.data.toList.map fun x => Value.int .u8 (x.toNat : Int)).take (Nat.min s.size dLen))) := by
  have hl : ((s.data.toList.map fun x => Value.int .u8 (x.toNat : Int)).take (Nat.min s.size dLen)).length = Nat.min s.size dLen := by
    rw [List.length_take, List.length_map, toList_length]; exact Nat.min_eq_left (Nat.min_le_left _ _)
  have hst := run_storeCells_cells (P := P) b o ((s.data.toList.map fun x => Value.int .u8 (x.toNat : Int)).take (Nat.min s.size dLen)) 0 w (by rw [hl]; simpa using hc) (by rw [hl]; simpa using hf) (by
    intro v hv
    obtain ⟨x, _, rfl⟩ := List.mem_map.1 (List.mem_of_mem_take hv)
    rfl)
  simp [Builtin.copy_, run_underlying hu, Builtin.lenOf, Builtin.firstCells, hz]
  rw [hst]
  rfl

/-- The byte of a text at a place. -/
def sbyte (s : ByteArray) (i : Nat) : Int := ((s.data.toList.getD i 0).toNat : Int)

/-- copy(dst, s): s a text, dst in a row of the call's own. -/
theorem wpList_copy_str {w : World} {ops : Array Oper} {rest : List Oper} {o : Oper} {a : Act} {Q : Exit → Act → World → Prop} (hgd : o.guard = none) (d x : Operand) (dT sT : TypeId)
    (ho : o.op = .call { callee := .builtin .copy, args := #[d, x], argTypes := #[dT, sT] }) (elem : TypeId) (hu : P.underlying dT = some (.slice elem)) (hz : ∀ w, (Go.sizeOf elem).run P w = .ok 1 w)
    (b off dLen dCap : Nat) (s : ByteArray) (hd : a.eval d = .slice (some ⟨b, off, none⟩) dLen dCap) (hs : a.eval x = .string s)
    (t N : Nat) (f : Nat → Value) (hr : w.rowIs b t N f) (n : Nat) (hn : n = Nat.min s.size dLen) (hfit : off + n ≤ N)
    (h : ∀ w', Hid (w'.rowIs b t N (fun j => if off ≤ j ∧ j < off + n then .int .u8 (sbyte s (j - off)) else f j)) → Hid (Touch (· = b) w w') → wpList P ops Q rest (a.put o.dst (goInt n)) w') :
    wpList P ops Q (o :: rest) a w := by
  refine wpList_plain hgd fun K hK => ?_
  have hrun := run_copy_str (P := P) w dT sT o.type elem b off dLen dCap s hu hz (fun j hj => by rw [hr.cell (by omega)]; rfl) (fun j hj => hr.frozen _)
  rw [← hn] at hrun
  unfold Oper.wp
  simp [execOp, ho, resolve, invoke, builtin, hd, hs, hrun, Result.andThen]
  refine hK _ _ (h _ ?_ (touch_setCells (S := (· = b)) (b := b) (a := w) (.inl rfl) _ _ _ (Touch.refl _ _)))
  have hl : ((s.data.toList.map fun x => Value.int .u8 (x.toNat : Int)).take n).length = n := by
    rw [List.length_take, List.length_map, toList_length, hn]; exact Nat.min_eq_left (Nat.min_le_left _ _)
  refine (rowIs_setCells _ off w f hr).congr fun j hj => ?_
  rw [hl]
  by_cases e : off ≤ j ∧ j < off + n
  · rw [if_pos e, if_pos e, List.getElem?_take_of_lt (by omega), List.getElem?_map]; unfold sbyte; rw [List.getD_eq_getElem?_getD]
    have : j - off < s.data.toList.length := by rw [toList_length]; have : n ≤ s.size := hn ▸ Nat.min_le_left _ _; omega
    rw [List.getElem?_eq_getElem this]; rfl
  · rw [if_neg e, if_neg e]

theorem one_ofFn {n : Nat} {f : Nat → Value} (h : ∀ i, i < n → (f i).oneCell' = true) (c : Array Value) (hc : c.size = n) (hf : ∀ i, i < n → c[i]? = some (f i)) : ∀ v ∈ c.toList, v.oneCell' = true := by
  intro v hv
  obtain ⟨i, hi, rfl⟩ := List.getElem_of_mem hv
  have hi' : i < n := by simpa [hc] using hi
  have := hf i hi'
  rw [Array.getElem?_eq_getElem (by omega)] at this
  have e : c.toList[i] = f i := by simpa using Option.some.inj this
  rw [e]; exact h i hi'

/-- A row loaded whole and stored whole into another row, of the same cells. -/
theorem wpList_store_row {w : World} {ops : Array Oper} {rest : List Oper} {o : Oper} {a : Act} {Q : Exit → Act → World → Prop} (hgd : o.guard = none) (ty : TypeId) (x y : Operand)
    (ho : o.op = .store ty x y) (g t n : Nat) (f f' : Nat → Value) (hx : a.eval x = .pointer (some ⟨g, 0, none⟩)) (hr : w.rowIs g t n f) (cs : Array Value) (hy : a.eval y = .agg cs) (hcs : cs.size = n) (hcf : ∀ i, i < n → cs[i]? = some (f' i))
    (h1 : ∀ i, i < n → (f' i).oneCell' = true) (hi : ∀ w, (Go.sizeOf ty).run P w = .ok n w)
    (h : ∀ w', Hid (w'.rowIs g t n f') → Hid (Touch (· = g) w w') → wpList P ops Q rest (a.put o.dst undef) w') : wpList P ops Q (o :: rest) a w := by
  refine wpList_plain hgd fun K hK => ?_
  have hst := run_storeCells_cells (P := P) g 0 cs.toList 0 w (fun j hj => by simp at hj; rw [hr.cell (i := 0 + 0 + j) (by omega)]; rfl) (fun j _ => hr.frozen _) (one_ofFn h1 cs hcs hcf)
  unfold Oper.wp execOp
  simp only [ho, hx, hy, Instr.storeAt, Instr.sureAddr, Sem.run_bind, Sem.run_pure, Result.andThen_ok, storeVar, Value.cells, hi]
  simp [hcs, hst, Oper.upon]
  refine hK _ _ (h _ ?_ (touch_setCells (S := (· = g)) (b := g) (a := w) (.inl rfl) _ _ _ (Touch.refl _ _)))
  refine (rowIs_setCells _ 0 w f hr).congr fun j hj => ?_
  rw [if_pos (by simp; omega)]
  have := hcf j hj
  simp at this ⊢
  rw [this]; rfl

/-- A row loaded whole. -/
theorem wpList_load_rowIs {w : World} {ops : Array Oper} {rest : List Oper} {o : Oper} {a : Act} {Q : Exit → Act → World → Prop} (hgd : o.guard = none) (ty : TypeId) (x : Operand) (ho : o.op = .load ty x)
    (g t n : Nat) (f : Nat → Value) (hx : a.eval x = .pointer (some ⟨g, 0, none⟩)) (hr : w.rowIs g t n f) (d : TypeDesc)
    (hu : P.underlying ty = some d) (hd : (match d with | .struct _ | .array _ _ => true | _ => false) = true) (hi : (P.info? ty).map (·.size) = some n)
    (h : ∀ cs : Array Value, Hid (cs.size = n) → Hid (∀ i, i < n → cs[i]? = some (f i)) → wpList P ops Q rest (a.put o.dst (.agg cs)) w) : wpList P ops Q (o :: rest) a w := by
  obtain ⟨c, hc, hn, hf⟩ := hr
  exact wpList_load_row hgd ty x ho g hx t c (0, 0) d hc hu hd (by rw [hn]; exact hi) (h c hn hf)

/-- a[u:], a an array of N cells of one byte each. -/
theorem run_sliceAt_lo {T N E : Nat} (hT : P.underlying T = some (.array N E)) (hz : ∀ w, (Go.sizeOf E).run P w = .ok 1 w) (b o u : Nat) (hu : u < N) (w : World) :
    (Instr.sliceAt T (.pointer (some ⟨b, o, none⟩)) (some (.int .i64 (u : Int))) none none).run P w = .ok (.slice (some ⟨b, o + u, none⟩) (N - u) (N - u)) w := by
  have h1 : (0 : Int) ≤ u ∧ (u : Int) ≤ N := by omega
  have hadd : (⟨b, o, none⟩ : Addr).add u = ⟨b, o + u, none⟩ := by unfold Addr.add; split <;> simp_all
  simp [Instr.sliceAt, run_underlying hT, Instr.sureAddr, Instr.sliceBounds, Instr.sliceBound, asIntOf, hz, show u ≤ N by omega]
  rw [if_neg (by omega), hadd]

/-- string(b) of a row of bytes that the call owns. -/
theorem run_convert_owned {w : World} {base : Nat} {v : Value} {n : Nat} {l : List UInt8} (src dst e : TypeId) (hs : P.underlying src = some (.slice e)) (he : P.underlying e = some (.int .u8)) (hd : P.underlying dst = some .string)
    (h : w.ownsRow base e 1 v n (Lib.byteCells l)) : (convert src dst v).run P w = .ok (.string ⟨l.toArray⟩) w := by
  have hn : l.length = n := by have := h.1; simpa [Lib.byteCells] using this
  rcases h.2 with ⟨rfl, h0⟩ | ⟨g, cap, cur, rfl, hg⟩
  · have : l = [] := List.eq_nil_of_length_eq_zero (by omega)
    subst this
    exact Lib.run_convert_nil_bytes w src dst e 0 hs he hd
  · subst hn
    refine run_convert_bytes_back w src dst e ⟨g, 0, none⟩ cap l hs he hd fun j hj => ?_
    refine h.cells rfl j _ ?_
    simp [Lib.byteCells, List.getElem?_eq_getElem hj]

end
end Go.Proofs.YtcahpjejpimdhaaGreatDoor
