/- Laws of single operations that the walks lean on: copy of a text into a row; a whole row loaded, a whole row stored. Over any program. An argument of type api.Value, opened: what it reads as is a JSON value (JV), and how it lies. Keys in a row: how they lie; an argument of type []api.Key, opened. Arguments of the laws of layer 17, opened, whatever the numbers of their types: rows of pairs and of triples of texts. A region whose operations the model runs in a drawn order: an invariant over what is done (own law). Parts of a row of pairs of texts (sigs[:i], sigs[i:]). No program in sight. -/
import Derived.Test.YtaekmmnpdbmoeaaGreatDoorJh00
import Derived.Lib.LazyBuf
import Derived.Laws.Rows
import Derived.Lib.Builder
import Derived.Laws.IdiomStrings
import Derived.Laws.BytesArg
import Derived.Lib.BufferRead
import Derived.Test.YtaekmmnpdbmoeaaGreatDoorProg
import Derived.WalkKit
import Derived.ProofKit
import Derived.OpenShut
import Derived.ChangeSame
import Derived.SliceStrings
import Derived.Deep.Slices
import Derived.Lib.SmallJoins
import Derived.Carry
import Derived.Lib.Hide
import Derived.StillTail
import Derived.RegionTactic
import Derived.KernelRfl

namespace Go.Proofs.YtaekmmnpdbmoeaaGreatDoor
open Go.RowKit
section
variable {P : Program}

theorem touch_setCells {S : Nat → Prop} {b : Nat} {a : World} (hb : S b ∨ a.heap.size ≤ b) : ∀ (vs : List Value) (o : Nat) (w : World), Touch S a w → Touch S a (w.setCells b o vs)
  | [], _, _, h => h
  | v :: r, o, _, h => touch_setCells hb r (o + 1) _ (h.setCell hb v)

theorem run_copy_str (w : World) (dT sT ty elem : TypeId) (b o dLen dCap : Nat) (s : ByteArray)
    (hu : P.underlying dT = some (.slice elem)) (hz : ∀ w, (Go.sizeOf elem).run P w = .ok 1 w)
    (hc : ∀ j, j < Nat.min s.size dLen → (w.cell? ⟨b, o + j, none⟩).isSome = true) (hf : ∀ j, j < Nat.min s.size dLen → w.frozen? ⟨b, o + j, none⟩ = false) :
    (Builtin.copy_ #[dT, sT] ty #[.slice (some ⟨b, o, none⟩) dLen dCap, .string s]).run P w = .ok (goInt (Nat.min s.size dLen)) (w.setCells b o ((s.data.toList.map fun x => Value.int .u8 (x.toNat : Int)).take (Nat.min s.size dLen))) := by
  have hl : ((s.data.toList.map fun x => Value.int .u8 (x.toNat : Int)).take (Nat.min s.size dLen)).length = Nat.min s.size dLen := by
    rw [List.length_take, List.length_map, toList_length]; exact Nat.min_eq_left (Nat.min_le_left _ _)
  have hst := run_storeCells_cells (P := P) b o ((s.data.toList.map fun x => Value.int .u8 (x.toNat : Int)).take (Nat.min s.size dLen)) 0 w (by rw [hl]; simpa using hc) (by rw [hl]; simpa using hf) (by
    intro v hv
    obtain ⟨x, _, rfl⟩ := List.mem_map.1 (List.mem_of_mem_take hv)
    rfl)
  simp [Builtin.copy_, run_underlying hu, Builtin.lenOf, Builtin.firstCells, hz]
  rw [hst]
  rfl

/-- The byte of a text at a place. -/
def sbyte (s : ByteArray) (i : Nat) : Int := ((s.data.toList.getD i 0).toNat : Int)

/-- copy(dst, s): s a text, dst in a row of the call's own. -/
theorem wpList_copy_str {w : World} {ops : Array Oper} {rest : List Oper} {o : Oper} {a : Act} {Q : Exit → Act → World → Prop} (hgd : o.guard = none) (d x : Operand) (dT sT : TypeId)
    (ho : o.op = .call { callee := .builtin .copy, args := #[d, x], argTypes := #[dT, sT] }) (elem : TypeId) (hu : P.underlying dT = some (.slice elem)) (hz : ∀ w, (Go.sizeOf elem).run P w = .ok 1 w)
    (b off dLen dCap : Nat) (s : ByteArray) (hd : a.eval d = .slice (some ⟨b, off, none⟩) dLen dCap) (hs : a.eval x = .string s)
    (t N : Nat) (f : Nat → Value) (hr : w.rowIs b t N f) (n : Nat) (hn : n = Nat.min s.size dLen) (hfit : off + n ≤ N)
    (h : ∀ w', Hid (w'.rowIs b t N (fun j => if off ≤ j ∧ j < off + n then .int .u8 (sbyte s (j - off)) else f j)) → Hid (Touch (· = b) w w') → wpList P ops Q rest (a.put o.dst (goInt n)) w') :
    wpList P ops Q (o :: rest) a w := by
  refine wpList_plain hgd fun K hK => ?_
  have hrun := run_copy_str (P := P) w dT sT o.type elem b off dLen dCap s hu hz (fun j hj => by rw [hr.cell (by omega)]; rfl) (fun j hj => hr.frozen _)
  rw [← hn] at hrun
  unfold Oper.wp
  simp [execOp, ho, resolve, invoke, builtin, hd, hs, hrun, Result.andThen]
  refine hK _ _ (h _ ?_ (touch_setCells (S := (· = b)) (b := b) (a := w) (.inl rfl) _ _ _ (Touch.refl _ _)))
  have hl : ((s.data.toList.map fun x => Value.int .u8 (x.toNat : Int)).take n).length = n := by
    rw [List.length_take, List.length_map, toList_length, hn]; exact Nat.min_eq_left (Nat.min_le_left _ _)
  refine (rowIs_setCells _ off w f hr).congr fun j hj => ?_
  rw [hl]
  by_cases e : off ≤ j ∧ j < off + n
  · rw [if_pos e, if_pos e, List.getElem?_take_of_lt (by omega), List.getElem?_map]; unfold sbyte; rw [List.getD_eq_getElem?_getD]
    have : j - off < s.data.toList.length := by rw [toList_length]; have : n ≤ s.size := hn ▸ Nat.min_le_left _ _; omega
    rw [List.getElem?_eq_getElem this]; rfl
  · rw [if_neg e, if_neg e]

theorem one_ofFn {n : Nat} {f : Nat → Value} (h : ∀ i, i < n → (f i).oneCell' = true) (c : Array Value) (hc : c.size = n) (hf : ∀ i, i < n → c[i]? = some (f i)) : ∀ v ∈ c.toList, v.oneCell' = true := by
  intro v hv
  obtain ⟨i, hi, rfl⟩ := List.getElem_of_mem hv
  have hi' : i < n := by simpa [hc] using hi
  have := hf i hi'
  rw [Array.getElem?_eq_getElem (by omega)] at this
  have e : c.toList[i] = f i := by simpa using Option.some.inj this
  rw [e]; exact h i hi'

/-- A row loaded whole and stored whole into another row, of the same cells. -/
theorem wpList_store_row {w : World} {ops : Array Oper} {rest : List Oper} {o : Oper} {a : Act} {Q : Exit → Act → World → Prop} (hgd : o.guard = none) (ty : TypeId) (x y : Operand)
    (ho : o.op = .store ty x y) (g t n : Nat) (f f' : Nat → Value) (hx : a.eval x = .pointer (some ⟨g, 0, none⟩)) (hr : w.rowIs g t n f) (cs : Array Value) (hy : a.eval y = .agg cs) (hcs : cs.size = n) (hcf : ∀ i, i < n → cs[i]? = some (f' i))
    (h1 : ∀ i, i < n → (f' i).oneCell' = true) (hi : ∀ w, (Go.sizeOf ty).run P w = .ok n w)
    (h : ∀ w', Hid (w'.rowIs g t n f') → Hid (Touch (· = g) w w') → wpList P ops Q rest (a.put o.dst undef) w') : wpList P ops Q (o :: rest) a w := by
  refine wpList_plain hgd fun K hK => ?_
  have hst := run_storeCells_cells (P := P) g 0 cs.toList 0 w (fun j hj => by simp at hj; rw [hr.cell (i := 0 + 0 + j) (by omega)]; rfl) (fun j _ => hr.frozen _) (one_ofFn h1 cs hcs hcf)
  unfold Oper.wp execOp
  simp only [ho, hx, hy, Instr.storeAt, Instr.sureAddr, Sem.run_bind, Sem.run_pure, Result.andThen_ok, storeVar, Value.cells, hi]
  simp [hcs, hst, Oper.upon]
  refine hK _ _ (h _ ?_ (touch_setCells (S := (· = g)) (b := g) (a := w) (.inl rfl) _ _ _ (Touch.refl _ _)))
  refine (rowIs_setCells _ 0 w f hr).congr fun j hj => ?_
  rw [if_pos (by simp; omega)]
  have := hcf j hj
  simp at this ⊢
  rw [this]; rfl

/-- A row loaded whole. -/
theorem wpList_load_rowIs {w : World} {ops : Array Oper} {rest : List Oper} {o : Oper} {a : Act} {Q : Exit → Act → World → Prop} (hgd : o.guard = none) (ty : TypeId) (x : Operand) (ho : o.op = .load ty x)
    (g t n : Nat) (f : Nat → Value) (hx : a.eval x = .pointer (some ⟨g, 0, none⟩)) (hr : w.rowIs g t n f) (d : TypeDesc)
    (hu : P.underlying ty = some d) (hd : (match d with | .struct _ | .array _ _ => true | _ => false) = true) (hi : (P.info? ty).map (·.size) = some n)
    (h : ∀ cs : Array Value, Hid (cs.size = n) → Hid (∀ i, i < n → cs[i]? = some (f i)) → wpList P ops Q rest (a.put o.dst (.agg cs)) w) : wpList P ops Q (o :: rest) a w := by
  obtain ⟨c, hc, hn, hf⟩ := hr
  exact wpList_load_row hgd ty x ho g hx t c (0, 0) d hc hu hd (by rw [hn]; exact hi) (h c hn hf)

/-- a[u:], a an array of N cells of one byte each. -/
theorem run_sliceAt_lo {T N E : Nat} (hT : P.underlying T = some (.array N E)) (hz : ∀ w, (Go.sizeOf E).run P w = .ok 1 w) (b o u : Nat) (hu : u < N) (w : World) :
    (Instr.sliceAt T (.pointer (some ⟨b, o, none⟩)) (some (.int .i64 (u : Int))) none none).run P w = .ok (.slice (some ⟨b, o + u, none⟩) (N - u) (N - u)) w := by
  have h1 : (0 : Int) ≤ u ∧ (u : Int) ≤ N := by omega
  have hadd : (⟨b, o, none⟩ : Addr).add u = ⟨b, o + u, none⟩ := by unfold Addr.add; split <;> simp_all
  simp [Instr.sliceAt, run_underlying hT, Instr.sureAddr, Instr.sliceBounds, Instr.sliceBound, asIntOf, hz, show u ≤ N by omega]
  rw [if_neg (by omega), hadd]

/-- string(b) of a row of bytes that the call owns. -/
theorem run_convert_owned {w : World} {base : Nat} {v : Value} {n : Nat} {l : List UInt8} (src dst e : TypeId) (hs : P.underlying src = some (.slice e)) (he : P.underlying e = some (.int .u8)) (hd : P.underlying dst = some .string)
    (h : w.ownsRow base e 1 v n (Lib.byteCells l)) : (convert src dst v).run P w = .ok (.string ⟨l.toArray⟩) w := by
  have hn : l.length = n := by have := h.1; simpa [Lib.byteCells] using this
  rcases h.2 with ⟨rfl, h0⟩ | ⟨g, cap, cur, rfl, hg⟩
  · have : l = [] := List.eq_nil_of_length_eq_zero (by omega)
    subst this
    exact Lib.run_convert_nil_bytes w src dst e 0 hs he hd
  · subst hn
    refine run_convert_bytes_back w src dst e ⟨g, 0, none⟩ cap l hs he hd fun j hj => ?_
    refine h.cells rfl j _ ?_
    simp [Lib.byteCells, List.getElem?_eq_getElem hj]

end
end Go.Proofs.YtaekmmnpdbmoeaaGreatDoor

namespace Go.Proofs.YtaekmmnpdbmoeaaGreatDoor
open Go.ChangeShapes Go.WideShapes Go.ChangeAt Go.RowKit Go.Joins Go.Deep

mutual
/-- Texts and rows are no longer than any can be. -/
def JV.fits : JV → Prop
  | .mk _ _ t ns xs => t.size ≤ maxLen ∧ ns.length ≤ maxLen ∧ xs.length ≤ maxLen ∧ (∀ s ∈ ns, s.size ≤ maxLen) ∧ JV.fitsL xs
def JV.fitsL : List JV → Prop
  | [] => True
  | x :: r => JV.fits x ∧ JV.fitsL r
end
theorem JV.fits_parts {v : JV} (h : v.fits) : v.t.size ≤ maxLen ∧ v.names.length ≤ maxLen ∧ v.items.length ≤ maxLen ∧ (∀ s ∈ v.names, s.size ≤ maxLen) ∧ JV.fitsL v.items := by
  cases v; unfold JV.fits at h; exact h
theorem JV.fitsL_get : ∀ (l : List JV) (i : Nat) (h : i < l.length), JV.fitsL l → JV.fits l[i]
  | s :: r, 0, _, h => by unfold JV.fitsL at h; exact h.1
  | s :: r, i + 1, hi, h => by unfold JV.fitsL at h; exact JV.fitsL_get r i (by simpa using hi) h.2
theorem JV.fitsL_of : ∀ (l : List JV), (∀ i (h : i < l.length), l[i].fits) → JV.fitsL l
  | [], _ => by unfold JV.fitsL; trivial
  | s :: r, h => by
    unfold JV.fitsL
    exact ⟨h 0 (by simp), JV.fitsL_of r fun i hi => by have := h (i + 1) (by simpa using hi); simpa using this⟩
theorem JV.nums_of : ∀ (l : List JV), (∀ i (h : i < l.length), l[i].num) → JV.nums l
  | [], _ => by unfold JV.nums; trivial
  | s :: r, h => by
    unfold JV.nums
    exact ⟨h 0 (by simp), JV.nums_of r fun i hi => by have := h (i + 1) (by simpa using hi); simpa using this⟩

theorem addr_plain {w : World} {a : Addr} {v : Value} (h : w.cell? a = some v) : a = ⟨a.block, a.off, none⟩ := by
  obtain ⟨b, o, sp⟩ := a
  cases sp with
  | none => rfl
  | some s => simp [World.cell?] at h; split at h <;> simp at h

theorem add_off (b o k : Nat) : (⟨b, o, none⟩ : Addr).add k = ⟨b, o + k, none⟩ := by
  unfold Addr.add; split <;> simp_all

section
variable {H : Type} {enc : TypeId × Value → H} {P : Program} {w : World} {base : Nat} {spare : Nat → Bool} {held : Bool}
theorem trod_five {t : TypeId} {f0 f1 f2 f3 f4 : Field} {fuel : Nat} {cs : List Value} {x : DataW H × List MemPlace} (hs : P.underlying t = some (.struct #[f0, f1, f2, f3, f4])) (hone : oneCellFields P #[f0, f1, f2, f3, f4] = true) (hC : P.cellsOf t = 5)
    (h : DataW.trod enc P w base spare held fuel t cs = some x) :
    ∃ (c0 c1 c2 c3 c4 : Value) (y0 y1 y2 y3 y4 : DataW H × List MemPlace) (n : Nat), fuel = n + 1 ∧ cs = [c0, c1, c2, c3, c4] ∧ x.2 = y0.2 ++ (y1.2 ++ (y2.2 ++ (y3.2 ++ y4.2))) ∧
      DataW.trod enc P w base spare held n f0.type [c0] = some y0 ∧ DataW.trod enc P w base spare held n f1.type [c1] = some y1 ∧ DataW.trod enc P w base spare held n f2.type [c2] = some y2 ∧ DataW.trod enc P w base spare held n f3.type [c3] = some y3 ∧ DataW.trod enc P w base spare held n f4.type [c4] = some y4 := by
  obtain ⟨xs, n, hn, rfl, hl, hlen, hf⟩ := DataW.trod_struct hs h
  rw [hC] at hl
  obtain ⟨o0, k0⟩ := hone_of hone 0 f0 rfl
  obtain ⟨o1, k1⟩ := hone_of hone 1 f1 rfl
  obtain ⟨o2, k2⟩ := hone_of hone 2 f2 rfl
  obtain ⟨o3, k3⟩ := hone_of hone 3 f3 rfl
  obtain ⟨o4, k4⟩ := hone_of hone 4 f4 rfl
  match xs, hlen, cs, hl with
  | [y0, y1, y2, y3, y4], _, [c0, c1, c2, c3, c4], _ =>
    exact ⟨c0, c1, c2, c3, c4, y0, y1, y2, y3, y4, n, hn, rfl, by simp, by simpa [o0, k0] using hf 0 f0 rfl, by simpa [o1, k1] using hf 1 f1 rfl, by simpa [o2, k2] using hf 2 f2 rfl, by simpa [o3, k3] using hf 3 f3 rfl, by simpa [o4, k4] using hf 4 f4 rfl⟩

theorem choose_list {α : Type} {p : Nat → α → Prop} : ∀ (n : Nat), (∀ i, i < n → ∃ v, p i v) → ∃ l : List α, l.length = n ∧ ∀ i (h : i < l.length), p i l[i]
  | 0, _ => ⟨[], rfl, fun i h => by simp at h⟩
  | n + 1, h => by
    obtain ⟨l, h1, h2⟩ := choose_list n fun i hi => h i (by omega)
    obtain ⟨v, hv⟩ := h n (by omega)
    refine ⟨l ++ [v], by simp [h1], fun i hi => ?_⟩
    by_cases e : i < l.length
    · rw [List.getElem_append_left e]; exact h2 i e
    · have : i = n := by simp at hi; omega
      subst this
      rw [List.getElem_append_right (by omega)]
      simpa using hv

/-- Names: a row of texts that came in. -/
theorem open_names {t e : TypeId} {fuel : Nat} {c : Value} {x : DataW H × List MemPlace} (ht : P.underlying t = some (.slice e)) (he : P.underlying e = some .string) (hc : P.cellsOf e = 1) (h : DataW.trod enc P w base spare held fuel t [c] = some x) :
    ∃ (a : Option Addr) (cap : Nat) (l : List ByteArray), c = .slice a l.length cap ∧ l.length ≤ cap ∧ l.length ≤ maxLen ∧ (∀ s ∈ l, s.size ≤ maxLen) ∧ StrsAt w 0 w.heap.size a l := by
  rcases open_strings ht he hc h with ⟨h0, _⟩ | ⟨a, len, cap, ss, h0, _, hl, hm, hss, _, hcell, hsz⟩
  · simp at h0; subst h0
    exact ⟨none, 0, [], rfl, Nat.le_refl _, by simp, by simp, .inl rfl⟩
  · simp at h0; subst h0
    have hlen : len ≤ ss.length := by rw [hss]; split <;> omega
    have e1 : (ss.take len).length = len := by rw [List.length_take]; omega
    refine ⟨some a, cap, ss.take len, by rw [e1], by omega, by omega, fun s hs => hsz s (List.mem_of_mem_take hs), ?_⟩
    by_cases h0 : len = 0
    · subst h0; exact .inl rfl
    · have c0 := hcell 0 (by omega)
      rw [show a.add 0 = a by simp [Addr.add]] at c0
      have ea := addr_plain c0
      refine .inr ⟨a.block, a.off, by rw [← ea], Nat.zero_le _, World.block_lt_of_cell? w _ c0, fun i hi => ?_⟩
      have hi' : i < ss.length := by rw [e1] at hi; omega
      have := hcell i hi'
      rw [ea, add_off] at this
      rw [this]
      simp [List.getD_eq_getElem?_getD, List.getElem?_eq_getElem hi', List.getElem_take]
end

theorem cellsVal : Tryz.prog.cellsOf 44 = 5 := by kernel_rfl
theorem cellsStrV : Tryz.prog.cellsOf 9 = 1 := by kernel_rfl

/-- A value that came in, whatever it is. -/
theorem open_val {H : Type} {enc : TypeId × Value → H} {w : World} {spare : Nat → Bool} {held : Bool} : ∀ (fuel : Nat) (cs : List Value) (x : DataW H × List MemPlace),
    DataW.trod enc Tryz.prog w 0 spare held fuel 44 cs = some x → w.noneFrozen x.2 → ∃ v : JV, v.num ∧ v.fits ∧ Rep w 0 w.heap.size v (.agg cs.toArray) ∧ cs.length = 5 := by
  intro fuel
  induction fuel using Nat.strongRecOn with
  | _ fuel ih =>
  intro cs x h hz
  obtain ⟨c0, c1, c2, c3, c4, y0, y1, y2, y3, y4, n, rfl, rfl, hx, h0, h1, h2, h3, h4⟩ := trod_five Tryz.underlying44 (by kernel_rfl) cellsVal h
  obtain ⟨k, e0, _, w0⟩ := DataW.trod_int Tryz.underlying5 h0
  obtain ⟨m, e1, _, w1⟩ := DataW.trod_int Tryz.underlying2 h1
  obtain ⟨t, e2, _, w2⟩ := DataW.trod_string Tryz.underlying9 h2
  obtain ⟨an, cn, ns, e3, n1, n2, n3, n4⟩ := open_names Tryz.underlying41 Tryz.underlying9 cellsStrV h3
  simp only [List.cons.injEq, and_true] at e0 e1 e2
  subst e0 e1 e2 e3
  have hk : 0 ≤ k ∧ k ≤ 255 := by simp [Lit.wf, IntKind.min, IntKind.max, IntKind.signed, IntKind.bits] at w0; omega
  have hm : -9223372036854775808 ≤ m ∧ m ≤ 9223372036854775807 := by simp [Lit.wf, IntKind.min, IntKind.max, IntKind.signed, IntKind.bits] at w1; omega
  rcases DataW.trod_slice Tryz.underlying42 h4 with ⟨e4, _⟩ | ⟨a, len, cap, elems, rest, n', hn', e4, hy, _, hl, hcm, hlen, hel, _, _⟩
  · simp at e4; subst e4
    refine ⟨.mk k m t ns [], ?_, ?_, ?_, rfl⟩
    · unfold JV.num JV.nums; exact ⟨hk, hm, trivial⟩
    · unfold JV.fits JV.fitsL; exact ⟨w2, n2, by simp, n3, trivial⟩
    · unfold Rep; exact ⟨an, cn, none, 0, rfl, n1, Nat.le_refl _, n4, .inl rfl⟩
  · simp at e4; subst e4
    rw [cellsVal] at hel hy
    have hz4 : w.noneFrozen y4.2 := fun b off hp => hz b off (by rw [hx]; simp [hp])
    have hfz : ∀ j, j < len * 5 → w.frozen? ⟨a.block, a.off + j, none⟩ = false := fun j hj => hz4 _ _ (by
      rw [hy]
      refine List.mem_append.2 (.inl ?_)
      unfold MemPlace.row
      rw [List.mem_map]
      exact ⟨j, by rw [List.mem_range, hlen]; have : len * 5 ≤ (len + rest.length) * 5 := Nat.mul_le_mul_right _ (by omega); omega, rfl⟩)
    have each : ∀ i, i < len → ∃ u : JV, u.num ∧ u.fits ∧ ∃ d0 d1 d2 d3 d4, w.cell? (a.add (i * 5)) = some d0 ∧ w.cell? ((a.add (i * 5)).add 1) = some d1 ∧ w.cell? ((a.add (i * 5)).add 2) = some d2 ∧ w.cell? ((a.add (i * 5)).add 3) = some d3 ∧ w.cell? ((a.add (i * 5)).add 4) = some d4 ∧ Rep w 0 w.heap.size u (.agg #[d0, d1, d2, d3, d4]) := by
      intro i hi
      have := hel i hi
      rw [List.getElem?_eq_getElem (by omega)] at this
      obtain ⟨cs', g1, g2⟩ := Option.bind_eq_some_iff.1 this
      have hzi : w.noneFrozen (elems[i]'(by omega)).2 := fun b off hp => hz4 b off (by
        rw [hy]
        refine List.mem_append.2 (.inr ?_)
        rw [List.mem_flatMap]
        exact ⟨_, List.mem_append.2 (.inl (List.getElem_mem (by omega))), hp⟩)
      obtain ⟨u, u1, u2, u3, u4⟩ := ih n' (by omega) cs' _ g2 hzi
      obtain ⟨_, _, gc⟩ := World.cells?_some g1
      match cs', u4 with
      | [d0, d1, d2, d3, d4], _ =>
        have r0 := gc 0 (by omega); have r1 := gc 1 (by omega); have r2 := gc 2 (by omega); have r3 := gc 3 (by omega); have r4 := gc 4 (by omega)
        rw [show (a.add (i * 5)).add 0 = a.add (i * 5) by simp [Addr.add]] at r0
        exact ⟨u, u1, u2, d0, d1, d2, d3, d4, r0, r1, r2, r3, r4, u3⟩
    obtain ⟨xs, hxl, hxs⟩ := choose_list len each
    refine ⟨.mk k m t ns xs, ?_, ?_, ?_, rfl⟩
    · unfold JV.num; exact ⟨hk, hm, JV.nums_of xs fun i hi => (hxs i hi).1⟩
    · unfold JV.fits; exact ⟨w2, n2, by rw [hxl]; omega, n3, JV.fitsL_of xs fun i hi => (hxs i hi).2.1⟩
    · unfold Rep
      refine ⟨an, cn, some a, cap, by rw [hxl], n1, by rw [hxl]; exact hl, n4, ?_⟩
      by_cases h0 : len = 0
      · exact .inl (List.eq_nil_of_length_eq_zero (by omega))
      · obtain ⟨_, _, d0, _, _, _, _, q0, _⟩ := hxs 0 (by omega)
        rw [Nat.zero_mul, show a.add 0 = a by simp [Addr.add]] at q0
        have ea := addr_plain q0
        have hlt := World.block_lt_of_cell? w _ q0
        refine .inr ⟨a.block, a.off, by rw [← ea], Nat.zero_le _, hlt, ?_, RepL.of_at fun i hi => ?_⟩
        · rw [ea] at q0
          simp only [World.cell?] at q0
          split at q0
          · rename_i c ty fr hb
            exact ⟨c, ty, fr, hb, fun h => by omega⟩
          · cases q0
        · obtain ⟨_, _, d0, d1, d2, d3, d4, q0, q1, q2, q3, q4, q5⟩ := hxs i hi
          rw [ea, add_off] at q0 q1 q2 q3 q4
          rw [add_off] at q1 q2 q3 q4
          exact ⟨d0, d1, d2, d3, d4, q0, q1, q2, q3, q4, hfz _ (by omega), q5⟩

end Go.Proofs.YtaekmmnpdbmoeaaGreatDoor

namespace Go.Proofs.YtaekmmnpdbmoeaaGreatDoor
open Go.ChangeShapes Go.WideShapes Go.ChangeAt Go.RowKit Go.Joins Go.Deep

/-- A key: its scheme, its public part. -/
abbrev Key2 := ByteArray × ByteArray

def KeysAt (w : World) (lo hi : Nat) (a : Option Addr) (l : List Key2) : Prop :=
  l = [] ∨ ∃ b off, a = some ⟨b, off, none⟩ ∧ lo ≤ b ∧ b < hi ∧ ∀ i (h : i < l.length), w.cell? ⟨b, off + i * 2, none⟩ = some (.string l[i].1) ∧ w.cell? ⟨b, off + i * 2 + 1, none⟩ = some (.string l[i].2)
theorem KeysAt.at {w : World} {lo hi : Nat} {a : Option Addr} {l : List Key2} (h : KeysAt w lo hi a l) (i : Nat) (hi' : i < l.length) :
    ∃ b off, a = some ⟨b, off, none⟩ ∧ lo ≤ b ∧ b < hi ∧ w.cell? ⟨b, off + i * 2, none⟩ = some (.string l[i].1) ∧ w.cell? ⟨b, off + i * 2 + 1, none⟩ = some (.string l[i].2) := by
  rcases h with h | ⟨b, off, ha, hb, hb', hr⟩
  · rw [h] at hi'; simp at hi'
  · exact ⟨b, off, ha, hb, hb', hr i hi'⟩
theorem KeysAt.carry {w w' : World} {lo hi lo' hi' : Nat} {a : Option Addr} {l : List Key2} (h : KeysAt w lo hi a l) (h1 : lo' ≤ lo) (h2 : hi ≤ hi') (hs : ∀ b, lo ≤ b → b < hi → w'.heap[b]? = w.heap[b]?) : KeysAt w' lo' hi' a l := by
  rcases h with h | ⟨b, off, ha, hb, hb', hr⟩
  · exact .inl h
  · refine .inr ⟨b, off, ha, by omega, by omega, fun i hi => ?_⟩
    have e : ∀ o, w'.cell? ⟨b, o, none⟩ = w.cell? ⟨b, o, none⟩ := fun o => World.cell?_of_block (w := w) (w' := w') (hs b hb hb')
    rw [e, e]; exact hr i hi
theorem KeysAt.below {w w' : World} {lo hi lo' hi' B : Nat} {a : Option Addr} {l : List Key2} (h : KeysAt w lo hi a l) (hb : Below B w w') (hB : hi ≤ B) (h1 : lo' ≤ lo) (h2 : hi ≤ hi') : KeysAt w' lo' hi' a l :=
  h.carry h1 h2 fun b _ hlt => hb.block b (by omega)

theorem cellsKey2 : Tryz.prog.cellsOf 24 = 2 := by kernel_rfl

theorem trod_two {H : Type} {enc : TypeId × Value → H} {P : Program} {w : World} {base : Nat} {spare : Nat → Bool} {held : Bool} {t : TypeId} {f0 f1 : Field} {fuel : Nat} {cs : List Value} {x : DataW H × List MemPlace} (hs : P.underlying t = some (.struct #[f0, f1])) (hone : oneCellFields P #[f0, f1] = true) (hC : P.cellsOf t = 2)
    (h : DataW.trod enc P w base spare held fuel t cs = some x) :
    ∃ (c0 c1 : Value) (y0 y1 : DataW H × List MemPlace) (n : Nat), cs = [c0, c1] ∧ DataW.trod enc P w base spare held n f0.type [c0] = some y0 ∧ DataW.trod enc P w base spare held n f1.type [c1] = some y1 := by
  obtain ⟨xs, n, hn, rfl, hl, hlen, hf⟩ := DataW.trod_struct hs h
  rw [hC] at hl
  obtain ⟨o0, k0⟩ := hone_of hone 0 f0 rfl
  obtain ⟨o1, k1⟩ := hone_of hone 1 f1 rfl
  match xs, hlen, cs, hl with
  | [y0, y1], _, [c0, c1], _ => exact ⟨c0, c1, y0, y1, n, rfl, by simpa [o0, k0] using hf 0 f0 rfl, by simpa [o1, k1] using hf 1 f1 rfl⟩

/-- Keys that came in. -/
theorem open_keys {H : Type} {enc : TypeId × Value → H} {w : World} {spare : Nat → Bool} {held : Bool} {fuel : Nat} {c : Value} {x : DataW H × List MemPlace} (h : DataW.trod enc Tryz.prog w 0 spare held fuel 29 [c] = some x) :
    ∃ (a : Option Addr) (cap : Nat) (l : List Key2), c = .slice a l.length cap ∧ l.length ≤ cap ∧ l.length ≤ maxLen ∧ (∀ k ∈ l, k.1.size ≤ maxLen ∧ k.2.size ≤ maxLen) ∧ KeysAt w 0 w.heap.size a l := by
  rcases DataW.trod_slice Tryz.underlying29 h with ⟨e4, _⟩ | ⟨a, len, cap, elems, rest, n', hn', e4, hy, _, hl, hcm, hlen, hel, _, _⟩
  · simp at e4; subst e4
    exact ⟨none, 0, [], rfl, Nat.le_refl _, by simp, by simp, .inl rfl⟩
  · simp at e4; subst e4
    rw [cellsKey2] at hel
    have each : ∀ i, i < len → ∃ k : Key2, w.cell? (a.add (i * 2)) = some (.string k.1) ∧ w.cell? ((a.add (i * 2)).add 1) = some (.string k.2) ∧ k.1.size ≤ maxLen ∧ k.2.size ≤ maxLen := by
      intro i hi
      have := hel i hi
      rw [List.getElem?_eq_getElem (by omega)] at this
      obtain ⟨cs', g1, g2⟩ := Option.bind_eq_some_iff.1 this
      obtain ⟨_, gl, gc⟩ := World.cells?_some g1
      obtain ⟨d0, d1, y0, y1, m, rfl, r0, r1⟩ := trod_two Tryz.underlying24 (by kernel_rfl) cellsKey2 g2
      all_goals
        obtain ⟨s, es, _, ws⟩ := DataW.trod_string Tryz.underlying9 r0
        obtain ⟨t, et, _, wt⟩ := DataW.trod_string Tryz.underlying9 r1
        simp only [List.cons.injEq, and_true] at es et
        subst es et
        have q0 := gc 0 (by omega); have q1 := gc 1 (by omega)
        rw [show (a.add (i * 2)).add 0 = a.add (i * 2) by simp [Addr.add]] at q0
        exact ⟨(s, t), q0, q1, ws, wt⟩
    obtain ⟨l, hll, hls⟩ := choose_list len each
    refine ⟨some a, cap, l, by rw [hll], by omega, by omega, fun k hk => ?_, ?_⟩
    · obtain ⟨i, hi, rfl⟩ := List.getElem_of_mem hk
      exact (hls i hi).2.2
    · by_cases h0 : len = 0
      · exact .inl (List.eq_nil_of_length_eq_zero (by omega))
      · have q0 := (hls 0 (by omega)).1
        rw [Nat.zero_mul, show a.add 0 = a by simp [Addr.add]] at q0
        have ea := addr_plain q0
        refine .inr ⟨a.block, a.off, by rw [← ea], Nat.zero_le _, World.block_lt_of_cell? w _ q0, fun i hi => ?_⟩
        obtain ⟨q0, q1, _⟩ := hls i hi
        rw [ea, add_off] at q0 q1
        rw [add_off] at q1
        exact ⟨q0, q1⟩

end Go.Proofs.YtaekmmnpdbmoeaaGreatDoor

namespace Go.Proofs.YtaekmmnpdbmoeaaGreatDoor
open Go.ChangeShapes Go.WideShapes Go.ChangeAt Go.RowKit Go.Joins Go.Deep

/-- Rows of three texts each. -/
def TrisAt (w : World) (lo hi : Nat) (a : Option Addr) (l : List (ByteArray × ByteArray × ByteArray)) : Prop :=
  l = [] ∨ ∃ b off, a = some ⟨b, off, none⟩ ∧ lo ≤ b ∧ b < hi ∧ ∀ i (h : i < l.length), w.cell? ⟨b, off + i * 3, none⟩ = some (.string l[i].1) ∧ w.cell? ⟨b, off + i * 3 + 1, none⟩ = some (.string l[i].2.1) ∧ w.cell? ⟨b, off + i * 3 + 2, none⟩ = some (.string l[i].2.2)
theorem TrisAt.at {w : World} {lo hi : Nat} {a : Option Addr} {l : List (ByteArray × ByteArray × ByteArray)} (h : TrisAt w lo hi a l) (i : Nat) (hi' : i < l.length) :
    ∃ b off, a = some ⟨b, off, none⟩ ∧ lo ≤ b ∧ b < hi ∧ w.cell? ⟨b, off + i * 3, none⟩ = some (.string l[i].1) ∧ w.cell? ⟨b, off + i * 3 + 1, none⟩ = some (.string l[i].2.1) ∧ w.cell? ⟨b, off + i * 3 + 2, none⟩ = some (.string l[i].2.2) := by
  rcases h with h | ⟨b, off, ha, hb, hb', hr⟩
  · rw [h] at hi'; simp at hi'
  · exact ⟨b, off, ha, hb, hb', hr i hi'⟩
theorem TrisAt.carry {w w' : World} {lo hi lo' hi' : Nat} {a : Option Addr} {l : List (ByteArray × ByteArray × ByteArray)} (h : TrisAt w lo hi a l) (h1 : lo' ≤ lo) (h2 : hi ≤ hi') (hs : ∀ b, lo ≤ b → b < hi → w'.heap[b]? = w.heap[b]?) : TrisAt w' lo' hi' a l := by
  rcases h with h | ⟨b, off, ha, hb, hb', hr⟩
  · exact .inl h
  · refine .inr ⟨b, off, ha, by omega, by omega, fun i hi => ?_⟩
    have e : ∀ o, w'.cell? ⟨b, o, none⟩ = w.cell? ⟨b, o, none⟩ := fun o => World.cell?_of_block (w := w) (w' := w') (hs b hb hb')
    rw [e, e, e]; exact hr i hi
theorem TrisAt.below {w w' : World} {lo hi lo' hi' B : Nat} {a : Option Addr} {l : List (ByteArray × ByteArray × ByteArray)} (h : TrisAt w lo hi a l) (hb : Below B w w') (hB : hi ≤ B) (h1 : lo' ≤ lo) (h2 : hi ≤ hi') : TrisAt w' lo' hi' a l :=
  h.carry h1 h2 fun b _ hlt => hb.block b (by omega)

section
variable {H : Type} {enc : TypeId × Value → H} {P : Program} {w : World} {spare : Nat → Bool} {held : Bool}
theorem trod_three {base : Nat} {t : TypeId} {f0 f1 f2 : Field} {fuel : Nat} {cs : List Value} {x : DataW H × List MemPlace} (hs : P.underlying t = some (.struct #[f0, f1, f2])) (hone : oneCellFields P #[f0, f1, f2] = true) (hC : P.cellsOf t = 3)
    (h : DataW.trod enc P w base spare held fuel t cs = some x) :
    ∃ (c0 c1 c2 : Value) (y0 y1 y2 : DataW H × List MemPlace) (n : Nat), cs = [c0, c1, c2] ∧ DataW.trod enc P w base spare held n f0.type [c0] = some y0 ∧ DataW.trod enc P w base spare held n f1.type [c1] = some y1 ∧ DataW.trod enc P w base spare held n f2.type [c2] = some y2 := by
  obtain ⟨xs, n, hn, rfl, hl, hlen, hf⟩ := DataW.trod_struct hs h
  rw [hC] at hl
  obtain ⟨o0, k0⟩ := hone_of hone 0 f0 rfl
  obtain ⟨o1, k1⟩ := hone_of hone 1 f1 rfl
  obtain ⟨o2, k2⟩ := hone_of hone 2 f2 rfl
  match xs, hlen, cs, hl with
  | [y0, y1, y2], _, [c0, c1, c2], _ => exact ⟨c0, c1, c2, y0, y1, y2, n, rfl, by simpa [o0, k0] using hf 0 f0 rfl, by simpa [o1, k1] using hf 1 f1 rfl, by simpa [o2, k2] using hf 2 f2 rfl⟩

/-- Pairs of texts that came in. -/
theorem open_pairs {t e : TypeId} {f0 f1 : Field} {fuel : Nat} {c : Value} {x : DataW H × List MemPlace} (ht : P.underlying t = some (.slice e)) (hs : P.underlying e = some (.struct #[f0, f1])) (hone : oneCellFields P #[f0, f1] = true) (hC : P.cellsOf e = 2)
    (u0 : P.underlying f0.type = some .string) (u1 : P.underlying f1.type = some .string) (h : DataW.trod enc P w 0 spare held fuel t [c] = some x) :
    ∃ (a : Option Addr) (cap : Nat) (l : List Key2), c = .slice a l.length cap ∧ l.length ≤ cap ∧ l.length ≤ maxLen ∧ (∀ k ∈ l, k.1.size ≤ maxLen ∧ k.2.size ≤ maxLen) ∧ KeysAt w 0 w.heap.size a l := by
  rcases DataW.trod_slice ht h with ⟨e4, _⟩ | ⟨a, len, cap, elems, rest, n', hn', e4, hy, _, hl, hcm, hlen, hel, _, _⟩
  · simp at e4; subst e4
    exact ⟨none, 0, [], rfl, Nat.le_refl _, by simp, by simp, .inl rfl⟩
  · simp at e4; subst e4
    rw [hC] at hel
    have each : ∀ i, i < len → ∃ k : Key2, w.cell? (a.add (i * 2)) = some (.string k.1) ∧ w.cell? ((a.add (i * 2)).add 1) = some (.string k.2) ∧ k.1.size ≤ maxLen ∧ k.2.size ≤ maxLen := by
      intro i hi
      have := hel i hi
      rw [List.getElem?_eq_getElem (by omega)] at this
      obtain ⟨cs', g1, g2⟩ := Option.bind_eq_some_iff.1 this
      obtain ⟨_, gl, gc⟩ := World.cells?_some g1
      obtain ⟨d0, d1, y0, y1, m, rfl, r0, r1⟩ := trod_two hs hone hC g2
      obtain ⟨s, es, _, ws⟩ := DataW.trod_string u0 r0
      obtain ⟨t, et, _, wt⟩ := DataW.trod_string u1 r1
      simp only [List.cons.injEq, and_true] at es et
      subst es et
      have q0 := gc 0 (by omega); have q1 := gc 1 (by omega)
      rw [show (a.add (i * 2)).add 0 = a.add (i * 2) by simp [Addr.add]] at q0
      exact ⟨(s, t), q0, q1, ws, wt⟩
    obtain ⟨l, hll, hls⟩ := choose_list len each
    refine ⟨some a, cap, l, by rw [hll], by omega, by omega, fun k hk => ?_, ?_⟩
    · obtain ⟨i, hi, rfl⟩ := List.getElem_of_mem hk
      exact (hls i hi).2.2
    · by_cases h0 : len = 0
      · exact .inl (List.eq_nil_of_length_eq_zero (by omega))
      · have q0 := (hls 0 (by omega)).1
        rw [Nat.zero_mul, show a.add 0 = a by simp [Addr.add]] at q0
        have ea := addr_plain q0
        refine .inr ⟨a.block, a.off, by rw [← ea], Nat.zero_le _, World.block_lt_of_cell? w _ q0, fun i hi => ?_⟩
        obtain ⟨q0, q1, _⟩ := hls i hi
        rw [ea, add_off] at q0 q1
        rw [add_off] at q1
        exact ⟨q0, q1⟩
/-- Triples of texts that came in. -/
theorem open_tris {t e : TypeId} {f0 f1 f2 : Field} {fuel : Nat} {c : Value} {x : DataW H × List MemPlace} (ht : P.underlying t = some (.slice e)) (hs : P.underlying e = some (.struct #[f0, f1, f2])) (hone : oneCellFields P #[f0, f1, f2] = true) (hC : P.cellsOf e = 3)
    (u0 : P.underlying f0.type = some .string) (u1 : P.underlying f1.type = some .string) (u2 : P.underlying f2.type = some .string) (h : DataW.trod enc P w 0 spare held fuel t [c] = some x) :
    ∃ (a : Option Addr) (cap : Nat) (l : List (ByteArray × ByteArray × ByteArray)), c = .slice a l.length cap ∧ l.length ≤ cap ∧ l.length ≤ maxLen ∧ TrisAt w 0 w.heap.size a l := by
  rcases DataW.trod_slice ht h with ⟨e4, _⟩ | ⟨a, len, cap, elems, rest, n', hn', e4, hy, _, hl, hcm, hlen, hel, _, _⟩
  · simp at e4; subst e4
    exact ⟨none, 0, [], rfl, Nat.le_refl _, by simp, .inl rfl⟩
  · simp at e4; subst e4
    rw [hC] at hel
    have each : ∀ i, i < len → ∃ k : ByteArray × ByteArray × ByteArray, w.cell? (a.add (i * 3)) = some (.string k.1) ∧ w.cell? ((a.add (i * 3)).add 1) = some (.string k.2.1) ∧ w.cell? ((a.add (i * 3)).add 2) = some (.string k.2.2) := by
      intro i hi
      have := hel i hi
      rw [List.getElem?_eq_getElem (by omega)] at this
      obtain ⟨cs', g1, g2⟩ := Option.bind_eq_some_iff.1 this
      obtain ⟨_, gl, gc⟩ := World.cells?_some g1
      obtain ⟨d0, d1, d2, y0, y1, y2, m, rfl, r0, r1, r2⟩ := trod_three hs hone hC g2
      obtain ⟨s, es, _, _⟩ := DataW.trod_string u0 r0
      obtain ⟨t, et, _, _⟩ := DataW.trod_string u1 r1
      obtain ⟨u, eu, _, _⟩ := DataW.trod_string u2 r2
      simp only [List.cons.injEq, and_true] at es et eu
      subst es et eu
      have q0 := gc 0 (by omega); have q1 := gc 1 (by omega); have q2 := gc 2 (by omega)
      rw [show (a.add (i * 3)).add 0 = a.add (i * 3) by simp [Addr.add]] at q0
      exact ⟨(s, t, u), q0, q1, q2⟩
    obtain ⟨l, hll, hls⟩ := choose_list len each
    refine ⟨some a, cap, l, by rw [hll], by omega, by omega, ?_⟩
    by_cases h0 : len = 0
    · exact .inl (List.eq_nil_of_length_eq_zero (by omega))
    · have q0 := (hls 0 (by omega)).1
      rw [Nat.zero_mul, show a.add 0 = a by simp [Addr.add]] at q0
      have ea := addr_plain q0
      refine .inr ⟨a.block, a.off, by rw [← ea], Nat.zero_le _, World.block_lt_of_cell? w _ q0, fun i hi => ?_⟩
      obtain ⟨q0, q1, q2⟩ := hls i hi
      rw [ea, add_off] at q0 q1 q2
      rw [add_off] at q1 q2
      exact ⟨q0, q1, q2⟩
end

end Go.Proofs.YtaekmmnpdbmoeaaGreatDoor

namespace Go.Proofs.YtaekmmnpdbmoeaaGreatDoor
open Go

section
variable {P : Program} {ops : Array Oper} {md : Region.Mode} {Q : Exit → Act → World → Prop}

/-- Every operation of the head waits for earlier ones alone. -/
def downB (md : Region.Mode) (ops : Array Oper) (n : Nat) : Bool :=
  (List.range n).all fun i => match ops[i]? with
    | some o => o.after.all fun e => !(Region.binds md e) || decide (e.on < i)
    | none => false

/-- What the operation i waits for is done. -/
def waited (md : Region.Mode) (ops : Array Oper) (d : Nat → Prop) (i : Nat) : Prop :=
  ∀ o, ops[i]? = some o → ∀ e ∈ o.after, Region.binds md e = true → d e.on

def doneOf (listed : Array Bool) : Nat → Prop := fun i => listed.getD i false = true

theorem doneOf_set {listed : Array Bool} {i : Nat} (hi : i < listed.size) : doneOf (listed.setIfInBounds i true) = fun j => j = i ∨ doneOf listed j := by
  funext j
  apply propext
  unfold doneOf
  by_cases h : i = j
  · subst h
    simp [hi]
  · rw [getD_set_ne false h]
    constructor
    · exact .inr
    · rintro (e | e)
      · exact absurd e.symm h
      · exact e

theorem ready_some {n : Nat} {listed : Array Bool} (hd : downB md ops n = true) (inv : HeadInv md ops n listed) (hn : n < ops.size) :
    ∀ i, i < n → listed.getD i false = false → Region.ready md ops listed ≠ [] := by
  intro i
  induction i using Nat.strongRecOn with
  | _ i ih =>
    intro hi hun h0
    have h1 := List.all_eq_true.1 hd i (List.mem_range.2 hi)
    cases ho : ops[i]? with
    | none => rw [ho] at h1; cases h1
    | some o =>
      rw [ho] at h1
      by_cases hall : ∀ e ∈ o.after, Region.binds md e = true → listed.getD e.on false = true
      · have : i ∈ Region.ready md ops listed := mem_ready.2 ⟨getD_in (by rw [inv.size]; omega) hun, o, ho, hall⟩
        rw [h0] at this
        cases this
      · have : ∃ e, e ∈ o.after ∧ Region.binds md e = true ∧ listed.getD e.on false = false := by
          apply Classical.byContradiction
          intro hne
          apply hall
          intro e he hb
          cases hl : listed.getD e.on false with
          | true => rfl
          | false => exact absurd ⟨e, he, hb, hl⟩ hne
        obtain ⟨e, he, hb, hl⟩ := this
        have h2 := Array.all_eq_true'.1 h1 e he
        simp only [hb, Bool.not_true, Bool.false_or, decide_eq_true_eq] at h2
        exact ih e.on h2 (by omega) hl h0

def openOf (n : Nat) (listed : Array Bool) : Nat := ((List.range n).filter fun i => !(listed.getD i false)).length

theorem filter_set_len (listed : Array Bool) (i : Nat) (hl : listed.getD i false = false) (hs : i < listed.size) : ∀ n, 
    ((List.range n).filter fun j => !((listed.setIfInBounds i true).getD j false)).length + (if i < n then 1 else 0) = ((List.range n).filter fun j => !(listed.getD j false)).length := by
  intro n
  induction n with
  | zero => simp
  | succ n ih =>
    rw [List.range_succ, List.filter_append, List.filter_append, List.length_append, List.length_append, ← ih]
    by_cases h : i = n
    · subst h
      have e1 : (listed.setIfInBounds i true).getD i false = true := by simp [hs]
      simp only [List.filter_cons, List.filter_nil, e1, hl]
      simp
    · have e : (if i < n + 1 then 1 else 0) = (if i < n then 1 else 0) := by
        by_cases h2 : i < n
        · rw [if_pos h2, if_pos (Nat.lt_succ_of_lt h2)]
        · rw [if_neg h2, if_neg (fun h3 => h2 (by omega))]
      rw [e]
      simp only [List.filter_cons, List.filter_nil]
      rw [getD_set_ne false h]
      omega

theorem openOf_set {n i : Nat} {listed : Array Bool} (hi : i < n) (hs : i < listed.size) (hl : listed.getD i false = false) : openOf n (listed.setIfInBounds i true) + 1 = openOf n listed := by
  have := filter_set_len listed i hl hs n
  rw [if_pos hi] at this
  exact this

theorem openOf_zero {n : Nat} {listed : Array Bool} (h : openOf n listed = 0) : ∀ i, i < n → listed.getD i false = true := by
  intro i hi
  unfold openOf at h
  rw [List.length_eq_zero_iff, List.filter_eq_nil_iff] at h
  have := h i (List.mem_range.2 hi)
  simpa using this

theorem openOf_pos {n : Nat} {listed : Array Bool} (h : 0 < openOf n listed) : ∃ i, i < n ∧ listed.getD i false = false := by
  unfold openOf at h
  obtain ⟨i, hi⟩ := List.exists_mem_of_length_pos h
  rw [List.mem_filter] at hi
  exact ⟨i, List.mem_range.1 hi.1, by simpa using hi.2⟩

/-- A statement that holds through the head's drawn order. -/
theorem wpAny_inv {n g : Nat} (I : (Nat → Prop) → Act → World → Prop)
    (hs : Region.sinkB md ops n = true) (hc : Region.chainB md ops n = true) (hn : n < ops.size) (hd : downB md ops n = true)
    (step : ∀ d a w, I d a w → ∀ i, i < n → ¬ d i → waited md ops d i → wpOp P ops Q i (I (fun j => j = i ∨ d j)) a w)
    (last : ∀ listed a w, HeadInv md ops n listed → (∀ i, i < n → listed.getD i false = true) → I (doneOf listed) a w → wpAny P md ops Q g listed a w) :
    ∀ (f : Nat) (listed : Array Bool) (a : Act) (w : World), HeadInv md ops n listed → openOf n listed = f → I (doneOf listed) a w → wpAny P md ops Q (f + g) listed a w
  | 0, listed, a, w, inv, h0, h => by rw [Nat.zero_add]; exact last listed a w inv (openOf_zero h0) h
  | f + 1, listed, a, w, inv, h0, h => by
    rw [show f + 1 + g = (f + g) + 1 by omega]
    obtain ⟨i, hi, hl⟩ := openOf_pos (n := n) (listed := listed) (by omega)
    refine ⟨fun h1 => absurd h1 (ready_some hd inv hn i hi hl), fun j hj => ?_⟩
    have hjn : j < n := by
      rcases Nat.lt_or_ge j n with h | h
      · exact h
      · exact absurd hj (tail_waits hs hc hn inv _ i rfl hi (getD_in (by rw [inv.size]; omega) hl) j h)
    obtain ⟨hun, oj, hoj, hall⟩ := mem_ready.1 hj
    have hjs : j < listed.size := by rw [inv.size]; omega
    have hun' := getD_both hun
    refine wpOp_mono (fun a' w' h' => wpAny_inv I hs hc hn hd step last f _ a' w' (inv.set hj hjn) ?_ ?_) (step (doneOf listed) a w h j hjn ?_ ?_)
    · have := openOf_set hjn hjs hun'; omega
    · rw [doneOf_set hjs]; exact h'
    · unfold doneOf; rw [hun']; simp
    · intro o ho e he hb
      have : o = oj := Option.some.inj (ho.symm.trans hoj)
      subst this
      exact hall e he hb

/-- Everything of the head is listed and nothing of the tail. -/
def headFull (n m : Nat) : Array Bool := ((List.range m).map fun i => decide (i < n)).toArray

theorem headFull_of {n : Nat} {listed : Array Bool} (inv : HeadInv md ops n listed) (h : ∀ i, i < n → listed.getD i false = true) : listed = headFull n ops.size := by
  apply Array.ext
  · simp [headFull, inv.size]
  · intro i h1 h2
    by_cases hi : i < n
    · have := h i hi
      simp [headFull, hi]
      simpa [h1] using this
    · have := getD_both (inv.tail i (by omega) (by rw [← inv.size]; exact h1))
      simp [headFull, hi]
      simpa [h1] using this

/-- A region whose head's operations run in a drawn order and whose tail is a chain. -/
theorem wp_region_inv {id : Nat} {a : Act} {w : World} {l : List Oper} (n : Nat) (I : (Nat → Prop) → Act → World → Prop) (hm : P.follows .mixedOrders = true)
    (hB : (decide (n < l.length) && Region.sinkB .any l.toArray n && Region.chainB .any l.toArray n && downB .any l.toArray n && Region.seqB .any l.toArray (l.length - n) n (headFull n l.length)) = true)
    (first : I (fun _ => False) a { w with drawn := w.drawn + 1 })
    (step : ∀ d a w, I d a w → ∀ i, i < n → ¬ d i → waited .any l.toArray d i → wpOp P l.toArray Q i (I (fun j => j = i ∨ d j)) a w)
    (last : ∀ d a w, (∀ i, i < n → d i) → I d a w → wpList P l.toArray Q (l.drop n) a w) : (Code.region id l.toArray true).wp P Q a w := by
  simp only [Bool.and_eq_true, decide_eq_true_eq] at hB
  obtain ⟨⟨⟨⟨hn, hs⟩, hc⟩, hd⟩, hq⟩ := hB
  refine wp_region_any hm ?_
  have inv0 : HeadInv .any l.toArray n (Array.replicate l.toArray.size false) :=
    ⟨by simp, fun j oj _ hl => (by rw [getD_replicate_false] at hl; cases hl), fun t _ ht => getD_in (by simpa using ht) (getD_replicate_false _ _)⟩
  have h0 : doneOf (Array.replicate l.toArray.size false) = fun _ => False := by
    funext i; unfold doneOf; rw [getD_replicate_false]; simp
  have hz : openOf n (Array.replicate l.toArray.size false) = n := by
    unfold openOf
    rw [List.filter_eq_self.2 (fun i _ => by rw [getD_replicate_false]; rfl), List.length_range]
  have hdl : (l.drop n).length = l.length - n := by simp
  have := wpAny_inv (P := P) (Q := Q) (g := l.length - n) I hs hc (by simpa using hn) hd step (fun listed a' w' inv hall hI => by
    have hf := headFull_of inv hall
    have hr := last (doneOf listed) a' w' hall hI
    have := wpAny_of_seq (md := .any) (Q' := Q) (l.drop n) n listed a' w' (fun j => by simp [List.getElem?_drop]) (by rw [hdl, hf]; simpa using hq) hr
    rwa [hdl] at this) n _ a { w with drawn := w.drawn + 1 } inv0 hz (by rw [h0]; exact first)
  rw [show n + (l.length - n) = l.toArray.size by simp; omega] at this
  exact this
end
end Go.Proofs.YtaekmmnpdbmoeaaGreatDoor

namespace Go.Proofs.YtaekmmnpdbmoeaaGreatDoor
open Go.RowKit

theorem addr_add0 (b off : Nat) (j : Nat) : (⟨b, off, none⟩ : Addr).add j = ⟨b, off + j, none⟩ := by unfold Addr.add; split <;> simp_all
/-- The first i, and what is behind them. -/
theorem keys_first {w : World} {lo hi : Nat} {a : Option Addr} {l : List Key2} (h : KeysAt w lo hi a l) (i : Nat) : KeysAt w lo hi a (l.take i) := by
  rcases h with h | ⟨b, off, rfl, hb, hb', hr⟩
  · subst h; exact .inl (by simp)
  · refine .inr ⟨b, off, rfl, hb, hb', fun j hj => ?_⟩
    rw [List.length_take] at hj
    rw [List.getElem_take]
    exact hr j (by omega)
theorem keys_behind {w : World} {lo hi : Nat} {a : Option Addr} {l : List Key2} (h : KeysAt w lo hi a l) (i c : Nat) (hc : l.length ≤ c) (hl : i ≤ l.length) :
    ∃ a' c', sliced a i l.length c 2 = .slice a' (l.length - i) c' ∧ KeysAt w lo hi a' (l.drop i) := by
  refine ⟨if c = i then a else a.map (·.add (i * 2)), c - i, by simp [sliced], ?_⟩
  by_cases h0 : i = l.length
  · subst h0; exact .inl (by simp)
  · rcases h with h | ⟨b, off, rfl, hb, hb', hr⟩
    · subst h; simp at hl; simp at h0; omega
    · refine .inr ⟨b, off + i * 2, ?_, hb, hb', fun j hj => ?_⟩
      · rw [if_neg (by omega)]
        simp [addr_add0]
      · rw [List.length_drop] at hj
        rw [List.getElem_drop]
        have := hr (i + j) (by omega)
        rw [show off + (i + j) * 2 = off + i * 2 + j * 2 by omega] at this
        exact this

end Go.Proofs.YtaekmmnpdbmoeaaGreatDoor
