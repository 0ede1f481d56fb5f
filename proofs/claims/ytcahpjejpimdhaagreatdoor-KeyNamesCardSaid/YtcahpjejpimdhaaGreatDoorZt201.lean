/- An argument of type api.Value, opened: what it reads as is a JSON value (JV), and how it lies. Keys in a row: how they lie; an argument of type []api.Key, opened. A region whose operations the model runs in a drawn order: an invariant over what is done (own law). Cells of the call's own that may be written over. No program in sight. The zero value. Two pointers held against each other, whatever marks their blocks bear: some answer, and nothing is changed. Plain: what legateref04.begins tells of bytes, and that it is UTF-8's rule. No program in sight. Names and items of a value of the call's own that are written over, one by one. No program in sight. -/
import Derived.Test.YtcahpjejpimdhaaGreatDoorZt200
import Derived.Test.YtcahpjejpimdhaaGreatDoorProg
import Derived.WalkKit
import Derived.ProofKit
import Derived.OpenShut
import Derived.ChangeSame
import Derived.SliceStrings
import Derived.Deep.Slices
import Derived.Lib.SmallJoins
import Derived.Carry
import Derived.Lib.Hide
import Derived.StillTail
import Derived.RegionTactic
import Derived.KernelRfl
import Derived.Deep.Draws
import GoSem.Core.Utf8

namespace Go.Proofs.YtcahpjejpimdhaaGreatDoor
open Go.ChangeShapes Go.WideShapes Go.ChangeAt Go.RowKit Go.Joins Go.Deep

mutual
/-- Texts and rows are no longer than any can be. -/
def JV.fits : JV → Prop
  | .mk _ _ t ns xs => t.size ≤ maxLen ∧ ns.length ≤ maxLen ∧ xs.length ≤ maxLen ∧ (∀ s ∈ ns, s.size ≤ maxLen) ∧ JV.fitsL xs
def JV.fitsL : List JV → Prop
  | [] => True
  | x :: r => JV.fits x ∧ JV.fitsL r
end
theorem JV.fits_parts {v : JV} (h : v.fits) : v.t.size ≤ maxLen ∧ v.names.length ≤ maxLen ∧ v.items.length ≤ maxLen ∧ (∀ s ∈ v.names, s.size ≤ maxLen) ∧ JV.fitsL v.items := by
  cases v; unfold JV.fits at h; exact h
theorem JV.fitsL_get : ∀ (l : List JV) (i : Nat) (h : i < l.length), JV.fitsL l → JV.fits l[i]
  | s :: r, 0, _, h => by unfold JV.fitsL at h; exact h.1
  | s :: r, i + 1, hi, h => by unfold JV.fitsL at h; exact JV.fitsL_get r i (by simpa using hi) h.2
theorem JV.fitsL_of : ∀ (l : List JV), (∀ i (h : i < l.length), l[i].fits) → JV.fitsL l
  | [], _ => by unfold JV.fitsL; trivial
  | s :: r, h => by
    unfold JV.fitsL
    exact ⟨h 0 (by simp), JV.fitsL_of r fun i hi => by have := h (i + 1) (by simpa using hi); simpa using this⟩
theorem JV.nums_of : ∀ (l : List JV), (∀ i (h : i < l.length), l[i].num) → JV.nums l
  | [], _ => by unfold JV.nums; trivial
  | s :: r, h => by
    unfold JV.nums
    exact ⟨h 0 (by simp), JV.nums_of r fun i hi => by have := h (i + 1) (by simpa using hi); simpa using this⟩

theorem addr_plain {w : World} {a : Addr} {v : Value} (h : w.cell? a = some v) : a = ⟨a.block, a.off, none⟩ := by
  obtain ⟨b, o, sp⟩ := a
  cases sp with
  | none => rfl
  | some s => simp [World.cell?] at h; split at h <;> simp at h

theorem add_off (b o k : Nat) : (⟨b, o, none⟩ : Addr).add k = ⟨b, o + k, none⟩ := by
  unfold Addr.add; split <;> simp_all

section
variable {H : Type} {enc : TypeId × Value → H} {P : Program} {w : World} {base : Nat} {spare : Nat → Bool} {held : Bool}
theorem trod_five {t : TypeId} {f0 f1 f2 f3 f4 : Field} {fuel : Nat} {cs : List Value} {x : DataW H × List MemPlace} (hs : P.underlying t = some (.struct #[f0, f1, f2, f3, f4])) (hone : oneCellFields P #[f0, f1, f2, f3, f4] = true) (hC : P.cellsOf t = 5)
    (h : DataW.trod enc P w base spare held fuel t cs = some x) :
    ∃ (c0 c1 c2 c3 c4 : Value) (y0 y1 y2 y3 y4 : DataW H × List MemPlace) (n : Nat), fuel = n + 1 ∧ cs = [c0, c1, c2, c3, c4] ∧ x.2 = y0.2 ++ (y1.2 ++ (y2.2 ++ (y3.2 ++ y4.2))) ∧
      DataW.trod enc P w base spare held n f0.type [c0] = some y0 ∧ DataW.trod enc P w base spare held n f1.type [c1] = some y1 ∧ DataW.trod enc P w base spare held n f2.type [c2] = some y2 ∧ DataW.trod enc P w base spare held n f3.type [c3] = some y3 ∧ DataW.trod enc P w base spare held n f4.type [c4] = some y4 := by
  obtain ⟨xs, n, hn, rfl, hl, hlen, hf⟩ := DataW.trod_struct hs h
  rw [hC] at hl
  obtain ⟨o0, k0⟩ := hone_of hone 0 f0 rfl
  obtain ⟨o1, k1⟩ := hone_of hone 1 f1 rfl
  obtain ⟨o2, k2⟩ := hone_of hone 2 f2 rfl
  obtain ⟨o3, k3⟩ := hone_of hone 3 f3 rfl
  obtain ⟨o4, k4⟩ := hone_of hone 4 f4 rfl
  match xs, hlen, cs, hl with
  | [y0, y1, y2, y3, y4], _, [c0, c1, c2, c3, c4], _ =>
    exact ⟨c0, c1, c2, c3, c4, y0, y1, y2, y3, y4, n, hn, rfl, by simp, by simpa [o0, k0] using hf 0 f0 rfl, by simpa [o1, k1] using hf 1 f1 rfl, by simpa [o2, k2] using hf 2 f2 rfl, by simpa [o3, k3] using hf 3 f3 rfl, by simpa [o4, k4] using hf 4 f4 rfl⟩

theorem choose_list {α : Type} {p : Nat → α → Prop} : ∀ (n : Nat), (∀ i, i < n → ∃ v, p i v) → ∃ l : List α, l.length = n ∧ ∀ i (h : i < l.length), p i l[i]
  | 0, _ => ⟨[], rfl, fun i h => by simp at h⟩
  | n + 1, h => by
    obtain ⟨l, h1, h2⟩ := choose_list n fun i hi => h i (by omega)
    obtain ⟨v, hv⟩ := h n (by omega)
    refine ⟨l ++ [v], by simp [h1], fun i hi => ?_⟩
    by_cases e : i < l.length
    · rw [List.getElem_append_left e]; exact h2 i e
    · have : i = n := by simp at hi; omega
      subst this
      rw [List.getElem_append_right (by omega)]
      simpa using hv

/-- Names: a row of texts that came in. -/
theorem open_names {t e : TypeId} {fuel : Nat} {c : Value} {x : DataW H × List MemPlace} (ht : P.underlying t = some (.slice e)) (he : P.underlying e = some .string) (hc : P.cellsOf e = 1) (h : DataW.trod enc P w base spare held fuel t [c] = some x) :
    ∃ (a : Option Addr) (cap : Nat) (l : List ByteArray), c = .slice a l.length cap ∧ l.length ≤ cap ∧ l.length ≤ maxLen ∧ (∀ s ∈ l, s.size ≤ maxLen) ∧ StrsAt w 0 w.heap.size a l := by
  rcases open_strings ht he hc h with ⟨h0, _⟩ | ⟨a, len, cap, ss, h0, _, hl, hm, hss, _, hcell, hsz⟩
  · simp at h0; subst h0
    exact ⟨none, 0, [], rfl, Nat.le_refl _, by simp, by simp, .inl rfl⟩
  · simp at h0; subst h0
    have hlen : len ≤ ss.length := by rw [hss]; split <;> omega
    have e1 : (ss.take len).length = len := by rw [List.length_take]; omega
    refine ⟨some a, cap, ss.take len, by rw [e1], by omega, by omega, fun s hs => hsz s (List.mem_of_mem_take hs), ?_⟩
    by_cases h0 : len = 0
    · subst h0; exact .inl rfl
    · have c0 := hcell 0 (by omega)
      rw [show a.add 0 = a by simp [Addr.add]] at c0
      have ea := addr_plain c0
      refine .inr ⟨a.block, a.off, by rw [← ea], Nat.zero_le _, World.block_lt_of_cell? w _ c0, fun i hi => ?_⟩
      have hi' : i < ss.length := by rw [e1] at hi; omega
      have := hcell i hi'
      rw [ea, add_off] at this
      rw [this]
      simp [List.getD_eq_getElem?_getD, List.getElem?_eq_getElem hi', List.getElem_take]
end

theorem cellsVal : Tryz.prog.cellsOf 29 = 5 := by kernel_rfl
theorem cellsStrV : Tryz.prog.cellsOf 9 = 1 := by kernel_rfl

/-- A value that came in, whatever it is. -/
theorem open_val {H : Type} {enc : TypeId × Value → H} {w : World} {spare : Nat → Bool} {held : Bool} : ∀ (fuel : Nat) (cs : List Value) (x : DataW H × List MemPlace),
    DataW.trod enc Tryz.prog w 0 spare held fuel 29 cs = some x → w.noneFrozen x.2 → ∃ v : JV, v.num ∧ v.fits ∧ Rep w 0 w.heap.size v (.agg cs.toArray) ∧ cs.length = 5 := by
  intro fuel
  induction fuel using Nat.strongRecOn with
  | _ fuel ih =>
  intro cs x h hz
  obtain ⟨c0, c1, c2, c3, c4, y0, y1, y2, y3, y4, n, rfl, rfl, hx, h0, h1, h2, h3, h4⟩ := trod_five Tryz.underlying29 (by kernel_rfl) cellsVal h
  obtain ⟨k, e0, _, w0⟩ := DataW.trod_int Tryz.underlying5 h0
  obtain ⟨m, e1, _, w1⟩ := DataW.trod_int Tryz.underlying2 h1
  obtain ⟨t, e2, _, w2⟩ := DataW.trod_string Tryz.underlying9 h2
  obtain ⟨an, cn, ns, e3, n1, n2, n3, n4⟩ := open_names Tryz.underlying26 Tryz.underlying9 cellsStrV h3
  simp only [List.cons.injEq, and_true] at e0 e1 e2
  subst e0 e1 e2 e3
  have hk : 0 ≤ k ∧ k ≤ 255 := by simp [Lit.wf, IntKind.min, IntKind.max, IntKind.signed, IntKind.bits] at w0; omega
  have hm : -9223372036854775808 ≤ m ∧ m ≤ 9223372036854775807 := by simp [Lit.wf, IntKind.min, IntKind.max, IntKind.signed, IntKind.bits] at w1; omega
  rcases DataW.trod_slice Tryz.underlying27 h4 with ⟨e4, _⟩ | ⟨a, len, cap, elems, rest, n', hn', e4, hy, _, hl, hcm, hlen, hel, _, _⟩
  · simp at e4; subst e4
    refine ⟨.mk k m t ns [], ?_, ?_, ?_, rfl⟩
    · unfold JV.num JV.nums; exact ⟨hk, hm, trivial⟩
    · unfold JV.fits JV.fitsL; exact ⟨w2, n2, by simp, n3, trivial⟩
    · unfold Rep; exact ⟨an, cn, none, 0, rfl, n1, Nat.le_refl _, n4, .inl rfl⟩
  · simp at e4; subst e4
    rw [cellsVal] at hel hy
    have hz4 : w.noneFrozen y4.2 := fun b off hp => hz b off (by rw [hx]; simp [hp])
    have hfz : ∀ j, j < len * 5 → w.frozen? ⟨a.block, a.off + j, none⟩ = false := fun j hj => hz4 _ _ (by
      rw [hy]
      refine List.mem_append.2 (.inl ?_)
      unfold MemPlace.row
      rw [List.mem_map]
      exact ⟨j, by rw [List.mem_range, hlen]; have : len * 5 ≤ (len + rest.length) * 5 := Nat.mul_le_mul_right _ (by omega); omega, rfl⟩)
    have each : ∀ i, i < len → ∃ u : JV, u.num ∧ u.fits ∧ ∃ d0 d1 d2 d3 d4, w.cell? (a.add (i * 5)) = some d0 ∧ w.cell? ((a.add (i * 5)).add 1) = some d1 ∧ w.cell? ((a.add (i * 5)).add 2) = some d2 ∧ w.cell? ((a.add (i * 5)).add 3) = some d3 ∧ w.cell? ((a.add (i * 5)).add 4) = some d4 ∧ Rep w 0 w.heap.size u (.agg #[d0, d1, d2, d3, d4]) := by
      intro i hi
      have := hel i hi
      rw [List.getElem?_eq_getElem (by omega)] at this
      obtain ⟨cs', g1, g2⟩ := Option.bind_eq_some_iff.1 this
      have hzi : w.noneFrozen (elems[i]'(by omega)).2 := fun b off hp => hz4 b off (by
        rw [hy]
        refine List.mem_append.2 (.inr ?_)
        rw [List.mem_flatMap]
        exact ⟨_, List.mem_append.2 (.inl (List.getElem_mem (by omega))), hp⟩)
      obtain ⟨u, u1, u2, u3, u4⟩ := ih n' (by omega) cs' _ g2 hzi
      obtain ⟨_, _, gc⟩ := World.cells?_some g1
      match cs', u4 with
      | [d0, d1, d2, d3, d4], _ =>
        have r0 := gc 0 (by omega); have r1 := gc 1 (by omega); have r2 := gc 2 (by omega); have r3 := gc 3 (by omega); have r4 := gc 4 (by omega)
        rw [show (a.add (i * 5)).add 0 = a.add (i * 5) by simp [Addr.add]] at r0
        exact ⟨u, u1, u2, d0, d1, d2, d3, d4, r0, r1, r2, r3, r4, u3⟩
    obtain ⟨xs, hxl, hxs⟩ := choose_list len each
    refine ⟨.mk k m t ns xs, ?_, ?_, ?_, rfl⟩
    · unfold JV.num; exact ⟨hk, hm, JV.nums_of xs fun i hi => (hxs i hi).1⟩
    · unfold JV.fits; exact ⟨w2, n2, by rw [hxl]; omega, n3, JV.fitsL_of xs fun i hi => (hxs i hi).2.1⟩
    · unfold Rep
      refine ⟨an, cn, some a, cap, by rw [hxl], n1, by rw [hxl]; exact hl, n4, ?_⟩
      by_cases h0 : len = 0
      · exact .inl (List.eq_nil_of_length_eq_zero (by omega))
      · obtain ⟨_, _, d0, _, _, _, _, q0, _⟩ := hxs 0 (by omega)
        rw [Nat.zero_mul, show a.add 0 = a by simp [Addr.add]] at q0
        have ea := addr_plain q0
        have hlt := World.block_lt_of_cell? w _ q0
        refine .inr ⟨a.block, a.off, by rw [← ea], Nat.zero_le _, hlt, ?_, RepL.of_at fun i hi => ?_⟩
        · rw [ea] at q0
          simp only [World.cell?] at q0
          split at q0
          · rename_i c ty fr hb
            exact ⟨c, ty, fr, hb, fun h => by omega⟩
          · cases q0
        · obtain ⟨_, _, d0, d1, d2, d3, d4, q0, q1, q2, q3, q4, q5⟩ := hxs i hi
          rw [ea, add_off] at q0 q1 q2 q3 q4
          rw [add_off] at q1 q2 q3 q4
          exact ⟨d0, d1, d2, d3, d4, q0, q1, q2, q3, q4, hfz _ (by omega), q5⟩

end Go.Proofs.YtcahpjejpimdhaaGreatDoor

namespace Go.Proofs.YtcahpjejpimdhaaGreatDoor
open Go.ChangeShapes Go.WideShapes Go.ChangeAt Go.RowKit Go.Joins Go.Deep

/-- A key: its scheme, its public part. -/
abbrev Key2 := ByteArray × ByteArray

def KeysAt (w : World) (lo hi : Nat) (a : Option Addr) (l : List Key2) : Prop :=
  l = [] ∨ ∃ b off, a = some ⟨b, off, none⟩ ∧ lo ≤ b ∧ b < hi ∧ ∀ i (h : i < l.length), w.cell? ⟨b, off + i * 2, none⟩ = some (.string l[i].1) ∧ w.cell? ⟨b, off + i * 2 + 1, none⟩ = some (.string l[i].2)
theorem KeysAt.at {w : World} {lo hi : Nat} {a : Option Addr} {l : List Key2} (h : KeysAt w lo hi a l) (i : Nat) (hi' : i < l.length) :
    ∃ b off, a = some ⟨b, off, none⟩ ∧ lo ≤ b ∧ b < hi ∧ w.cell? ⟨b, off + i * 2, none⟩ = some (.string l[i].1) ∧ w.cell? ⟨b, off + i * 2 + 1, none⟩ = some (.string l[i].2) := by
  rcases h with h | ⟨b, off, ha, hb, hb', hr⟩
  · rw [h] at hi'; simp at hi'
  · exact ⟨b, off, ha, hb, hb', hr i hi'⟩
theorem KeysAt.carry {w w' : World} {lo hi lo' hi' : Nat} {a : Option Addr} {l : List Key2} (h : KeysAt w lo hi a l) (h1 : lo' ≤ lo) (h2 : hi ≤ hi') (hs : ∀ b, lo ≤ b → b < hi → w'.heap[b]? = w.heap[b]?) : KeysAt w' lo' hi' a l := by
  rcases h with h | ⟨b, off, ha, hb, hb', hr⟩
  · exact .inl h
  · refine .inr ⟨b, off, ha, by omega, by omega, fun i hi => ?_⟩
    have e : ∀ o, w'.cell? ⟨b, o, none⟩ = w.cell? ⟨b, o, none⟩ := fun o => World.cell?_of_block (w := w) (w' := w') (hs b hb hb')
    rw [e, e]; exact hr i hi
theorem KeysAt.below {w w' : World} {lo hi lo' hi' B : Nat} {a : Option Addr} {l : List Key2} (h : KeysAt w lo hi a l) (hb : Below B w w') (hB : hi ≤ B) (h1 : lo' ≤ lo) (h2 : hi ≤ hi') : KeysAt w' lo' hi' a l :=
  h.carry h1 h2 fun b _ hlt => hb.block b (by omega)

theorem cellsKey2 : Tryz.prog.cellsOf 23 = 2 := by kernel_rfl

theorem trod_two {H : Type} {enc : TypeId × Value → H} {P : Program} {w : World} {base : Nat} {spare : Nat → Bool} {held : Bool} {t : TypeId} {f0 f1 : Field} {fuel : Nat} {cs : List Value} {x : DataW H × List MemPlace} (hs : P.underlying t = some (.struct #[f0, f1])) (hone : oneCellFields P #[f0, f1] = true) (hC : P.cellsOf t = 2)
    (h : DataW.trod enc P w base spare held fuel t cs = some x) :
    ∃ (c0 c1 : Value) (y0 y1 : DataW H × List MemPlace) (n : Nat), cs = [c0, c1] ∧ DataW.trod enc P w base spare held n f0.type [c0] = some y0 ∧ DataW.trod enc P w base spare held n f1.type [c1] = some y1 := by
  obtain ⟨xs, n, hn, rfl, hl, hlen, hf⟩ := DataW.trod_struct hs h
  rw [hC] at hl
  obtain ⟨o0, k0⟩ := hone_of hone 0 f0 rfl
  obtain ⟨o1, k1⟩ := hone_of hone 1 f1 rfl
  match xs, hlen, cs, hl with
  | [y0, y1], _, [c0, c1], _ => exact ⟨c0, c1, y0, y1, n, rfl, by simpa [o0, k0] using hf 0 f0 rfl, by simpa [o1, k1] using hf 1 f1 rfl⟩

/-- Keys that came in. -/
theorem open_keys {H : Type} {enc : TypeId × Value → H} {w : World} {spare : Nat → Bool} {held : Bool} {fuel : Nat} {c : Value} {x : DataW H × List MemPlace} (h : DataW.trod enc Tryz.prog w 0 spare held fuel 43 [c] = some x) :
    ∃ (a : Option Addr) (cap : Nat) (l : List Key2), c = .slice a l.length cap ∧ l.length ≤ cap ∧ l.length ≤ maxLen ∧ (∀ k ∈ l, k.1.size ≤ maxLen ∧ k.2.size ≤ maxLen) ∧ KeysAt w 0 w.heap.size a l := by
  rcases DataW.trod_slice Tryz.underlying43 h with ⟨e4, _⟩ | ⟨a, len, cap, elems, rest, n', hn', e4, hy, _, hl, hcm, hlen, hel, _, _⟩
  · simp at e4; subst e4
    exact ⟨none, 0, [], rfl, Nat.le_refl _, by simp, by simp, .inl rfl⟩
  · simp at e4; subst e4
    rw [cellsKey2] at hel
    have each : ∀ i, i < len → ∃ k : Key2, w.cell? (a.add (i * 2)) = some (.string k.1) ∧ w.cell? ((a.add (i * 2)).add 1) = some (.string k.2) ∧ k.1.size ≤ maxLen ∧ k.2.size ≤ maxLen := by
      intro i hi
      have := hel i hi
      rw [List.getElem?_eq_getElem (by omega)] at this
      obtain ⟨cs', g1, g2⟩ := Option.bind_eq_some_iff.1 this
      obtain ⟨_, gl, gc⟩ := World.cells?_some g1
      obtain ⟨d0, d1, y0, y1, m, rfl, r0, r1⟩ := trod_two Tryz.underlying23 (by kernel_rfl) cellsKey2 g2
      all_goals
        obtain ⟨s, es, _, ws⟩ := DataW.trod_string Tryz.underlying9 r0
        obtain ⟨t, et, _, wt⟩ := DataW.trod_string Tryz.underlying9 r1
        simp only [List.cons.injEq, and_true] at es et
        subst es et
        have q0 := gc 0 (by omega); have q1 := gc 1 (by omega)
        rw [show (a.add (i * 2)).add 0 = a.add (i * 2) by simp [Addr.add]] at q0
        exact ⟨(s, t), q0, q1, ws, wt⟩
    obtain ⟨l, hll, hls⟩ := choose_list len each
    refine ⟨some a, cap, l, by rw [hll], by omega, by omega, fun k hk => ?_, ?_⟩
    · obtain ⟨i, hi, rfl⟩ := List.getElem_of_mem hk
      exact (hls i hi).2.2
    · by_cases h0 : len = 0
      · exact .inl (List.eq_nil_of_length_eq_zero (by omega))
      · have q0 := (hls 0 (by omega)).1
        rw [Nat.zero_mul, show a.add 0 = a by simp [Addr.add]] at q0
        have ea := addr_plain q0
        refine .inr ⟨a.block, a.off, by rw [← ea], Nat.zero_le _, World.block_lt_of_cell? w _ q0, fun i hi => ?_⟩
        obtain ⟨q0, q1, _⟩ := hls i hi
        rw [ea, add_off] at q0 q1
        rw [add_off] at q1
        exact ⟨q0, q1⟩

end Go.Proofs.YtcahpjejpimdhaaGreatDoor

namespace Go.Proofs.YtcahpjejpimdhaaGreatDoor
open Go

section
variable {P : Program} {ops : Array Oper} {md : Region.Mode} {Q : Exit → Act → World → Prop}

/-- Every operation of the head waits for earlier ones alone. -/
def downB (md : Region.Mode) (ops : Array Oper) (n : Nat) : Bool :=
  (List.range n).all fun i => match ops[i]? with
    | some o => o.after.all fun e => !(Region.binds md e) || decide (e.on < i)
    | none => false

/-- What the operation i waits for is done. -/
def waited (md : Region.Mode) (ops : Array Oper) (d : Nat → Prop) (i : Nat) : Prop :=
  ∀ o, ops[i]? = some o → ∀ e ∈ o.after, Region.binds md e = true → d e.on

def doneOf (listed : Array Bool) : Nat → Prop := fun i => listed.getD i false = true

theorem doneOf_set {listed : Array Bool} {i : Nat} (hi : i < listed.size) : doneOf (listed.setIfInBounds i true) = fun j => j = i ∨ doneOf listed j := by
  funext j
  apply propext
  unfold doneOf
  by_cases h : i = j
  · subst h
    simp [hi]
  · rw [getD_set_ne false h]
    constructor
    · exact .inr
    · rintro (e | e)
      · exact absurd e.symm h
      · exact e

theorem ready_some {n : Nat} {listed : Array Bool} (hd : downB md ops n = true) (inv : HeadInv md ops n listed) (hn : n < ops.size) :
    ∀ i, i < n → listed.getD i false = false → Region.ready md ops listed ≠ [] := by
  intro i
  induction i using Nat.strongRecOn with
  | _ i ih =>
    intro hi hun h0
    have h1 := List.all_eq_true.1 hd i (List.mem_range.2 hi)
    cases ho : ops[i]? with
    | none => rw [ho] at h1; cases h1
    | some o =>
      rw [ho] at h1
      by_cases hall : ∀ e ∈ o.after, Region.binds md e = true → listed.getD e.on false = true
      · have : i ∈ Region.ready md ops listed := mem_ready.2 ⟨getD_in (by rw [inv.size]; omega) hun, o, ho, hall⟩
        rw [h0] at this
        cases this
      · have : ∃ e, e ∈ o.after ∧ Region.binds md e = true ∧ listed.getD e.on false = false := by
          apply Classical.byContradiction
          intro hne
          apply hall
          intro e he hb
          cases hl : listed.getD e.on false with
          | true => rfl
          | false => exact absurd ⟨e, he, hb, hl⟩ hne
        obtain ⟨e, he, hb, hl⟩ := this
        have h2 := Array.all_eq_true'.1 h1 e he
        simp only [hb, Bool.not_true, Bool.false_or, decide_eq_true_eq] at h2
        exact ih e.on h2 (by omega) hl h0

def openOf (n : Nat) (listed : Array Bool) : Nat := ((List.range n).filter fun i => !(listed.getD i false)).length

theorem filter_set_len (listed : Array Bool) (i : Nat) (hl : listed.getD i false = false) (hs : i < listed.size) : ∀ n, 
    ((List.range n).filter fun j => !((listed.setIfInBounds i true).getD j false)).length + (if i < n then 1 else 0) = ((List.range n).filter fun j => !(listed.getD j false)).length := by
  intro n
  induction n with
  | zero => simp
  | succ n ih =>
    rw [List.range_succ, List.filter_append, List.filter_append, List.length_append, List.length_append, ← ih]
    by_cases h : i = n
    · subst h
      have e1 : (listed.setIfInBounds i true).getD i false = true := by simp [hs]
      simp only [List.filter_cons, List.filter_nil, e1, hl]
      simp
    · have e : (if i < n + 1 then 1 else 0) = (if i < n then 1 else 0) := by
        by_cases h2 : i < n
        · rw [if_pos h2, if_pos (Nat.lt_succ_of_lt h2)]
        · rw [if_neg h2, if_neg (fun h3 => h2 (by omega))]
      rw [e]
      simp only [List.filter_cons, List.filter_nil]
      rw [getD_set_ne false h]
      omega

theorem openOf_set {n i : Nat} {listed : Array Bool} (hi : i < n) (hs : i < listed.size) (hl : listed.getD i false = false) : openOf n (listed.setIfInBounds i true) + 1 = openOf n listed := by
  have := filter_set_len listed i hl hs n
  rw [if_pos hi] at this
  exact this

theorem openOf_zero {n : Nat} {listed : Array Bool} (h : openOf n listed = 0) : ∀ i, i < n → listed.getD i false = true := by
  intro i hi
  unfold openOf at h
  rw [List.length_eq_zero_iff, List.filter_eq_nil_iff] at h
  have := h i (List.mem_range.2 hi)
  simpa using this

theorem openOf_pos {n : Nat} {listed : Array Bool} (h : 0 < openOf n listed) : ∃ i, i < n ∧ listed.getD i false = false := by
  unfold openOf at h
  obtain ⟨i, hi⟩ := List.exists_mem_of_length_pos h
  rw [List.mem_filter] at hi
  exact ⟨i, List.mem_range.1 hi.1, by simpa using hi.2⟩

/-- A statement that holds through the head's drawn order. -/
theorem wpAny_inv {n g : Nat} (I : (Nat → Prop) → Act → World → Prop)
    (hs : Region.sinkB md ops n = true) (hc : Region.chainB md ops n = true) (hn : n < ops.size) (hd : downB md ops n = true)
    (step : ∀ d a w, I d a w → ∀ i, i < n → ¬ d i → waited md ops d i → wpOp P ops Q i (I (fun j => j = i ∨ d j)) a w)
    (last : ∀ listed a w, HeadInv md ops n listed → (∀ i, i < n → listed.getD i false = true) → I (doneOf listed) a w → wpAny P md ops Q g listed a w) :
    ∀ (f : Nat) (listed : Array Bool) (a : Act) (w : World), HeadInv md ops n listed → openOf n listed = f → I (doneOf listed) a w → wpAny P md ops Q (f + g) listed a w
  | 0, listed, a, w, inv, h0, h => by rw [Nat.zero_add]; exact last listed a w inv (openOf_zero h0) h
  | f + 1, listed, a, w, inv, h0, h => by
    rw [show f + 1 + g = (f + g) + 1 by omega]
    obtain ⟨i, hi, hl⟩ := openOf_pos (n := n) (listed := listed) (by omega)
    refine ⟨fun h1 => absurd h1 (ready_some hd inv hn i hi hl), fun j hj => ?_⟩
    have hjn : j < n := by
      rcases Nat.lt_or_ge j n with h | h
      · exact h
      · exact absurd hj (tail_waits hs hc hn inv _ i rfl hi (getD_in (by rw [inv.size]; omega) hl) j h)
    obtain ⟨hun, oj, hoj, hall⟩ := mem_ready.1 hj
    have hjs : j < listed.size := by rw [inv.size]; omega
    have hun' := getD_both hun
    refine wpOp_mono (fun a' w' h' => wpAny_inv I hs hc hn hd step last f _ a' w' (inv.set hj hjn) ?_ ?_) (step (doneOf listed) a w h j hjn ?_ ?_)
    · have := openOf_set hjn hjs hun'; omega
    · rw [doneOf_set hjs]; exact h'
    · unfold doneOf; rw [hun']; simp
    · intro o ho e he hb
      have : o = oj := Option.some.inj (ho.symm.trans hoj)
      subst this
      exact hall e he hb

/-- Everything of the head is listed and nothing of the tail. -/
def headFull (n m : Nat) : Array Bool := ((List.range m).map fun i => decide (i < n)).toArray

theorem headFull_of {n : Nat} {listed : Array Bool} (inv : HeadInv md ops n listed) (h : ∀ i, i < n → listed.getD i false = true) : listed = headFull n ops.size := by
  apply Array.ext
  · simp [headFull, inv.size]
  · intro i h1 h2
    by_cases hi : i < n
    · have := h i hi
      simp [headFull, hi]
      simpa [h1] using this
    · have := getD_both (inv.tail i (by omega) (by rw [← inv.size]; exact h1))
      simp [headFull, hi]
      simpa [h1] using this

/-- A region whose head's operations run in a drawn order and whose tail is a chain. -/
theorem wp_region_inv {id : Nat} {a : Act} {w : World} {l : List Oper} (n : Nat) (I : (Nat → Prop) → Act → World → Prop) (hm : P.follows .mixedOrders = true)
    (hB : (decide (n < l.length) && Region.sinkB .any l.toArray n && Region.chainB .any l.toArray n && downB .any l.toArray n && Region.seqB .any l.toArray (l.length - n) n (headFull n l.length)) = true)
    (first : I (fun _ => False) a { w with drawn := w.drawn + 1 })
    (step : ∀ d a w, I d a w → ∀ i, i < n → ¬ d i → waited .any l.toArray d i → wpOp P l.toArray Q i (I (fun j => j = i ∨ d j)) a w)
    (last : ∀ d a w, (∀ i, i < n → d i) → I d a w → wpList P l.toArray Q (l.drop n) a w) : (Code.region id l.toArray true).wp P Q a w := by
  simp only [Bool.and_eq_true, decide_eq_true_eq] at hB
  obtain ⟨⟨⟨⟨hn, hs⟩, hc⟩, hd⟩, hq⟩ := hB
  refine wp_region_any hm ?_
  have inv0 : HeadInv .any l.toArray n (Array.replicate l.toArray.size false) :=
    ⟨by simp, fun j oj _ hl => (by rw [getD_replicate_false] at hl; cases hl), fun t _ ht => getD_in (by simpa using ht) (getD_replicate_false _ _)⟩
  have h0 : doneOf (Array.replicate l.toArray.size false) = fun _ => False := by
    funext i; unfold doneOf; rw [getD_replicate_false]; simp
  have hz : openOf n (Array.replicate l.toArray.size false) = n := by
    unfold openOf
    rw [List.filter_eq_self.2 (fun i _ => by rw [getD_replicate_false]; rfl), List.length_range]
  have hdl : (l.drop n).length = l.length - n := by simp
  have := wpAny_inv (P := P) (Q := Q) (g := l.length - n) I hs hc (by simpa using hn) hd step (fun listed a' w' inv hall hI => by
    have hf := headFull_of inv hall
    have hr := last (doneOf listed) a' w' hall hI
    have := wpAny_of_seq (md := .any) (Q' := Q) (l.drop n) n listed a' w' (fun j => by simp [List.getElem?_drop]) (by rw [hdl, hf]; simpa using hq) hr
    rwa [hdl] at this) n _ a { w with drawn := w.drawn + 1 } inv0 hz (by rw [h0]; exact first)
  rw [show n + (l.length - n) = l.toArray.size by simp; omega] at this
  exact this
end
end Go.Proofs.YtcahpjejpimdhaaGreatDoor

namespace Go.Proofs.YtcahpjejpimdhaaGreatDoor
open Go.RowKit

/-- Block b has m cells from off on; it bears no mark. -/
def Room (w : World) (b off m : Nat) : Prop := ∃ cs t, w.heap[b]? = some (.cells cs t (0, 0)) ∧ off + m ≤ cs.size
theorem Room.cell {w : World} {b off m : Nat} (h : Room w b off m) (j : Nat) (hj : j < off + m) : ∃ v, w.cell? ⟨b, j, none⟩ = some v := by
  obtain ⟨cs, t, h1, h2⟩ := h
  exact ⟨cs[j]'(by omega), by simp [World.cell?, h1, Array.getElem?_eq_getElem (show j < cs.size by omega)]⟩
theorem Room.frozen {w : World} {b off m : Nat} (h : Room w b off m) (j : Nat) : w.frozen? ⟨b, j, none⟩ = false := by
  obtain ⟨cs, t, h1, h2⟩ := h
  simp [World.frozen?, h1]
theorem Room.set {w : World} {b off m : Nat} (h : Room w b off m) (j : Nat) (v : Value) : Room (w.setCell ⟨b, j, none⟩ v) b off m := by
  obtain ⟨cs, t, h1, h2⟩ := h
  exact ⟨cs.setIfInBounds j v, t, by simp [World.setCell, Array.getElem?_modify, h1], by simpa using h2⟩
theorem Room.of_block {w w' : World} {b off m : Nat} (h : Room w b off m) (e : w'.heap[b]? = w.heap[b]?) : Room w' b off m := by
  obtain ⟨cs, t, h1, h2⟩ := h
  exact ⟨cs, t, by rw [e]; exact h1, h2⟩
theorem Room.lt {w : World} {b off m : Nat} (h : Room w b off m) : b < w.heap.size := by
  obtain ⟨cs, t, h1, h2⟩ := h
  exact (Array.getElem?_eq_some_iff.1 h1).1
/-- The Items of a value of the call's own. -/
theorem ValsAt.room {w : World} {lo hi : Nat} {a : Option Addr} {l : List JV} (h : ValsAt w lo hi a l) (hlo : 0 < lo) :
    l.length = 0 ∨ ∃ b off, a = some ⟨b, off, none⟩ ∧ lo ≤ b ∧ b < hi ∧ Room w b off (l.length * 5) := by
  rcases h with h | ⟨b, off, ha, hb, hb', hu, hr⟩
  · exact .inl (by rw [h]; rfl)
  · by_cases h0 : l.length = 0
    · exact .inl h0
    · refine .inr ⟨b, off, ha, hb, hb', ?_⟩
      obtain ⟨cs, t, fr, h1, h2⟩ := hu
      rw [h2 hlo] at h1
      refine ⟨cs, t, h1, ?_⟩
      obtain ⟨c0, c1, c2, c3, c4, _, _, _, _, e4, _⟩ := hr.at (l.length - 1) (by omega)
      simp only [World.cell?, h1] at e4
      have := (Array.getElem?_eq_some_iff.1 (by simpa using e4)).1
      omega

/-- The Names of a value of the call's own. (Their block may bear a mark: nothing is said of that.) -/
def SpoilRel (B p n : Nat) (ai : Option Addr) (W : World) (i : Value) (wr : World) : Prop :=
  ∃ q : Nat, q ≤ n ∧ i = .int .i64 q ∧ Touch (fun k => B ≤ k ∧ k < p) W wr ∧ (n = 0 ∨ ∃ b off, ai = some ⟨b, off, none⟩ ∧ B ≤ b ∧ b < p ∧ Room wr b off (n * 5))

theorem SpoilRel.set {B p n : Nat} {W wr : World} {b off q : Nat} {v0 v1 v2 v3 v4 : Value} (hq : q < n) (ht : Touch (fun k => B ≤ k ∧ k < p) W wr) (hb : B ≤ b) (hb' : b < p) (hr : Room wr b off (n * 5)) :
    SpoilRel B p n (some ⟨b, off, none⟩) W (.int .i64 ((q : Int) + 1)) (((((wr.setCell ⟨b, off + q * 5, none⟩ v0).setCell ⟨b, off + q * 5 + 1, none⟩ v1).setCell ⟨b, off + q * 5 + 2, none⟩ v2).setCell ⟨b, off + q * 5 + 3, none⟩ v3).setCell ⟨b, off + q * 5 + 4, none⟩ v4) :=
  ⟨q + 1, by omega, by simp, ((((ht.setCell (.inl ⟨hb, hb'⟩) _).setCell (.inl ⟨hb, hb'⟩) _).setCell (.inl ⟨hb, hb'⟩) _).setCell (.inl ⟨hb, hb'⟩) _).setCell (.inl ⟨hb, hb'⟩) _, .inr ⟨b, off, rfl, hb, hb', ((((hr.set _ _).set _ _).set _ _).set _ _).set _ _⟩⟩

end Go.Proofs.YtcahpjejpimdhaaGreatDoor

namespace Go.Proofs.YtcahpjejpimdhaaGreatDoor
open Go.RowKit
def zeroJ : JV := .mk 0 0 { data := #[] } [] []
def zeroAggW : Value := .agg #[.int .u8 0, .int .i64 0, .string { data := #[] }, .slice none 0 0, .slice none 0 0]
theorem rep_zeroJW (w : World) (lo hi : Nat) : Rep w lo hi zeroJ zeroAggW := by
  unfold zeroJ Rep; exact ⟨none, 0, none, 0, rfl, Nat.le_refl _, Nat.le_refl _, .inl rfl, .inl rfl⟩
end Go.Proofs.YtcahpjejpimdhaaGreatDoor

namespace Go.Proofs.YtcahpjejpimdhaaGreatDoor
open Go.RowKit

theorem run_same_any {P : Program} (w : World) {a b : Addr} {ca cb : Array Value} {ta tb : TypeId} {fa fb : Nat × Nat} (ha : w.heap[a.block]? = some (.cells ca ta fa)) (hb : w.heap[b.block]? = some (.cells cb tb fb)) (hf : w.frozen? a = false) :
    ∃ r q, (sameAddr a b).run P w = .ok r (w.drewN q) := by
  by_cases hbl : a.block = b.block
  · exact ⟨a == b, 0, by simp [sameAddr, hbl]; rfl⟩
  · have hm : ∃ m, (mayBeOne a b).run P w = .ok m w := by
      cases hfb : w.frozen? b
      · exact ⟨_, by simp [mayBeOne, stringish, World.shape?, ha, hb, hf, hfb]; rfl⟩
      · exact ⟨_, by simp [mayBeOne, stringish, World.shape?, ha, hb, hf, hfb]; rfl⟩
    obtain ⟨m, hm⟩ := hm
    cases m
    · exact ⟨false, 0, by simp [sameAddr, hbl, hf, noView, viewAt, World.shape?, ha, hb, hm]; rfl⟩
    · refine ⟨_, 1, by simp [sameAddr, hbl, hf, noView, viewAt, World.shape?, ha, hb, hm, Question.forced]; exact ⟨rfl, rfl⟩⟩

theorem run_eql_any {P : Program} (w : World) {tp te : TypeId} {j : TypeInfo} {a b : Addr} {ca cb : Array Value} {ta tb : TypeId} {fa fb : Nat × Nat} (hp : P.underlying tp = some (.pointer te)) (hte : P.info? te = some j) (hsz : j.size ≠ 0)
    (ha : w.heap[a.block]? = some (.cells ca ta fa)) (hb : w.heap[b.block]? = some (.cells cb tb fb)) (hf : w.frozen? a = false) :
    ∃ r q, (binOp .eql tp (.pointer (some a)) (.pointer (some b))).run P w = .ok (.bool r) (w.drewN q) := by
  obtain ⟨r, q, h0⟩ := run_same_any (P := P) w ha hb hf
  have h : ∀ d : Nat, (Op.equalIn (d + 1) tp (.pointer (some a)) (.pointer (some b))).run P w = .ok r (w.drewN q) := fun d => by
    simp [Op.equalIn, run_underlying hp, sizeOf, typeInfo, hte, hsz, h0]
  refine ⟨r, q, ?_⟩
  simp only [binOp]
  simp [Op.equal, Op.maxDepth, h 9999]

/-- What is held against: a value that came in, or nothing. -/
def AboveW (w : World) (p : Option Addr) : Prop := p = none ∨ ∃ b o cs t fr, p = some ⟨b, o, none⟩ ∧ w.heap[b]? = some (.cells cs t fr) ∧ w.frozen? ⟨b, o, none⟩ = false

def EndPost (w : World) (e : Ending) (w' : World) : Prop := ∃ (b : Bool) (q : Nat), e = .returned (.bool b) ∧ w' = w.drewN q

theorem ValsAt.drewN {w : World} {lo hi : Nat} {a : Option Addr} {l : List JV} (h : ValsAt w lo hi a l) (q : Nat) : ValsAt (w.drewN q) lo hi a l := h.carry (Nat.le_refl _) (Nat.le_refl _) fun _ _ _ => rfl
theorem drewN_add (w : World) (p q : Nat) : (w.drewN p).drewN q = w.drewN (p + q) := by simp [World.drewN, Nat.add_assoc]

set_option maxRecDepth 100000 in
set_option maxHeartbeats 1000000 in
theorem endlessW (N : Nat) : ∀ (l : List JV) (a : Option Addr) (c lv : Nat) (p : Option Addr) (hi : Nat) (w : World), JV.wts l ≤ N → lv + N ≤ 1099511627776 → ValsAt w 0 hi a l → AboveW w p →
    Calls Tryz.prog 68 #[.slice a l.length c, .int .i64 lv, .pointer p, .bool false] w (EndPost w) := by
  induction N with
  | zero =>
    intro l a c lv p hi w hN hlv hV hA
    have hlen := JV.wts_len l
    obtain rfl : l = [] := List.eq_nil_of_length_eq_zero (by omega)
    exact (endlessNil a c lv p w).mono fun e w' ⟨h1, h2⟩ => ⟨false, 0, h1, h2 ▸ rfl⟩
  | succ N ih =>
    intro l a c lv p hi w hN hlv hV hA
    have IH := Lib.hid ih; clear ih
    have HV := Lib.hid hV; clear hV
    have HA := Lib.hid hA; clear hA
    have hlen := JV.wts_len l
    obtain ⟨n, hn⟩ : ∃ n, n = l.length := ⟨_, rfl⟩
    rw [← hn]
    rw [← hn] at hlen
    have HN := Lib.hid hn; clear hn
    go_enter Tryz.func68, Tryz.ntmps68
    go_wp2
    go_loopw [9, 10, 11, 14] (fun _ _ _ i wr => ∃ k q : Nat, k ≤ n ∧ i = .int .i64 k ∧ wr = w.drewN q) (fun _ _ _ i _ => n - (intOf i).toNat)
    case atStart => exact ⟨0, 0, by omega, rfl, rfl⟩
    case round =>
      obtain ⟨k, q, hk, rfl, hwr⟩ := hrel
      have HWR := Lib.hid hwr
      by_cases hlt : k < n
      · have hlt' : k < l.length := by rw [← HN.out]; exact hlt
        have hVr : ValsAt wr 0 hi a l := by rw [hwr]; exact HV.out.drewN q
        clear hwr
        obtain ⟨b, off, an, cn, ai, ci, hae, _, hb, y0, y1, y2, y3, y4, hrep⟩ := hVr.get k hlt'
        subst hae
        have hwk := JV.wts_get l k hlt'
        obtain ⟨_, _, _, hwi⟩ := l[k].wt_bd
        have HI := Lib.hid (show ValsAt wr 0 hi ai l[k].items by
          obtain ⟨an', cn', ai', ci', hx, _, _, _, h5⟩ := hrep.parts
          simp only [Value.agg.injEq, Array.mk.injEq, List.cons.injEq, and_true, Value.slice.injEq] at hx
          obtain ⟨_, _, _, _, rfl, _, _⟩ := hx
          exact h5)
        have hblk := hVr.blk k hlt'
        obtain ⟨⟨ca, ta, fa, hca, _⟩, hfa⟩ := hblk
        generalize l[k] = it at *
        clear hrep y1 y2 y3 hVr
        have HA1 := Lib.hid (show AboveW wr (some ⟨b, off + k * 5, none⟩) from .inr ⟨b, off + k * 5, ca, ta, fa, rfl, hca, hfa⟩)
        have HAp := Lib.hid (show AboveW wr p by
          rw [HWR.out]
          rcases HA.out with h | ⟨b, o, cs, t, fr, h1, h2, h3⟩
          · exact .inl h
          · exact .inr ⟨b, o, cs, t, fr, h1, h2, h3⟩)
        rcases HAp.out with rfl | ⟨pb, po, cb, tb, fb, rfl, hcb, hfb⟩
        · cases hbit : (bits BinOp.and IntKind.i64 (lv : Int) ((lv : Int) - 1) == 0)
          all_goals
            clear hca hfa
            go_wp2_with fail
            rw [show (lv : Int) + 1 = ((lv + 1 : Nat) : Int) by omega]
            refine (IH.out it.items ai ci (lv + 1) _ hi wr (by omega) (by omega) HI.out (by first | exact HA1.out | exact HAp.out)).mono ?_
            rintro e w1 ⟨r, q', rfl, hw1⟩
            have HW1 := Lib.hid (show w1 = w.drewN (q + q') by rw [hw1, HWR.out, drewN_add])
            clear hw1
            cases r
            · go_wp2
              go_roundw
              case rel => exact ⟨k + 1, _, by omega, by go_num, HW1.out⟩
              case measure => simp [intOf]; omega
            · go_wp2
              go_ret
              exact ⟨true, _, rfl, HW1.out⟩
        · obtain ⟨j, hj1, hj2⟩ := infoVal
          obtain ⟨r, q', heq⟩ := run_eql_any (P := Tryz.prog) wr (a := ⟨b, off + k * 5, none⟩) (b := ⟨pb, po, none⟩) Tryz.underlying92 hj1 hj2 hca hcb hfa
          have HA1d := Lib.hid (show AboveW (wr.drewN q') (some ⟨b, off + k * 5, none⟩) from .inr ⟨b, off + k * 5, ca, ta, fa, rfl, hca, hfa⟩)
          have HApd := Lib.hid (show AboveW (wr.drewN q') (some ⟨pb, po, none⟩) from .inr ⟨pb, po, cb, tb, fb, rfl, hcb, hfb⟩)
          have y0' : (wr.drewN q').cell? ⟨b, off + k * 5, none⟩ = wr.cell? ⟨b, off + k * 5, none⟩ := rfl
          have y4' : (wr.drewN q').cell? ⟨b, off + k * 5 + 4, none⟩ = some (.slice ai it.items.length ci) := y4
          rw [y0] at y0'
          clear hca hfa hcb hfb hj1 hj2
          cases r
          · cases hbit : (bits BinOp.and IntKind.i64 (lv : Int) ((lv : Int) - 1) == 0)
            all_goals
              go_wp2_with fail
              rw [show (lv : Int) + 1 = ((lv + 1 : Nat) : Int) by omega]
              refine (IH.out it.items ai ci (lv + 1) _ hi (wr.drewN q') (by omega) (by omega) (HI.out.drewN q') (by first | exact HA1d.out | exact HApd.out)).mono ?_
              rintro e w1 ⟨r, q2, rfl, hw1⟩
              have HW1 := Lib.hid (show w1 = w.drewN (q + q' + q2) by rw [hw1, HWR.out, drewN_add, drewN_add, Nat.add_assoc])
              clear hw1
              cases r
              · go_wp2
                go_roundw
                case rel => exact ⟨k + 1, _, by omega, by go_num, HW1.out⟩
                case measure => simp [intOf]; omega
              · go_wp2
                go_ret
                exact ⟨true, _, rfl, HW1.out⟩
          · go_wp2
            go_ret
            exact ⟨true, q + q', rfl, by rw [HWR.out, drewN_add]⟩
      · clear hwr
        go_wp2
        go_ret
        exact ⟨false, q, rfl, HWR.out⟩

end Go.Proofs.YtcahpjejpimdhaaGreatDoor

namespace Go.Proofs.YtcahpjejpimdhaaGreatDoor
open Go.RowKit

/-- Behind i bytes that go on: the least and the greatest number that these bytes may become. -/
def begStep (l : List UInt8) (x : Int) : Nat → Option (Int × Int)
  | 0 => some (x, x)
  | i + 1 => match begStep l x i with
    | none => none
    | some (lo, hi) => if i + 1 < l.length then (if byteI l (i + 1) < 128 ∨ 191 < byteI l (i + 1) then none else some (64 * lo + (byteI l (i + 1) - 128), 64 * hi + (byteI l (i + 1) - 128))) else some (64 * lo, 64 * hi + 63)
def begOff (size : Nat) : Int := if size = 2 then 192 else if size = 3 then 224 else 240
def begLeast (size : Nat) : Int := if size = 2 then 128 else if size = 3 then 2048 else 65536
def begEnd (lo hi least : Int) : Bool := if 55296 ≤ max lo least ∧ min hi 1114111 ≤ 57343 then false else decide (max lo least ≤ min hi 1114111)
def beginsB (l : List UInt8) (size : Nat) : Bool := match begStep l (byteI l 0 - begOff size) (size - 1) with
  | none => false
  | some (lo, hi) => begEnd lo hi (begLeast size)

theorem begStep_none (l : List UInt8) (x : Int) (i : Nat) (h : begStep l x i = none) : ∀ j, begStep l x (i + j) = none
  | 0 => h
  | j + 1 => by rw [← Nat.add_assoc, begStep, begStep_none l x i h j]

/-- The rule, by bytes: b0 begins a rune of so many bytes. -/
abbrev full2 (b0 b1 : Nat) : Prop := b1 / 64 = 2 ∧ 128 ≤ (b0 - 192) * 64 + (b1 - 128)
abbrev full3 (b0 b1 b2 : Nat) : Prop := b1 / 64 = 2 ∧ b2 / 64 = 2 ∧ 2048 ≤ (b0 - 224) * 4096 + (b1 - 128) * 64 + (b2 - 128) ∧ ((b0 - 224) * 4096 + (b1 - 128) * 64 + (b2 - 128) < 55296 ∨ 57343 < (b0 - 224) * 4096 + (b1 - 128) * 64 + (b2 - 128))
abbrev full4 (b0 b1 b2 b3 : Nat) : Prop := b1 / 64 = 2 ∧ b2 / 64 = 2 ∧ b3 / 64 = 2 ∧ 65536 ≤ (b0 - 240) * 262144 + (b1 - 128) * 4096 + (b2 - 128) * 64 + (b3 - 128) ∧ (b0 - 240) * 262144 + (b1 - 128) * 4096 + (b2 - 128) * 64 + (b3 - 128) ≤ 1114111

theorem beg2 (a b : UInt8) (h : 192 ≤ a.toNat ∧ a.toNat < 224) : (beginsB [a, b] 2 = true ↔ full2 a.toNat b.toNat) ∧ (full2 a.toNat b.toNat → beginsB [a] 2 = true) := by
  have := b.toNat_lt
  unfold full2 beginsB begEnd begLeast begOff
  simp only [Nat.reduceSub, begStep, byteI, List.length_cons, List.length_nil, List.getD_cons_zero, List.getD_cons_succ, if_true]
  constructor
  · by_cases g : (b.toNat : Int) < 128 ∨ 191 < (b.toNat : Int)
    · simp [g]; omega
    · simp [g]; omega
  · intro h; simp; omega
theorem begEnd_iff (lo hi least : Int) : begEnd lo hi least = true ↔ ¬ (55296 ≤ max lo least ∧ min hi 1114111 ≤ 57343) ∧ max lo least ≤ min hi 1114111 := by
  unfold begEnd; split <;> simp_all
theorem beg3 (a b c : UInt8) (h : 224 ≤ a.toNat ∧ a.toNat < 240) : (beginsB [a, b, c] 3 = true ↔ full3 a.toNat b.toNat c.toNat) ∧ (full3 a.toNat b.toNat c.toNat → beginsB [a] 3 = true ∧ beginsB [a, b] 3 = true) := by
  have hb := b.toNat_lt
  have hc := c.toNat_lt
  unfold full3 beginsB begLeast begOff
  simp only [Nat.reduceSub, begStep, byteI, List.length_cons, List.length_nil, List.getD_cons_zero, List.getD_cons_succ]
  generalize a.toNat = x at *
  generalize b.toNat = y at *
  generalize c.toNat = z at *
  by_cases g1 : (y : Int) < 128 ∨ 191 < (y : Int)
  · simp [g1]; omega
  · by_cases g2 : (z : Int) < 128 ∨ 191 < (z : Int)
    · simp [g1, g2]; omega
    · simp only [Nat.reduceAdd, Nat.reduceLT, if_true, g1, g2, if_false, begEnd_iff, show ¬ (3 : Nat) = 2 by decide]
      constructor
      · constructor
        · intro h; omega
        · intro h; omega
      · intro h; constructor <;> omega
theorem beg4 (a b c d : UInt8) (h : 240 ≤ a.toNat ∧ a.toNat ≤ 247) : (beginsB [a, b, c, d] 4 = true ↔ full4 a.toNat b.toNat c.toNat d.toNat) ∧ (full4 a.toNat b.toNat c.toNat d.toNat → beginsB [a] 4 = true ∧ beginsB [a, b] 4 = true ∧ beginsB [a, b, c] 4 = true) := by
  have hb := b.toNat_lt
  have hc := c.toNat_lt
  have hd := d.toNat_lt
  unfold full4 beginsB begLeast begOff
  simp only [Nat.reduceSub, begStep, byteI, List.length_cons, List.length_nil, List.getD_cons_zero, List.getD_cons_succ]
  generalize a.toNat = x at *
  generalize b.toNat = y at *
  generalize c.toNat = z at *
  generalize d.toNat = u at *
  by_cases g1 : (y : Int) < 128 ∨ 191 < (y : Int)
  · simp [g1]; omega
  · by_cases g2 : (z : Int) < 128 ∨ 191 < (z : Int)
    · simp [g1, g2]; omega
    · by_cases g3 : (u : Int) < 128 ∨ 191 < (u : Int)
      · simp [g1, g2, g3]; omega
      · simp only [Nat.reduceAdd, Nat.reduceLT, if_true, g1, g2, g3, if_false, begEnd_iff, show ¬ (4 : Nat) = 2 by decide, show ¬ (4 : Nat) = 3 by decide]
        constructor
        · constructor
          · intro h; omega
          · intro h; omega
        · intro h; refine ⟨?_, ?_, ?_⟩ <;> omega

end Go.Proofs.YtcahpjejpimdhaaGreatDoor

namespace Go.Proofs.YtcahpjejpimdhaaGreatDoor
open Go.RowKit

theorem Room.any {w : World} {b off m : Nat} (h : Room w b off m) (b' j : Nat) (v : Value) : Room (w.setCell ⟨b', j, none⟩ v) b off m := by
  by_cases e : b' = b
  · subst e; exact h.set j v
  · exact h.of_block (Below.heap_setCell _ _ _ _ (fun e' => e e'.symm))
theorem blk_set {w : World} {p b j : Nat} {o : Obj} {v : Value} (h : w.heap[p]? = some o) (hne : b ≠ p) : (w.setCell ⟨b, j, none⟩ v).heap[p]? = some o := by
  rw [Below.heap_setCell _ _ _ _ (fun e => hne e.symm)]; exact h

/-- q of n names and items are written over; another row of the call's own waits. -/
structure Spoil2 (wo : World) (p : Nat) (o : Obj) (n : Nat) (an ai : Option Addr) (m : Nat) (ak : Option Addr) (q : Nat) (wr : World) : Prop where
  le : q ≤ n
  below : Below wo.heap.size wo wr
  box : wr.heap[p]? = some o
  names : n = 0 ∨ ∃ b, an = some ⟨b, 0, none⟩ ∧ wo.heap.size ≤ b ∧ b < p ∧ Room wr b 0 n
  items : n = 0 ∨ ∃ b off, ai = some ⟨b, off, none⟩ ∧ wo.heap.size ≤ b ∧ b < p ∧ Room wr b off (n * 5)
  keys : m = 0 ∨ ∃ b, ak = some ⟨b, 0, none⟩ ∧ wo.heap.size ≤ b ∧ Room wr b 0 (m * 2)

theorem Spoil2.next {wo wr : World} {p n q bn bi off m : Nat} {o : Obj} {ak : Option Addr} {v0 v1 v2 v3 v4 v5 : Value} (h : Spoil2 wo p o n (some ⟨bn, 0, none⟩) (some ⟨bi, off, none⟩) m ak q wr) (hq : q < n) :
    Spoil2 wo p o n (some ⟨bn, 0, none⟩) (some ⟨bi, off, none⟩) m ak (q + 1) ((((((wr.setCell ⟨bn, q, none⟩ v0).setCell ⟨bi, off + q * 5, none⟩ v1).setCell ⟨bi, off + q * 5 + 1, none⟩ v2).setCell ⟨bi, off + q * 5 + 2, none⟩ v3).setCell ⟨bi, off + q * 5 + 3, none⟩ v4).setCell ⟨bi, off + q * 5 + 4, none⟩ v5) := by
  obtain ⟨b1, e1, g1, g2, g3⟩ := h.names.resolve_left (by omega)
  obtain ⟨b2, o2, e2, k1, k2, k3⟩ := h.items.resolve_left (by omega)
  simp only [Option.some.injEq, Addr.mk.injEq, and_true] at e1 e2
  subst e1
  obtain ⟨rfl, rfl⟩ := e2
  refine ⟨hq, (((((h.below.setCell g1 _).setCell k1 _).setCell k1 _).setCell k1 _).setCell k1 _).setCell k1 _, ?_, .inr ⟨_, rfl, g1, g2, (((((g3.any _ _ _).any _ _ _).any _ _ _).any _ _ _).any _ _ _).any _ _ _⟩, .inr ⟨_, _, rfl, k1, k2, (((((k3.any _ _ _).any _ _ _).any _ _ _).any _ _ _).any _ _ _).any _ _ _⟩, ?_⟩
  · exact blk_set (blk_set (blk_set (blk_set (blk_set (blk_set h.box (by omega)) (by omega)) (by omega)) (by omega)) (by omega)) (by omega)
  · rcases h.keys with h0 | ⟨b, h1, h2, h3⟩
    · exact .inl h0
    · exact .inr ⟨b, h1, h2, (((((h3.any _ _ _).any _ _ _).any _ _ _).any _ _ _).any _ _ _).any _ _ _⟩
theorem Room.same {w w' : World} {b off m : Nat} (h : Room w b off m) (e : w'.heap = w.heap) : Room w' b off m := h.of_block (by rw [e])
theorem Spoil2.drew {wo wr : World} {p n q m : Nat} {o : Obj} {an ai ak : Option Addr} (h : Spoil2 wo p o n an ai m ak q wr) : Spoil2 wo p o n an ai m ak q wr.drew := by
  refine ⟨h.le, h.below.drew, h.box, ?_, ?_, ?_⟩
  · rcases h.names with h0 | ⟨b, h1, h2, h3, h4⟩
    · exact .inl h0
    · exact .inr ⟨b, h1, h2, h3, h4.same rfl⟩
  · rcases h.items with h0 | ⟨b, off, h1, h2, h3, h4⟩
    · exact .inl h0
    · exact .inr ⟨b, off, h1, h2, h3, h4.same rfl⟩
  · rcases h.keys with h0 | ⟨b, h1, h2, h4⟩
    · exact .inl h0
    · exact .inr ⟨b, h1, h2, h4.same rfl⟩

/-- A row of n elements of the call's own, some of which are written over. -/
def Spoil1 (wo : World) (n size : Nat) (a : Option Addr) (wr : World) : Prop :=
  Below wo.heap.size wo wr ∧ (n = 0 ∨ ∃ b, a = some ⟨b, 0, none⟩ ∧ wo.heap.size ≤ b ∧ Room wr b 0 (n * size))

end Go.Proofs.YtcahpjejpimdhaaGreatDoor
