/- What lies at a place in memory is one value; so no value lies within itself. No program in sight. -/
import Derived.Test.YtcahpjejpimdhaaGreatDoorRep
namespace Go.Proofs.YtcahpjejpimdhaaGreatDoor
open Go.RowKit

theorem StrsAt.inj {w : World} {lo hi lo' hi' : Nat} {a : Option Addr} {l m : List ByteArray} (hl : l.length = m.length) (h : StrsAt w lo hi a l) (h' : StrsAt w lo' hi' a m) : l = m := by
  rcases h with rfl | ⟨b, off, ha, _, _, hc⟩
  · exact (List.eq_nil_of_length_eq_zero (by rw [← hl]; rfl)).symm
  · rcases h' with rfl | ⟨b', off', ha', _, _, hc'⟩
    · exact List.eq_nil_of_length_eq_zero (by rw [hl]; rfl)
    · rw [ha] at ha'
      simp only [Option.some.injEq, Addr.mk.injEq, and_true] at ha'
      obtain ⟨rfl, rfl⟩ := ha'
      apply List.ext_getElem hl
      intro i h1 h2
      have e1 := hc i h1
      have e2 := hc' i h2
      rw [e1] at e2
      simpa using e2

mutual
theorem Rep.inj {w : World} {lo hi lo' hi' : Nat} : ∀ (v u : JV) (x : Value), Rep w lo hi v x → Rep w lo' hi' u x → v = u
  | .mk k n t ns xs, .mk k' n' t' ns' xs', x, h, h' => by
    unfold Rep at h h'
    obtain ⟨an, cn, ai, ci, hx, h1, h2, h3, h4⟩ := h
    obtain ⟨an', cn', ai', ci', hx', h1', h2', h3', h4'⟩ := h'
    rw [hx] at hx'
    simp only [Value.agg.injEq, Array.mk.injEq, List.cons.injEq, and_true, Value.int.injEq, true_and, Value.string.injEq, Value.slice.injEq] at hx'
    obtain ⟨rfl, rfl, rfl, ⟨rfl, e1, _⟩, rfl, e2, _⟩ := hx'
    have en := h3.inj e1 h3'
    subst en
    rcases h4 with rfl | ⟨b, off, ha, _, _, _, hr⟩
    · have : xs' = [] := List.eq_nil_of_length_eq_zero (by rw [← e2]; rfl)
      subst this; rfl
    · rcases h4' with rfl | ⟨b', off', ha', _, _, _, hr'⟩
      · have : xs = [] := List.eq_nil_of_length_eq_zero (by rw [e2]; rfl)
        subst this; rfl
      · rw [ha] at ha'
        simp only [Option.some.injEq, Addr.mk.injEq, and_true] at ha'
        obtain ⟨rfl, rfl⟩ := ha'
        rw [RepL.inj xs xs' b off e2 hr hr']
theorem RepL.inj {w : World} {lo hi lo' hi' : Nat} : ∀ (l m : List JV) (b off : Nat), l.length = m.length → RepL w lo hi l b off → RepL w lo' hi' m b off → l = m
  | [], m, _, _, hl, _, _ => (List.eq_nil_of_length_eq_zero (by rw [← hl]; rfl)).symm
  | v :: r, [], _, _, hl, _, _ => by simp at hl
  | v :: r, u :: s, b, off, hl, h, h' => by
    unfold RepL at h h'
    obtain ⟨⟨c0, c1, c2, c3, c4, e0, e1, e2, e3, e4, _, hv⟩, hr⟩ := h
    obtain ⟨⟨d0, d1, d2, d3, d4, f0, f1, f2, f3, f4, _, hu⟩, hs⟩ := h'
    rw [e0] at f0; rw [e1] at f1; rw [e2] at f2; rw [e3] at f3; rw [e4] at f4
    simp only [Option.some.injEq] at f0 f1 f2 f3 f4
    subst f0 f1 f2 f3 f4
    rw [Rep.inj v u _ hv hu, RepL.inj r s b (off + 5) (by simpa using hl) hr hs]
end

/-- A value at an address. -/
def VAt (w : World) (lo hi : Nat) (v : JV) (b o : Nat) : Prop := ∃ c0 c1 c2 c3 c4, w.cell? ⟨b, o, none⟩ = some c0 ∧ w.cell? ⟨b, o + 1, none⟩ = some c1 ∧ w.cell? ⟨b, o + 2, none⟩ = some c2 ∧ w.cell? ⟨b, o + 3, none⟩ = some c3 ∧ w.cell? ⟨b, o + 4, none⟩ = some c4 ∧ Rep w lo hi v (.agg #[c0, c1, c2, c3, c4])
theorem VAt.inj {w : World} {lo hi lo' hi' : Nat} {v u : JV} {b o : Nat} (h : VAt w lo hi v b o) (h' : VAt w lo' hi' u b o) : v = u := by
  obtain ⟨c0, c1, c2, c3, c4, e0, e1, e2, e3, e4, hv⟩ := h
  obtain ⟨d0, d1, d2, d3, d4, f0, f1, f2, f3, f4, hu⟩ := h'
  rw [e0] at f0; rw [e1] at f1; rw [e2] at f2; rw [e3] at f3; rw [e4] at f4
  simp only [Option.some.injEq] at f0 f1 f2 f3 f4
  subst f0 f1 f2 f3 f4
  exact Rep.inj v u _ hv hu

/-- A pointer to a value of more than so much, or nil. -/
def Above (w : World) (lo hi : Nat) (n : Nat) (p : Option Addr) : Prop := p = none ∨ ∃ b o v, p = some ⟨b, o, none⟩ ∧ VAt w lo hi v b o ∧ n < v.wt ∧ BlkU w lo b ∧ w.frozen? ⟨b, o, none⟩ = false

end Go.Proofs.YtcahpjejpimdhaaGreatDoor
