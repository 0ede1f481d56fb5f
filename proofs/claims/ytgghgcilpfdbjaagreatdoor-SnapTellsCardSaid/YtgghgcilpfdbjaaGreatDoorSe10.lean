/- The contracts of record.SameHashes, snap.SamePin, slices.EqualFunc and snap.Same in full: true just of what is equal in all parts. What a selection of the least member picks, plain: the next one of the sorted row. No program in sight. Texts of plain bytes may be, plain. No program in sight. Pins in a row as cells, hashes' slices and all: what is copied of it, and the copy as pins lie. -/
import Derived.Test.YtgghgcilpfdbjaaGreatDoorSe09
import Derived.Test.YtgghgcilpfdbjaaGreatDoorSe02
import Derived.Test.YtgghgcilpfdbjaaGreatDoorSe08
import Derived.Test.YtgghgcilpfdbjaaGreatDoorSe07
import Derived.Laws.RangeString
import Derived.Test.YtgghgcilpfdbjaaGreatDoorSe00
import Derived.Test.YtgghgcilpfdbjaaGreatDoorSe01

namespace Go.Proofs.YtgghgcilpfdbjaaGreatDoor
open Go.RowKit

/-- A call that tells whether two things are equal. -/
def TellsEq {T : Type} (x y : T) (w : World) (e : Ending) (w' : World) : Prop := ∃ b : Bool, e = .returned (.bool b) ∧ (b = true ↔ x = y) ∧ Below w.heap.size w w'

set_option maxHeartbeats 4000000 in
set_option maxRecDepth 100000 in
theorem recSameHashes (l m : List Key2) (a b : Option Addr) (c d : Nat) (w : World) (hA : KeysAt w 0 w.heap.size a l) (hB : KeysAt w 0 w.heap.size b m) (hl : l.length ≤ 9223372036854775807) (hm : m.length ≤ 9223372036854775807) :
    Calls Tryz.prog 78 #[.slice a l.length c, .slice b m.length d] w (TellsEq l m w) := by
  by_cases hn : l.length = m.length
  case neg =>
    have t1 : ((l.length : Int) != (m.length : Int)) = true := by rw [bne_iff_ne]; omega
    have t2 : (l.length != m.length) = true := by rw [bne_iff_ne]; omega
    go_enter Tryz.func78, Tryz.ntmps78
    go_wp2
    go_ret
    exact ⟨false, rfl, by simp; intro h; exact hn (by rw [h]), Below.refl _ _⟩
  have t1 : ((l.length : Int) != (m.length : Int)) = false := by rw [hn]; simp
  have t2 : (l.length != m.length) = false := by rw [hn]; simp
  have HA := Lib.hid hA
  have HBb := Lib.hid hB
  have HN := Lib.hid hn
  clear hA hB hn
  go_enter Tryz.func78, Tryz.ntmps78
  go_wp2
  go_loopw [5, 6, 14] (fun _ _ i wr => ∃ k : Nat, k ≤ l.length ∧ i = .int .i64 k ∧ l.take k = m.take k ∧ Below w.heap.size w wr) (fun _ _ i _ => l.length - (intOf i).toNat)
  case atStart => exact ⟨0, by omega, rfl, by simp, Below.refl _ _⟩
  case round =>
    obtain ⟨k, hk, rfl, hsf, hb⟩ := hrel
    have HSF := Lib.hid hsf
    have HB := Lib.hid hb
    clear hsf
    by_cases hlt : k < l.length
    · have hlm : k < m.length := by have := HN.out; omega
      obtain ⟨b1, o1, ha1, _, _, e0, e1⟩ := (HA.out.below hb (Nat.le_refl _) (Nat.le_refl _) hb.size).at k hlt
      obtain ⟨b2, o2, ha2, _, hbl2, y0, y1⟩ := (HBb.out.below hb (Nat.le_refl _) (Nat.le_refl _) hb.size).at k hlm
      subst ha1 ha2
      have HTK := Lib.hid (show l[k] = m[k] → l.take (k + 1) = m.take (k + 1) from fun h => by rw [List.take_succ_eq_append_getElem hlt, List.take_succ_eq_append_getElem hlm, HSF.out, h])
      have HNO := Lib.hid (show l[k] ≠ m[k] → l ≠ m from fun h e => h (by subst e; rfl))
      obtain ⟨p, hp⟩ : ∃ p, p = l[k] := ⟨_, rfl⟩
      obtain ⟨q, hq⟩ : ∃ q, q = m[k] := ⟨_, rfl⟩
      rw [← hp] at e0 e1
      rw [← hq] at y0 y1
      rw [← hp, ← hq] at HTK HNO
      clear hp hq
      obtain ⟨s0, s1⟩ := p
      obtain ⟨u0, u1⟩ := q
      dsimp only at e0 e1 y0 y1
      obtain ⟨W2, hW2⟩ : ∃ W2, W2 = wr.alloc (.cells #[.string s0, .string s1] 62) := ⟨_, rfl⟩
      have hb2 : Below wr.heap.size wr W2 := by rw [hW2]; exact (Below.refl _ _).alloc (Nat.le_refl _) _
      have hx2 : W2.heap[wr.heap.size]? = some (.cells #[.string s0, .string s1] 62 (0, 0)) := by rw [hW2]; exact heap_alloc_new wr _
      have g0 : W2.cell? ⟨wr.heap.size, 0, none⟩ = some (.string s0) := box_cell hx2 rfl
      have g1 : W2.cell? ⟨wr.heap.size, 1, none⟩ = some (.string s1) := box_cell hx2 rfl
      have z0 : W2.cell? ⟨b2, o2 + k * 2, none⟩ = some (.string u0) := by rw [hb2.cell hbl2]; exact y0
      have z1 : W2.cell? ⟨b2, o2 + k * 2 + 1, none⟩ = some (.string u1) := by rw [hb2.cell hbl2]; exact y1
      have HB2 := Lib.hid (HB.out.trans (hb2.mono HB.out.size))
      have HW2 := Lib.hid hW2
      clear hb hb2 hx2 hW2 y0 y1 hbl2
      by_cases h0 : s0 = u0
      · have r0 : (s0.toList == u0.toList) = true := by rw [h0]; simp
        have HS0 := Lib.hid h0
        clear h0
        by_cases h1 : s1 = u1
        · have r1 : (s1.toList == u1.toList) = true := by rw [h1]; simp
          have HS1 := Lib.hid h1
          clear h1
          go_upto_region 6 with fail
          rw [← HW2.out]
          clear e0 e1
          go_quiet (fail)
          go_wp2
          go_roundw
          case rel => exact ⟨k + 1, by omega, by go_num, HTK.out (by rw [HS0.out, HS1.out]), Below.drewN HB2.out _⟩
          case measure => simp [intOf]; omega
        · have r1 : (s1.toList == u1.toList) = false := beq_eq_false_iff_ne.2 (fun e => h1 (ba_ext2 e))
          have HS1 := Lib.hid h1
          clear h1
          go_upto_region 6 with fail
          rw [← HW2.out]
          clear e0 e1
          go_quiet (fail)
          go_wp2
          go_ret
          exact ⟨false, rfl, by simp; exact HNO.out (fun e => HS1.out (by injection e)), Below.drewN HB2.out _⟩
      · have r0 : (s0.toList == u0.toList) = false := beq_eq_false_iff_ne.2 (fun e => h0 (ba_ext2 e))
        have HS0 := Lib.hid h0
        clear h0
        go_upto_region 6 with fail
        rw [← HW2.out]
        clear e0 e1
        go_quiet (fail)
        go_wp2
        go_ret
        exact ⟨false, rfl, by simp; exact HNO.out (fun e => HS0.out (by injection e)), Below.drewN HB2.out _⟩
    · obtain rfl : k = l.length := by omega
      clear hb
      go_wp2
      go_ret
      exact ⟨true, rfl, by simp; have := HSF.out; rwa [List.take_length, HN.out, List.take_length] at this, HB.out⟩

set_option maxHeartbeats 4000000 in
set_option maxRecDepth 100000 in
theorem snapSamePin (nm : ByteArray) (vr ln : Int) (hs : List Key2) (nm2 : ByteArray) (vr2 ln2 : Int) (hs2 : List Key2) (a b : Option Addr) (c d : Nat) (w : World) (hA : KeysAt w 0 w.heap.size a hs) (hB : KeysAt w 0 w.heap.size b hs2) (hl : hs.length ≤ 9223372036854775807) (hm : hs2.length ≤ 9223372036854775807) :
    Calls Tryz.prog 33 #[.agg #[.string nm, .int .i64 vr, .int .i64 ln, .slice a hs.length c], .agg #[.string nm2, .int .i64 vr2, .int .i64 ln2, .slice b hs2.length d]] w (TellsEq (PinV.mk nm vr ln hs) ⟨nm2, vr2, ln2, hs2⟩ w) := by
  obtain ⟨W2, hW2⟩ : ∃ W2, W2 = (w.alloc (.cells #[.string nm, .int .i64 vr, .int .i64 ln, .slice a hs.length c] 36)).alloc (.cells #[.string nm2, .int .i64 vr2, .int .i64 ln2, .slice b hs2.length d] 36) := ⟨_, rfl⟩
  have hb2 : Below w.heap.size w W2 := by rw [hW2]; exact ((Below.refl _ _).alloc (Nat.le_refl _) _).alloc (by simp) _
  have hx : W2.heap[w.heap.size]? = some (.cells #[.string nm, .int .i64 vr, .int .i64 ln, .slice a hs.length c] 36 (0, 0)) := by rw [hW2, Below.heap_alloc _ _ _ (by simp)]; exact heap_alloc_new w _
  have hy : W2.heap[w.heap.size + 1]? = some (.cells #[.string nm2, .int .i64 vr2, .int .i64 ln2, .slice b hs2.length d] 36 (0, 0)) := by
    have := heap_alloc_new (w.alloc (.cells #[.string nm, .int .i64 vr, .int .i64 ln, .slice a hs.length c] 36)) (.cells #[.string nm2, .int .i64 vr2, .int .i64 ln2, .slice b hs2.length d] 36)
    rw [show (w.alloc (.cells #[.string nm, .int .i64 vr, .int .i64 ln, .slice a hs.length c] 36)).heap.size = w.heap.size + 1 by simp, ← hW2] at this
    exact this
  have v0 : W2.cell? ⟨w.heap.size, 0, none⟩ = some (.string nm) := box_cell hx rfl
  have v1 : W2.cell? ⟨w.heap.size, 1, none⟩ = some (.int .i64 vr) := box_cell hx rfl
  have v2 : W2.cell? ⟨w.heap.size, 2, none⟩ = some (.int .i64 ln) := box_cell hx rfl
  have v3 : W2.cell? ⟨w.heap.size, 3, none⟩ = some (.slice a hs.length c) := box_cell hx rfl
  have u0 : W2.cell? ⟨w.heap.size + 1, 0, none⟩ = some (.string nm2) := box_cell hy rfl
  have u1 : W2.cell? ⟨w.heap.size + 1, 1, none⟩ = some (.int .i64 vr2) := box_cell hy rfl
  have u2 : W2.cell? ⟨w.heap.size + 1, 2, none⟩ = some (.int .i64 ln2) := box_cell hy rfl
  have u3 : W2.cell? ⟨w.heap.size + 1, 3, none⟩ = some (.slice b hs2.length d) := box_cell hy rfl
  have HS := Lib.hid (recSameHashes hs hs2 a b c d W2 (hA.below hb2 (Nat.le_refl _) (Nat.le_refl _) hb2.size) (hB.below hb2 (Nat.le_refl _) (Nat.le_refl _) hb2.size) hl hm)
  have HB := Lib.hid hb2
  have HW := Lib.hid hW2
  clear hb2 hW2 hx hy hA hB
  by_cases h0 : nm = nm2
  case neg =>
    have r0 : (nm.toList == nm2.toList) = false := beq_eq_false_iff_ne.2 (fun e => h0 (ba_ext2 e))
    have HNE := Lib.hid h0
    clear h0
    go_enter Tryz.func33, Tryz.ntmps33
    go_upto_region 1 with fail
    rw [← HW.out]
    go_wp2
    go_ret
    exact ⟨false, rfl, by simp; intro e; exact absurd e HNE.out, HB.out⟩
  have r0 : (nm.toList == nm2.toList) = true := by rw [h0]; simp
  have HE0 := Lib.hid h0
  clear h0
  by_cases h1 : vr = vr2
  case neg =>
    have r1 : (vr == vr2) = false := by simpa using h1
    have HNE := Lib.hid h1
    clear h1
    go_enter Tryz.func33, Tryz.ntmps33
    go_upto_region 1 with fail
    rw [← HW.out]
    go_wp2
    go_ret
    exact ⟨false, rfl, by simp; intros; first | (exact absurd ‹_› HNE.out) | (exact HNE.out ‹_›), HB.out⟩
  have r1 : (vr == vr2) = true := by simpa using h1
  have HE1 := Lib.hid h1
  clear h1
  by_cases h2 : ln = ln2
  case neg =>
    have r2 : (ln == ln2) = false := by simpa using h2
    have HNE := Lib.hid h2
    clear h2
    go_enter Tryz.func33, Tryz.ntmps33
    go_upto_region 1 with fail
    rw [← HW.out]
    go_wp2
    go_ret
    exact ⟨false, rfl, by simp; intros; first | (exact absurd ‹_› HNE.out) | (exact HNE.out ‹_›), HB.out⟩
  have r2 : (ln == ln2) = true := by simpa using h2
  have HE2 := Lib.hid h2
  clear h2
  go_enter Tryz.func33, Tryz.ntmps33
  go_upto_region 1 with fail
  rw [← HW.out]
  go_wp2_with fail
  refine HS.out.mono ?_
  rintro e w3 ⟨bb, rfl, hiff, hb3⟩
  have HB3 := Lib.hid (HB.out.trans (hb3.mono HB.out.size))
  clear hb3
  cases bb with
  | true =>
    have HIF := Lib.hid (hiff.1 rfl)
    clear hiff
    go_wp2
    go_ret
    exact ⟨true, rfl, ⟨fun _ => by rw [HE0.out, HE1.out, HE2.out, HIF.out], fun _ => rfl⟩, HB3.out⟩
  | false =>
    have HIF := Lib.hid (show hs ≠ hs2 from fun h => Bool.noConfusion (hiff.2 h))
    clear hiff
    go_wp2
    go_ret
    exact ⟨false, rfl, ⟨fun h => Bool.noConfusion h, fun e => by injection e with _ _ _ e4; exact absurd e4 HIF.out⟩, HB3.out⟩

set_option maxHeartbeats 4000000 in
set_option maxRecDepth 100000 in
theorem equalPins (l m : List PinV) (a b : Option Addr) (c d : Nat) (w : World) (hA : PinsAt w 0 w.heap.size a l) (hB : PinsAt w 0 w.heap.size b m) (hfl : ∀ p ∈ l, PinFits p) (hfm : ∀ p ∈ m, PinFits p) (hl : l.length ≤ 9223372036854775807) (hm : m.length ≤ 9223372036854775807) :
    Calls Tryz.prog 55 #[.slice a l.length c, .slice b m.length d, .func (.func 33) #[] #[]] w (TellsEq l m w) := by
  by_cases hn : l.length = m.length
  case neg =>
    have t1 : ((l.length : Int) != (m.length : Int)) = true := by rw [bne_iff_ne]; omega
    have t2 : (l.length != m.length) = true := by rw [bne_iff_ne]; omega
    go_enter Tryz.func55, Tryz.ntmps55
    go_wp2
    go_ret
    exact ⟨false, rfl, by simp; intro h; exact hn (by rw [h]), Below.refl _ _⟩
  have t1 : ((l.length : Int) != (m.length : Int)) = false := by rw [hn]; simp
  have t2 : (l.length != m.length) = false := by rw [hn]; simp
  have HA := Lib.hid hA
  have HBb := Lib.hid hB
  have HN := Lib.hid hn
  have HFL := Lib.hid hfl
  have HFM := Lib.hid hfm
  clear hA hB hn hfl hfm
  go_enter Tryz.func55, Tryz.ntmps55
  go_wp2
  go_loopw [7, 8, 9, 17] (fun _ _ _ i wr => ∃ k : Nat, k ≤ l.length ∧ i = .int .i64 k ∧ l.take k = m.take k ∧ Below w.heap.size w wr) (fun _ _ _ i _ => l.length - (intOf i).toNat)
  case atStart => exact ⟨0, by omega, rfl, by simp, Below.refl _ _⟩
  case round =>
    obtain ⟨k, hk, rfl, hsf, hb⟩ := hrel
    have HSF := Lib.hid hsf
    have HB := Lib.hid hb
    clear hsf
    by_cases hlt : k < l.length
    · have hlm : k < m.length := by have := HN.out; omega
      obtain ⟨b1, o1, ha1, _, hbl1, e0, e1, e2, hh, hc, e3, _, hk1⟩ := (HA.out.below hb (Nat.le_refl _) (Nat.le_refl _) hb.size).at k hlt
      obtain ⟨b2, o2, ha2, _, hbl2, y0, y1, y2, gh, gc, y3, _, hk2⟩ := (HBb.out.below hb (Nat.le_refl _) (Nat.le_refl _) hb.size).at k hlm
      subst ha1 ha2
      have HTK := Lib.hid (show l[k] = m[k] → l.take (k + 1) = m.take (k + 1) from fun h => by rw [List.take_succ_eq_append_getElem hlt, List.take_succ_eq_append_getElem hlm, HSF.out, h])
      have HNO := Lib.hid (show l[k] ≠ m[k] → l ≠ m from fun h e => h (by subst e; rfl))
      have HF1 := Lib.hid (HFL.out l[k] (List.getElem_mem hlt))
      have HF2 := Lib.hid (HFM.out m[k] (List.getElem_mem hlm))
      obtain ⟨p, hp⟩ : ∃ p, p = l[k] := ⟨_, rfl⟩
      obtain ⟨q, hq⟩ : ∃ q, q = m[k] := ⟨_, rfl⟩
      rw [← hp] at e0 e1 e2 e3 hk1 HF1
      rw [← hq] at y0 y1 y2 y3 hk2 HF2
      rw [← hp, ← hq] at HTK HNO
      clear hp hq
      obtain ⟨nm, vr, ln, hs⟩ := p
      obtain ⟨nm2, vr2, ln2, hs2⟩ := q
      dsimp only at e0 e1 e2 e3 hk1 y0 y1 y2 y3 hk2
      obtain ⟨W2, hW2⟩ : ∃ W2, W2 = wr.alloc (.cells #[.string nm, .int .i64 vr, .int .i64 ln, .slice hh hs.length hc] 36) := ⟨_, rfl⟩
      have hb2 : Below wr.heap.size wr W2 := by rw [hW2]; exact (Below.refl _ _).alloc (Nat.le_refl _) _
      have hx2 : W2.heap[wr.heap.size]? = some (.cells #[.string nm, .int .i64 vr, .int .i64 ln, .slice hh hs.length hc] 36 (0, 0)) := by rw [hW2]; exact heap_alloc_new wr _
      have hz2 : W2.heap.size = wr.heap.size + 1 := by rw [hW2]; simp
      have z0 : W2.cell? ⟨b2, o2 + k * 4, none⟩ = some (.string nm2) := by rw [hb2.cell hbl2]; exact y0
      have z1 : W2.cell? ⟨b2, o2 + k * 4 + 1, none⟩ = some (.int .i64 vr2) := by rw [hb2.cell hbl2]; exact y1
      have z2 : W2.cell? ⟨b2, o2 + k * 4 + 2, none⟩ = some (.int .i64 ln2) := by rw [hb2.cell hbl2]; exact y2
      have z3 : W2.cell? ⟨b2, o2 + k * 4 + 3, none⟩ = some (.slice gh hs2.length gc) := by rw [hb2.cell hbl2]; exact y3
      obtain ⟨W3, hW3⟩ : ∃ W3, W3 = W2.alloc (.cells #[.string nm2, .int .i64 vr2, .int .i64 ln2, .slice gh hs2.length gc] 36) := ⟨_, rfl⟩
      have hb3 : Below W2.heap.size W2 W3 := by rw [hW3]; exact (Below.refl _ _).alloc (Nat.le_refl _) _
      have hx3 : W3.heap[W2.heap.size]? = some (.cells #[.string nm2, .int .i64 vr2, .int .i64 ln2, .slice gh hs2.length gc] 36 (0, 0)) := by rw [hW3]; exact heap_alloc_new W2 _
      have hx2' := (hb3.block _ (heap_lt hx2)).trans hx2
      rw [hz2] at hx3
      have hb13 : Below wr.heap.size wr W3 := hb2.trans (hb3.mono hb2.size)
      have HSP := Lib.hid (snapSamePin nm vr ln hs nm2 vr2 ln2 hs2 hh gh hc gc W3 (hk1.below hb13 (Nat.le_refl _) (Nat.le_refl _) hb13.size) (hk2.below hb13 (Nat.le_refl _) (Nat.le_refl _) hb13.size) HF1.out.2.2.2.1 HF2.out.2.2.2.1)
      have HW2 := Lib.hid hW2
      have HW3 := Lib.hid hW3
      have HB3 := Lib.hid (HB.out.trans (hb13.mono HB.out.size))
      have HX2 := Lib.hid hx2'
      have HX3 := Lib.hid hx3
      clear y0 y1 y2 y3 hb hb2 hb3 hb13 hx2 hx2' hx3 hW2 hW3 hbl1 hbl2 hk1 hk2
      go_upto_region 6 with fail
      rw [← HW2.out]
      clear e0 e1 e2 e3
      go_upto_region 7 with fail
      rw [← HW3.out]
      clear z0 z1 z2 z3
      have g0 : W3.cell? ⟨wr.heap.size, 0, none⟩ = some (.string nm) := box_cell HX2.out rfl
      have g1 : W3.cell? ⟨wr.heap.size, 1, none⟩ = some (.int .i64 vr) := box_cell HX2.out rfl
      have g2 : W3.cell? ⟨wr.heap.size, 2, none⟩ = some (.int .i64 ln) := box_cell HX2.out rfl
      have g3 : W3.cell? ⟨wr.heap.size, 3, none⟩ = some (.slice hh hs.length hc) := box_cell HX2.out rfl
      have f0 : W3.cell? ⟨wr.heap.size + 1, 0, none⟩ = some (.string nm2) := box_cell HX3.out rfl
      have f1 : W3.cell? ⟨wr.heap.size + 1, 1, none⟩ = some (.int .i64 vr2) := box_cell HX3.out rfl
      have f2 : W3.cell? ⟨wr.heap.size + 1, 2, none⟩ = some (.int .i64 ln2) := box_cell HX3.out rfl
      have f3 : W3.cell? ⟨wr.heap.size + 1, 3, none⟩ = some (.slice gh hs2.length gc) := box_cell HX3.out rfl
      go_wp2_with fail
      refine HSP.out.mono ?_
      clear HSP g0 g1 g2 g3 f0 f1 f2 f3
      rintro e w5 ⟨bb, rfl, hiff, hb5⟩
      have HB5 := Lib.hid (HB3.out.trans (hb5.mono HB3.out.size))
      clear hb5
      cases bb with
      | true =>
        have HIF := Lib.hid (HTK.out (hiff.1 rfl))
        clear hiff
        go_wp2
        go_roundw
        case rel => exact ⟨k + 1, by omega, by go_num, HIF.out, HB5.out⟩
        case measure => simp [intOf]; omega
      | false =>
        have HIF := Lib.hid (HNO.out (fun h => Bool.noConfusion (hiff.2 h)))
        clear hiff
        go_wp2
        go_ret
        exact ⟨false, rfl, ⟨fun h => Bool.noConfusion h, fun e => absurd e HIF.out⟩, HB5.out⟩
    · obtain rfl : k = l.length := by omega
      clear hb
      go_wp2
      go_ret
      exact ⟨true, rfl, ⟨fun _ => by have := HSF.out; rwa [List.take_length, HN.out, List.take_length] at this, fun _ => rfl⟩, HB.out⟩

set_option maxHeartbeats 4000000 in
set_option maxRecDepth 100000 in
theorem snapSame (v e : Int) (l : List PinV) (vv e2 : Int) (m : List PinV) (a b : Option Addr) (c d : Nat) (w : World) (hA : PinsAt w 0 w.heap.size a l) (hB : PinsAt w 0 w.heap.size b m) (hfl : ∀ p ∈ l, PinFits p) (hfm : ∀ p ∈ m, PinFits p) (hl : l.length ≤ 9223372036854775807) (hm : m.length ≤ 9223372036854775807) :
    Calls Tryz.prog 23 #[.agg #[.int .i64 v, .int .i64 e, .slice a l.length c], .agg #[.int .i64 vv, .int .i64 e2, .slice b m.length d]] w (TellsEq (SnapV.mk v e l) ⟨vv, e2, m⟩ w) := by
  obtain ⟨W2, hW2⟩ : ∃ W2, W2 = (w.alloc (.cells #[.int .i64 v, .int .i64 e, .slice a l.length c] 24)).alloc (.cells #[.int .i64 vv, .int .i64 e2, .slice b m.length d] 24) := ⟨_, rfl⟩
  have hb2 : Below w.heap.size w W2 := by rw [hW2]; exact ((Below.refl _ _).alloc (Nat.le_refl _) _).alloc (by simp) _
  have hx : W2.heap[w.heap.size]? = some (.cells #[.int .i64 v, .int .i64 e, .slice a l.length c] 24 (0, 0)) := by rw [hW2, Below.heap_alloc _ _ _ (by simp)]; exact heap_alloc_new w _
  have hy : W2.heap[w.heap.size + 1]? = some (.cells #[.int .i64 vv, .int .i64 e2, .slice b m.length d] 24 (0, 0)) := by
    have := heap_alloc_new (w.alloc (.cells #[.int .i64 v, .int .i64 e, .slice a l.length c] 24)) (.cells #[.int .i64 vv, .int .i64 e2, .slice b m.length d] 24)
    rw [show (w.alloc (.cells #[.int .i64 v, .int .i64 e, .slice a l.length c] 24)).heap.size = w.heap.size + 1 by simp, ← hW2] at this
    exact this
  have v0 : W2.cell? ⟨w.heap.size, 0, none⟩ = some (.int .i64 v) := box_cell hx rfl
  have v1 : W2.cell? ⟨w.heap.size, 1, none⟩ = some (.int .i64 e) := box_cell hx rfl
  have v2 : W2.cell? ⟨w.heap.size, 2, none⟩ = some (.slice a l.length c) := box_cell hx rfl
  have u0 : W2.cell? ⟨w.heap.size + 1, 0, none⟩ = some (.int .i64 vv) := box_cell hy rfl
  have u1 : W2.cell? ⟨w.heap.size + 1, 1, none⟩ = some (.int .i64 e2) := box_cell hy rfl
  have u2 : W2.cell? ⟨w.heap.size + 1, 2, none⟩ = some (.slice b m.length d) := box_cell hy rfl
  have HS := Lib.hid (equalPins l m a b c d W2 (hA.below hb2 (Nat.le_refl _) (Nat.le_refl _) hb2.size) (hB.below hb2 (Nat.le_refl _) (Nat.le_refl _) hb2.size) hfl hfm hl hm)
  have HB := Lib.hid hb2
  have HW := Lib.hid hW2
  clear hb2 hW2 hx hy hA hB hfl hfm
  by_cases h0 : v = vv
  case neg =>
    have r1 : (v == vv) = false := by simpa using h0
    have HNE := Lib.hid h0
    clear h0
    go_enter Tryz.func23, Tryz.ntmps23
    go_upto_region 1 with fail
    rw [← HW.out]
    go_wp2
    go_ret
    exact ⟨false, rfl, by simp; intros; first | (exact absurd ‹_› HNE.out) | (exact HNE.out ‹_›), HB.out⟩
  have r1 : (v == vv) = true := by simpa using h0
  have HE0 := Lib.hid h0
  clear h0
  by_cases h1 : e = e2
  case neg =>
    have r2 : (e == e2) = false := by simpa using h1
    have HNE := Lib.hid h1
    clear h1
    go_enter Tryz.func23, Tryz.ntmps23
    go_upto_region 1 with fail
    rw [← HW.out]
    go_wp2
    go_ret
    exact ⟨false, rfl, by simp; intros; first | (exact absurd ‹_› HNE.out) | (exact HNE.out ‹_›), HB.out⟩
  have r2 : (e == e2) = true := by simpa using h1
  have HE1 := Lib.hid h1
  clear h1
  go_enter Tryz.func23, Tryz.ntmps23
  go_upto_region 1 with fail
  rw [← HW.out]
  go_wp2_with fail
  refine HS.out.mono ?_
  rintro r w3 ⟨bb, rfl, hiff, hb3⟩
  have HB3 := Lib.hid (HB.out.trans (hb3.mono HB.out.size))
  clear hb3
  cases bb with
  | true =>
    have HIF := Lib.hid (hiff.1 rfl)
    clear hiff
    go_wp2
    go_ret
    exact ⟨true, rfl, ⟨fun _ => by rw [HE0.out, HE1.out, HIF.out], fun _ => rfl⟩, HB3.out⟩
  | false =>
    have HIF := Lib.hid (show l ≠ m from fun h => Bool.noConfusion (hiff.2 h))
    clear hiff
    go_wp2
    go_ret
    exact ⟨false, rfl, ⟨fun h => Bool.noConfusion h, fun e => by injection e with _ _ e4; exact absurd e4 HIF.out⟩, HB3.out⟩
end Go.Proofs.YtgghgcilpfdbjaaGreatDoor

namespace Go.Proofs.YtgghgcilpfdbjaaGreatDoor
open Go.RowKit

theorem pick_least {α : Type} (nm : α → ByteArray) {s : List α} (hs : ∀ i j (hi : i < s.length) (hj : j < s.length), i < j → Op.bytesLess (nm s[i]).toList (nm s[j]).toList = true)
    (k : Nat) (hk : k < s.length) (m : α) (hm : m ∈ s) (hgt : k = 0 ∨ Op.bytesLess (nm s[k-1]).toList (nm m).toList = true)
    (hle : ∀ x ∈ s, (k = 0 ∨ Op.bytesLess (nm s[k-1]).toList (nm x).toList = true) → Op.bytesLess (nm x).toList (nm m).toList = false) : m = s[k] := by
  obtain ⟨j, hj, rfl⟩ := List.getElem_of_mem hm
  rcases Nat.lt_trichotomy j k with h | h | h
  · exfalso
    rcases hgt with h0 | hg
    · omega
    · by_cases he : j = k - 1
      · subst he; rw [less_irrefl] at hg; cases hg
      · have h1 := hs j (k - 1) hj (by omega) (by omega)
        have h2 := less_trans _ _ _ h1 hg
        rw [less_irrefl] at h2; cases h2
  · subst h; rfl
  · exfalso
    have h1 := hs k j hk hj h
    have h2 := hle s[k] (List.getElem_mem hk) (by
      by_cases h0 : k = 0
      · exact .inl h0
      · exact .inr (hs (k - 1) k (by omega) hk (by omega)))
    rw [h1] at h2; cases h2
/-- There is a member left to pick. -/
theorem pick_some {α : Type} (nm : α → ByteArray) {s : List α} (hs : ∀ i j (hi : i < s.length) (hj : j < s.length), i < j → Op.bytesLess (nm s[i]).toList (nm s[j]).toList = true)
    (k : Nat) (hk : k < s.length) : ∃ x ∈ s, k = 0 ∨ Op.bytesLess (nm s[k-1]).toList (nm x).toList = true := by
  refine ⟨s[k], List.getElem_mem hk, ?_⟩
  by_cases h0 : k = 0
  · exact .inl h0
  · exact .inr (hs (k - 1) k (by omega) hk (by omega))
end Go.Proofs.YtgghgcilpfdbjaaGreatDoor

namespace Go.Proofs.YtgghgcilpfdbjaaGreatDoor
open Go.RowKit

theorem utfOk_ascii (s : ByteArray) (h : ∀ k (hk : k < s.size), s[k].toNat < 128) : ∀ f pos, utfOk s f pos = true
  | 0, _ => rfl
  | f + 1, pos => by
    unfold utfOk
    split
    · next hp =>
      have hd := decode_ascii s pos hp (h pos hp)
      have : utfBad s pos = false := by
        unfold utfBad; rw [hd]
        have := h pos hp
        have e : ((s[pos].toNat, 1) : Nat × Nat).1 = s[pos].toNat := rfl
        rw [e, beq_eq_false_iff_ne.2 (by omega)]; rfl
      rw [this]
      exact utfOk_ascii s h f _
    · rfl
theorem utfV_ascii (s : ByteArray) (h : ∀ c ∈ s.data.toList, c.toNat < 128) : utfV s = true :=
  utfOk_ascii s (fun k hk => by rw [← toList_get s k hk]; exact h _ (List.getElem_mem _)) _ _

/-- A byte that stands for itself. -/
def plainC (c : UInt8) : Prop := c.toNat < 128 ∧ c.toNat ≠ 34 ∧ c.toNat ≠ 92
theorem plain_hex {c : UInt8} (h : isHex c = true) : plainC c := by
  unfold isHex at h; unfold plainC; simp at h; omega
theorem plain_name {c : UInt8} (h : nameC c = true) : plainC c := by
  unfold nameC at h; unfold plainC; simp at h; omega
theorem role_plain {l : List UInt8} (h : roleOk l = true) : (∀ c ∈ l, plainC c) ∧ 1 ≤ l.length ∧ l.length ≤ 64 := by
  unfold roleOk at h
  simp only [Bool.and_eq_true, decide_eq_true_eq] at h
  exact ⟨fun c hc => plain_name (List.all_eq_true.1 h.2 c hc), h.1.1⟩
theorem pub_plain {l : List UInt8} (h : pubOk l = true) : (∀ c ∈ l, plainC c) ∧ 2 ≤ l.length ∧ l.length ≤ 128 := by
  unfold pubOk allHex at h
  simp only [Bool.and_eq_true, decide_eq_true_eq] at h
  exact ⟨fun c hc => plain_hex (List.all_eq_true.1 h.2 c hc), h.1.1, h.1.2.1⟩
theorem txtOk_plain {s : ByteArray} (h : ∀ c ∈ s.data.toList, plainC c) (hl : s.size ≤ 4096) : txtOk s = true := by
  unfold txtOk; rw [utfV_ascii s fun c hc => (h c hc).1]; simpa using hl
theorem role_txt {s : ByteArray} (h : roleOk s.data.toList = true) : txtOk s = true := by
  have h3 := role_plain h
  rw [toList_length] at h3
  exact txtOk_plain h3.1 (by omega)
theorem pub_txt {s : ByteArray} (h : pubOk s.data.toList = true) : txtOk s = true := by
  have h3 := pub_plain h
  rw [toList_length] at h3
  exact txtOk_plain h3.1 (by omega)
end Go.Proofs.YtgghgcilpfdbjaaGreatDoor

namespace Go.Proofs.YtgghgcilpfdbjaaGreatDoor
open Go.RowKit

abbrev PinC := PinV × Option Addr × Nat
def encQ (q : PinC) : List Value := [.string q.1.name, .int .i64 q.1.ver, .int .i64 q.1.len, .slice q.2.1 q.1.hs.length q.2.2]
theorem encQ_len (q : PinC) : (encQ q).length = 4 := rfl
theorem flatQ_len (L : List PinC) : (L.flatMap encQ).length = L.length * 4 := by
  induction L with
  | nil => rfl
  | cons v r ih => rw [List.flatMap_cons, List.length_append, ih, encQ_len]; simp; omega
theorem flatQ_get (L : List PinC) (i c : Nat) (hi : i < L.length) (hc : c < 4) : (L.flatMap encQ)[i * 4 + c]? = some ((encQ L[i])[c]'(by rw [encQ_len]; exact hc)) := by
  induction L generalizing i with
  | nil => simp at hi
  | cons v r ih =>
    rw [List.flatMap_cons]
    rcases i with _ | i
    · rw [List.getElem?_append_left (by rw [encQ_len]; omega)]
      simp
    · rw [List.getElem?_append_right (by rw [encQ_len]; omega), encQ_len]
      have := ih i (by simpa using hi)
      rw [show (i + 1) * 4 + c - 4 = i * 4 + c by omega]
      simpa using this
theorem encQ_one (L : List PinC) : ∀ v ∈ L.flatMap encQ, v.oneCell' = true := by
  intro v hv
  obtain ⟨q, _, hq⟩ := List.mem_flatMap.1 hv
  simp only [encQ, List.mem_cons, List.not_mem_nil, or_false] at hq
  rcases hq with rfl | rfl | rfl | rfl <;> rfl
def HashOk (w : World) (hi : Nat) (q : PinC) : Prop := q.1.hs.length ≤ q.2.2 ∧ KeysAt w 0 hi q.2.1 q.1.hs
/-- The cells of a row of pins. -/
def CellsQ (w : World) (a : Option Addr) (L : List PinC) : Prop := L = [] ∨ ∃ b off, a = some ⟨b, off, none⟩ ∧ b < w.heap.size ∧ ∀ j u, (L.flatMap encQ)[j]? = some u → w.cell? ⟨b, off + j, none⟩ = some u
theorem pins_cells {w : World} {hi : Nat} {a : Option Addr} {l : List PinV} (h : PinsAt w 0 hi a l) (hhi : hi ≤ w.heap.size) : ∃ L : List PinC, L.map (·.1) = l ∧ (∀ q ∈ L, HashOk w hi q) ∧ CellsQ w a L := by
  rcases h with h | ⟨b, off, ha, hb, hb', hr⟩
  · subst h; exact ⟨[], rfl, by simp, .inl rfl⟩
  · obtain ⟨Z, hZ, hz⟩ := choose_list (p := fun i (z : Option Addr × Nat) => ∀ (h : i < l.length), w.cell? ⟨b, off + i * 4 + 3, none⟩ = some (.slice z.1 l[i].hs.length z.2) ∧ l[i].hs.length ≤ z.2 ∧ KeysAt w 0 hi z.1 l[i].hs) l.length (fun i hi => by
      obtain ⟨_, _, _, ha, hc, c3, h1, h2⟩ := hr i hi
      exact ⟨(ha, hc), fun _ => ⟨c3, h1, h2⟩⟩)
    have hlen : (l.zip Z).length = l.length := by simp [hZ]
    have hat : ∀ i (h : i < (l.zip Z).length), (l.zip Z)[i] = (l[i]'(by omega), Z[i]'(by omega)) := fun i h => by simp
    refine ⟨l.zip Z, ?_, fun q hq => ?_, .inr ⟨b, off, ha, by omega, fun j u hj => ?_⟩⟩
    · rw [List.map_fst_zip]; omega
    · obtain ⟨i, hi2, rfl⟩ := List.getElem_of_mem hq
      rw [hat i hi2]
      exact (hz i (by omega) (by omega)).2
    · obtain ⟨hjl, _⟩ := List.getElem?_eq_some_iff.1 hj
      rw [flatQ_len, hlen] at hjl
      have hi2 : j / 4 < (l.zip Z).length := by omega
      have hg := flatQ_get (l.zip Z) (j / 4) (j % 4) hi2 (Nat.mod_lt _ (by decide))
      rw [show j / 4 * 4 + j % 4 = j by omega] at hg
      rw [hg] at hj
      cases hj
      obtain ⟨c0, c1, c2, _, _, _, _, _⟩ := hr (j / 4) (by omega)
      have c3 := (hz (j / 4) (by omega) (by omega)).1
      have hm : j % 4 = 0 ∨ j % 4 = 1 ∨ j % 4 = 2 ∨ j % 4 = 3 := by omega
      have e := hat (j / 4) hi2
      rcases hm with hm | hm | hm | hm
      · rw [show off + j = off + j / 4 * 4 by omega, c0]; simp only [hm, e, encQ]; rfl
      · rw [show off + j = off + j / 4 * 4 + 1 by omega, c1]; simp only [hm, e, encQ]; rfl
      · rw [show off + j = off + j / 4 * 4 + 2 by omega, c2]; simp only [hm, e, encQ]; rfl
      · rw [show off + j = off + j / 4 * 4 + 3 by omega, c3]; simp only [hm, e, encQ]; rfl
theorem CellsQ.below {w w' : World} {a : Option Addr} {L : List PinC} (h : CellsQ w a L) (hb : Below w.heap.size w w') : CellsQ w' a L := by
  rcases h with h | ⟨b, off, ha, hb', hr⟩
  · exact .inl h
  · exact .inr ⟨b, off, ha, Nat.lt_of_lt_of_le hb' hb.size, fun j u hj => by rw [hb.cell hb']; exact hr j u hj⟩
theorem flatQ_split (L : List PinC) (i : Nat) : L.flatMap encQ = (L.take i).flatMap encQ ++ (L.drop i).flatMap encQ := by rw [← List.flatMap_append, List.take_append_drop]
/-- What is appended: the whole row, its head, its tail. -/
theorem CellsQ.news {w : World} {a : Option Addr} {L : List PinC} (h : CellsQ w a L) : 0 < L.length → ∃ ad, a = some ad ∧ ∀ j u, (L.flatMap encQ)[j]? = some u → w.cell? (ad.add j) = some u := fun h0 => by
  rcases h with h | ⟨b, off, ha, _, hr⟩
  · subst h; simp at h0
  · refine ⟨_, ha, fun j u hj => ?_⟩
    rw [show (⟨b, off, none⟩ : Addr).add j = ⟨b, off + j, none⟩ by unfold Addr.add; split <;> simp_all]
    exact hr j u hj
theorem CellsQ.first {w : World} {a : Option Addr} {L : List PinC} (h : CellsQ w a L) (i : Nat) : CellsQ w a (L.take i) := by
  rcases h with h | ⟨b, off, ha, hb, hr⟩
  · subst h; exact .inl (by simp)
  · refine .inr ⟨b, off, ha, hb, fun j u hj => hr j u ?_⟩
    rw [flatQ_split L i, List.getElem?_append_left (List.getElem?_eq_some_iff.1 hj).1]
    exact hj
theorem CellsQ.behind {w : World} {a : Option Addr} {L : List PinC} (h : CellsQ w a L) (i c : Nat) (hc : L.length ≤ c) (hl : i ≤ L.length) :
    ∃ a' c', sliced a i L.length c 4 = .slice a' (L.length - i) c' ∧ CellsQ w a' (L.drop i) := by
  refine ⟨if c = i then a else a.map (·.add (i * 4)), c - i, by simp [sliced], ?_⟩
  by_cases h0 : i = L.length
  · subst h0; exact .inl (by simp)
  · rcases h with h | ⟨b, off, rfl, hb, hr⟩
    · subst h; simp at hl; simp at h0; omega
    · refine .inr ⟨b, off + i * 4, ?_, hb, fun j u hj => ?_⟩
      · rw [if_neg (by omega)]
        simp only [Option.map_some, Option.some.injEq]
        unfold Addr.add; split <;> simp_all
      · have hlen : ((L.take i).flatMap encQ).length = i * 4 := by rw [flatQ_len, List.length_take, Nat.min_eq_left hl]
        have := hr (i * 4 + j) u (by rw [flatQ_split L i, List.getElem?_append_right (by omega), hlen, show i * 4 + j - i * 4 = j by omega]; exact hj)
        rw [show off + i * 4 + j = off + (i * 4 + j) by omega]
        exact this
/-- The copy, as pins lie. -/
theorem ownsQ_pins {W0 hi : Nat} {w : World} {a : Option Addr} {c : Nat} {L : List PinC} (h : w.ownsRow W0 36 4 (.slice a L.length c) L.length (L.flatMap encQ)) (hk : ∀ q ∈ L, HashOk w hi q) (hhi : hi ≤ w.heap.size) : PinsAt w 0 w.heap.size a (L.map (·.1)) := by
  have ho := h
  rcases h.2 with ⟨hv, h0⟩ | ⟨g, cap, cur, hv, hg, hh, hc, hm, hs, ht⟩
  · exact .inl (by rw [List.eq_nil_of_length_eq_zero h0]; rfl)
  · simp only [Value.slice.injEq] at hv
    obtain ⟨rfl, -, rfl⟩ := hv
    refine .inr ⟨g, 0, rfl, Nat.zero_le _, heap_lt hh, fun i hi2 => ?_⟩
    have hi3 : i < L.length := by simpa using hi2
    have cell : ∀ q (hq : q < 4), w.cell? ⟨g, 0 + i * 4 + q, none⟩ = some ((encQ L[i])[q]'(by rw [encQ_len]; exact hq)) := fun q hq => by
      have e : (⟨g, 0, none⟩ : Addr).add (i * 4 + q) = ⟨g, i * 4 + q, none⟩ := by unfold Addr.add; split <;> simp_all
      have := ho.cells (g := g) rfl _ _ (flatQ_get L i q hi3 hq)
      rw [e] at this
      rw [show 0 + i * 4 + q = i * 4 + q by omega]; exact this
    obtain ⟨k1, k2⟩ := hk L[i] (List.getElem_mem hi3)
    rw [List.getElem_map]
    exact ⟨cell 0 (by decide), cell 1 (by decide), cell 2 (by decide), L[i].2.1, L[i].2.2, cell 3 (by decide), k1, KeysAt.carry k2 (Nat.le_refl _) hhi (fun _ _ _ => rfl)⟩

/-- Slots whose value is known, whatever memory does. -/
def ConQ (wb : World) (V : List (Option Value)) (d : Nat → Prop) (w' : World) (xs : List Value) : Prop :=
  Below wb.heap.size wb w' ∧ xs.length = V.length ∧ ∀ (j : Nat) (v x : Value), V[j]? = some (some v) → xs[j]? = some x → d j → x = v
theorem ConQ.first (wb : World) (V : List (Option Value)) (xs : List Value) (h : xs.length = V.length) : ConQ wb V (fun _ => False) wb.drew xs := ⟨(Below.refl _ _).drew, h, fun _ _ _ _ _ hd => hd.elim⟩
theorem ConQ.get {wb w' : World} {V : List (Option Value)} {d : Nat → Prop} {xs : List Value} (h : ConQ wb V d w' xs) (j : Nat) (hd : d j) (v : Value) (hV : V[j]? = some (some v)) (x : Value) (hx : xs[j]? = some x) : x = v := h.2.2 j v x hV hx hd
theorem ConQ.did {wb w' w'' : World} {V : List (Option Value)} {d : Nat → Prop} {xs : List Value} (h : ConQ wb V d w' xs) (hb : Below wb.heap.size wb w'') (j : Nat) (y : Value) (o : Option Value) (hV : V[j]? = some o) (hy : ∀ v, o = some v → y = v) : ConQ wb V (fun i => i = j ∨ d i) w'' (xs.set j y) := by
  refine ⟨hb, by rw [List.length_set]; exact h.2.1, fun i v x hm hx hd => ?_⟩
  by_cases e : i = j
  · subst e
    rw [hV] at hm
    have hl : i < xs.length := by rw [h.2.1]; exact (List.getElem?_eq_some_iff.1 hV).1
    rw [List.getElem?_set_self hl] at hx
    cases hx
    exact hy v (Option.some.inj hm)
  · rw [List.getElem?_set_ne (Ne.symm e)] at hx
    exact h.2.2 i v x hm hx (hd.resolve_left e)
theorem ConQ.same {wb w' : World} {V : List (Option Value)} {d : Nat → Prop} {xs : List Value} (h : ConQ wb V d w' xs) (j : Nat) (y v : Value) (hV : V[j]? = some (some v)) (hy : y = v) : ConQ wb V (fun i => i = j ∨ d i) w' (xs.set j y) :=
  h.did h.1 j y (some v) hV fun v' e => by cases e; exact hy
/-- Two appends in a row: to an empty row (slot p0) the first cells (slot p1), to these the second ones (slot p2). -/
structure Two (H T S p0 p1 p2 n1 n2 : Nat) (L1 L2 : List Value) (d : Nat → Prop) (w' : World) (y0 y1 y2 : Value) : Prop where
  o1 : d p1 → d p0
  o2 : d p2 → d p1
  own0 : d p0 → ¬ d p1 → w'.ownsRow H T S y0 0 []
  own1 : d p1 → ¬ d p2 → w'.ownsRow H T S y1 n1 L1
  own2 : d p2 → w'.ownsRow H T S y2 (n1 + n2) (L1 ++ L2)
section
variable {H T S p0 p1 p2 n1 n2 : Nat} {L1 L2 : List Value} {d : Nat → Prop} {w' w2 : World} {y0 y1 y2 v : Value}
theorem Two.first (w' : World) (y0 y1 y2 : Value) : Two H T S p0 p1 p2 n1 n2 L1 L2 (fun _ => False) w' y0 y1 y2 := ⟨fun h => h.elim, fun h => h.elim, fun h => h.elim, fun h => h.elim, fun h => h.elim⟩
theorem Two.same (h : Two H T S p0 p1 p2 n1 n2 L1 L2 d w' y0 y1 y2) (k : Nat) (h0 : k ≠ p0) (h1 : k ≠ p1) (h2 : k ≠ p2) : Two H T S p0 p1 p2 n1 n2 L1 L2 (fun j => j = k ∨ d j) w' y0 y1 y2 := by
  have e : ∀ q, q ≠ k → ((q = k ∨ d q) ↔ d q) := fun q hq => ⟨fun h => h.resolve_left hq, .inr⟩
  have e0 := e p0 (Ne.symm h0); have e1 := e p1 (Ne.symm h1); have e2 := e p2 (Ne.symm h2)
  exact ⟨by rw [e0, e1]; exact h.o1, by rw [e1, e2]; exact h.o2, by rw [e0, e1]; exact h.own0, by rw [e1, e2]; exact h.own1, by rw [e2]; exact h.own2⟩
theorem Two.s0 (h : Two H T S p0 p1 p2 n1 n2 L1 L2 d w' y0 y1 y2) (q1 : p1 ≠ p0) (q2 : p2 ≠ p0) (hH : H ≤ w'.heap.size) (hn : ¬ d p0) :
    Two H T S p0 p1 p2 n1 n2 L1 L2 (fun j => j = p0 ∨ d j) (w'.alloc (.cells #[] T)) (.slice (some ⟨w'.heap.size, 0, none⟩) 0 0) y1 y2 := by
  have n5 : ¬ d p1 := fun h5 => hn (h.o1 h5)
  have n8 : ¬ d p2 := fun h8 => n5 (h.o2 h8)
  exact ⟨fun _ => .inl rfl, fun h8 => (n8 (h8.resolve_left q2)).elim, fun _ _ => World.ownsRow_made w' #[] 0 hH (Nat.zero_le _) (by simp), fun h5 => (n5 (h5.resolve_left q1)).elim, fun h8 => (n8 (h8.resolve_left q2)).elim⟩
theorem Two.s1 (h : Two H T S p0 p1 p2 n1 n2 L1 L2 d w' y0 y1 y2) (q2 : p2 ≠ p1) (h0 : d p0) (hn : ¬ d p1) (ho : w2.ownsRow H T S v n1 L1) :
    Two H T S p0 p1 p2 n1 n2 L1 L2 (fun j => j = p1 ∨ d j) w2 y0 v y2 := by
  have n8 : ¬ d p2 := fun h8 => hn (h.o2 h8)
  exact ⟨fun _ => .inr h0, fun h8 => (n8 (h8.resolve_left q2)).elim, fun _ b => (b (.inl rfl)).elim, fun _ _ => ho, fun h8 => (n8 (h8.resolve_left q2)).elim⟩
theorem Two.s2 (h : Two H T S p0 p1 p2 n1 n2 L1 L2 d w' y0 y1 y2) (h1 : d p1) (ho : w2.ownsRow H T S v (n1 + n2) (L1 ++ L2)) :
    Two H T S p0 p1 p2 n1 n2 L1 L2 (fun j => j = p2 ∨ d j) w2 y0 y1 v :=
  ⟨fun _ => .inr (h.o1 h1), fun _ => .inr h1, fun _ b => (b (.inr h1)).elim, fun _ b => (b (.inl rfl)).elim, fun _ => ho⟩
end
end Go.Proofs.YtgghgcilpfdbjaaGreatDoor
