/- The contracts of record.SameHashes, snap.SamePin, slices.EqualFunc and snap.Same in full: true just of what is equal in all parts. Plain: a snapshot without one of its pins, or with two of them changed about. No program in sight. Plain: a role is not longer than its file's name. -/
import Derived.Test.YtgghgcilpfdbjaaGreatDoorSl09
import Derived.Test.YtgghgcilpfdbjaaGreatDoorSl02
import Derived.Test.YtgghgcilpfdbjaaGreatDoorSl08

namespace Go.Proofs.YtgghgcilpfdbjaaGreatDoor
open Go.RowKit

/-- A call that tells whether two things are equal. -/
def TellsEq {T : Type} (x y : T) (w : World) (e : Ending) (w' : World) : Prop := ∃ b : Bool, e = .returned (.bool b) ∧ (b = true ↔ x = y) ∧ Below w.heap.size w w'

set_option maxHeartbeats 4000000 in
set_option maxRecDepth 100000 in
theorem recSameHashes (l m : List Key2) (a b : Option Addr) (c d : Nat) (w : World) (hA : KeysAt w 0 w.heap.size a l) (hB : KeysAt w 0 w.heap.size b m) (hl : l.length ≤ 9223372036854775807) (hm : m.length ≤ 9223372036854775807) :
    Calls Tryz.prog 78 #[.slice a l.length c, .slice b m.length d] w (TellsEq l m w) := by
  by_cases hn : l.length = m.length
  case neg =>
    have t1 : ((l.length : Int) != (m.length : Int)) = true := by rw [bne_iff_ne]; omega
    have t2 : (l.length != m.length) = true := by rw [bne_iff_ne]; omega
    go_enter Tryz.func78, Tryz.ntmps78
    go_wp2
    go_ret
    exact ⟨false, rfl, by simp; intro h; exact hn (by rw [h]), Below.refl _ _⟩
  have t1 : ((l.length : Int) != (m.length : Int)) = false := by rw [hn]; simp
  have t2 : (l.length != m.length) = false := by rw [hn]; simp
  have HA := Lib.hid hA
  have HBb := Lib.hid hB
  have HN := Lib.hid hn
  clear hA hB hn
  go_enter Tryz.func78, Tryz.ntmps78
  go_wp2
  go_loopw [5, 6, 14] (fun _ _ i wr => ∃ k : Nat, k ≤ l.length ∧ i = .int .i64 k ∧ l.take k = m.take k ∧ Below w.heap.size w wr) (fun _ _ i _ => l.length - (intOf i).toNat)
  case atStart => exact ⟨0, by omega, rfl, by simp, Below.refl _ _⟩
  case round =>
    obtain ⟨k, hk, rfl, hsf, hb⟩ := hrel
    have HSF := Lib.hid hsf
    have HB := Lib.hid hb
    clear hsf
    by_cases hlt : k < l.length
    · have hlm : k < m.length := by have := HN.out; omega
      obtain ⟨b1, o1, ha1, _, _, e0, e1⟩ := (HA.out.below hb (Nat.le_refl _) (Nat.le_refl _) hb.size).at k hlt
      obtain ⟨b2, o2, ha2, _, hbl2, y0, y1⟩ := (HBb.out.below hb (Nat.le_refl _) (Nat.le_refl _) hb.size).at k hlm
      subst ha1 ha2
      have HTK := Lib.hid (show l[k] = m[k] → l.take (k + 1) = m.take (k + 1) from fun h => by rw [List.take_succ_eq_append_getElem hlt, List.take_succ_eq_append_getElem hlm, HSF.out, h])
      have HNO := Lib.hid (show l[k] ≠ m[k] → l ≠ m from fun h e => h (by subst e; rfl))
      obtain ⟨p, hp⟩ : ∃ p, p = l[k] := ⟨_, rfl⟩
      obtain ⟨q, hq⟩ : ∃ q, q = m[k] := ⟨_, rfl⟩
      rw [← hp] at e0 e1
      rw [← hq] at y0 y1
      rw [← hp, ← hq] at HTK HNO
      clear hp hq
      obtain ⟨s0, s1⟩ := p
      obtain ⟨u0, u1⟩ := q
      dsimp only at e0 e1 y0 y1
      obtain ⟨W2, hW2⟩ : ∃ W2, W2 = wr.alloc (.cells #[.string s0, .string s1] 62) := ⟨_, rfl⟩
      have hb2 : Below wr.heap.size wr W2 := by rw [hW2]; exact (Below.refl _ _).alloc (Nat.le_refl _) _
      have hx2 : W2.heap[wr.heap.size]? = some (.cells #[.string s0, .string s1] 62 (0, 0)) := by rw [hW2]; exact heap_alloc_new wr _
      have g0 : W2.cell? ⟨wr.heap.size, 0, none⟩ = some (.string s0) := box_cell hx2 rfl
      have g1 : W2.cell? ⟨wr.heap.size, 1, none⟩ = some (.string s1) := box_cell hx2 rfl
      have z0 : W2.cell? ⟨b2, o2 + k * 2, none⟩ = some (.string u0) := by rw [hb2.cell hbl2]; exact y0
      have z1 : W2.cell? ⟨b2, o2 + k * 2 + 1, none⟩ = some (.string u1) := by rw [hb2.cell hbl2]; exact y1
      have HB2 := Lib.hid (HB.out.trans (hb2.mono HB.out.size))
      have HW2 := Lib.hid hW2
      clear hb hb2 hx2 hW2 y0 y1 hbl2
      by_cases h0 : s0 = u0
      · have r0 : (s0.toList == u0.toList) = true := by rw [h0]; simp
        have HS0 := Lib.hid h0
        clear h0
        by_cases h1 : s1 = u1
        · have r1 : (s1.toList == u1.toList) = true := by rw [h1]; simp
          have HS1 := Lib.hid h1
          clear h1
          go_upto_region 6 with fail
          rw [← HW2.out]
          clear e0 e1
          go_quiet (fail)
          go_wp2
          go_roundw
          case rel => exact ⟨k + 1, by omega, by go_num, HTK.out (by rw [HS0.out, HS1.out]), Below.drewN HB2.out _⟩
          case measure => simp [intOf]; omega
        · have r1 : (s1.toList == u1.toList) = false := beq_eq_false_iff_ne.2 (fun e => h1 (ba_ext2 e))
          have HS1 := Lib.hid h1
          clear h1
          go_upto_region 6 with fail
          rw [← HW2.out]
          clear e0 e1
          go_quiet (fail)
          go_wp2
          go_ret
          exact ⟨false, rfl, by simp; exact HNO.out (fun e => HS1.out (by injection e)), Below.drewN HB2.out _⟩
      · have r0 : (s0.toList == u0.toList) = false := beq_eq_false_iff_ne.2 (fun e => h0 (ba_ext2 e))
        have HS0 := Lib.hid h0
        clear h0
        go_upto_region 6 with fail
        rw [← HW2.out]
        clear e0 e1
        go_quiet (fail)
        go_wp2
        go_ret
        exact ⟨false, rfl, by simp; exact HNO.out (fun e => HS0.out (by injection e)), Below.drewN HB2.out _⟩
    · obtain rfl : k = l.length := by omega
      clear hb
      go_wp2
      go_ret
      exact ⟨true, rfl, by simp; have := HSF.out; rwa [List.take_length, HN.out, List.take_length] at this, HB.out⟩

set_option maxHeartbeats 4000000 in
set_option maxRecDepth 100000 in
theorem snapSamePin (nm : ByteArray) (vr ln : Int) (hs : List Key2) (nm2 : ByteArray) (vr2 ln2 : Int) (hs2 : List Key2) (a b : Option Addr) (c d : Nat) (w : World) (hA : KeysAt w 0 w.heap.size a hs) (hB : KeysAt w 0 w.heap.size b hs2) (hl : hs.length ≤ 9223372036854775807) (hm : hs2.length ≤ 9223372036854775807) :
    Calls Tryz.prog 33 #[.agg #[.string nm, .int .i64 vr, .int .i64 ln, .slice a hs.length c], .agg #[.string nm2, .int .i64 vr2, .int .i64 ln2, .slice b hs2.length d]] w (TellsEq (PinV.mk nm vr ln hs) ⟨nm2, vr2, ln2, hs2⟩ w) := by
  obtain ⟨W2, hW2⟩ : ∃ W2, W2 = (w.alloc (.cells #[.string nm, .int .i64 vr, .int .i64 ln, .slice a hs.length c] 36)).alloc (.cells #[.string nm2, .int .i64 vr2, .int .i64 ln2, .slice b hs2.length d] 36) := ⟨_, rfl⟩
  have hb2 : Below w.heap.size w W2 := by rw [hW2]; exact ((Below.refl _ _).alloc (Nat.le_refl _) _).alloc (by simp) _
  have hx : W2.heap[w.heap.size]? = some (.cells #[.string nm, .int .i64 vr, .int .i64 ln, .slice a hs.length c] 36 (0, 0)) := by rw [hW2, Below.heap_alloc _ _ _ (by simp)]; exact heap_alloc_new w _
  have hy : W2.heap[w.heap.size + 1]? = some (.cells #[.string nm2, .int .i64 vr2, .int .i64 ln2, .slice b hs2.length d] 36 (0, 0)) := by
    have := heap_alloc_new (w.alloc (.cells #[.string nm, .int .i64 vr, .int .i64 ln, .slice a hs.length c] 36)) (.cells #[.string nm2, .int .i64 vr2, .int .i64 ln2, .slice b hs2.length d] 36)
    rw [show (w.alloc (.cells #[.string nm, .int .i64 vr, .int .i64 ln, .slice a hs.length c] 36)).heap.size = w.heap.size + 1 by simp, ← hW2] at this
    exact this
  have v0 : W2.cell? ⟨w.heap.size, 0, none⟩ = some (.string nm) := box_cell hx rfl
  have v1 : W2.cell? ⟨w.heap.size, 1, none⟩ = some (.int .i64 vr) := box_cell hx rfl
  have v2 : W2.cell? ⟨w.heap.size, 2, none⟩ = some (.int .i64 ln) := box_cell hx rfl
  have v3 : W2.cell? ⟨w.heap.size, 3, none⟩ = some (.slice a hs.length c) := box_cell hx rfl
  have u0 : W2.cell? ⟨w.heap.size + 1, 0, none⟩ = some (.string nm2) := box_cell hy rfl
  have u1 : W2.cell? ⟨w.heap.size + 1, 1, none⟩ = some (.int .i64 vr2) := box_cell hy rfl
  have u2 : W2.cell? ⟨w.heap.size + 1, 2, none⟩ = some (.int .i64 ln2) := box_cell hy rfl
  have u3 : W2.cell? ⟨w.heap.size + 1, 3, none⟩ = some (.slice b hs2.length d) := box_cell hy rfl
  have HS := Lib.hid (recSameHashes hs hs2 a b c d W2 (hA.below hb2 (Nat.le_refl _) (Nat.le_refl _) hb2.size) (hB.below hb2 (Nat.le_refl _) (Nat.le_refl _) hb2.size) hl hm)
  have HB := Lib.hid hb2
  have HW := Lib.hid hW2
  clear hb2 hW2 hx hy hA hB
  by_cases h0 : nm = nm2
  case neg =>
    have r0 : (nm.toList == nm2.toList) = false := beq_eq_false_iff_ne.2 (fun e => h0 (ba_ext2 e))
    have HNE := Lib.hid h0
    clear h0
    go_enter Tryz.func33, Tryz.ntmps33
    go_upto_region 1 with fail
    rw [← HW.out]
    go_wp2
    go_ret
    exact ⟨false, rfl, by simp; intro e; exact absurd e HNE.out, HB.out⟩
  have r0 : (nm.toList == nm2.toList) = true := by rw [h0]; simp
  have HE0 := Lib.hid h0
  clear h0
  by_cases h1 : vr = vr2
  case neg =>
    have r1 : (vr == vr2) = false := by simpa using h1
    have HNE := Lib.hid h1
    clear h1
    go_enter Tryz.func33, Tryz.ntmps33
    go_upto_region 1 with fail
    rw [← HW.out]
    go_wp2
    go_ret
    exact ⟨false, rfl, by simp; intros; first | (exact absurd ‹_› HNE.out) | (exact HNE.out ‹_›), HB.out⟩
  have r1 : (vr == vr2) = true := by simpa using h1
  have HE1 := Lib.hid h1
  clear h1
  by_cases h2 : ln = ln2
  case neg =>
    have r2 : (ln == ln2) = false := by simpa using h2
    have HNE := Lib.hid h2
    clear h2
    go_enter Tryz.func33, Tryz.ntmps33
    go_upto_region 1 with fail
    rw [← HW.out]
    go_wp2
    go_ret
    exact ⟨false, rfl, by simp; intros; first | (exact absurd ‹_› HNE.out) | (exact HNE.out ‹_›), HB.out⟩
  have r2 : (ln == ln2) = true := by simpa using h2
  have HE2 := Lib.hid h2
  clear h2
  go_enter Tryz.func33, Tryz.ntmps33
  go_upto_region 1 with fail
  rw [← HW.out]
  go_wp2_with fail
  refine HS.out.mono ?_
  rintro e w3 ⟨bb, rfl, hiff, hb3⟩
  have HB3 := Lib.hid (HB.out.trans (hb3.mono HB.out.size))
  clear hb3
  cases bb with
  | true =>
    have HIF := Lib.hid (hiff.1 rfl)
    clear hiff
    go_wp2
    go_ret
    exact ⟨true, rfl, ⟨fun _ => by rw [HE0.out, HE1.out, HE2.out, HIF.out], fun _ => rfl⟩, HB3.out⟩
  | false =>
    have HIF := Lib.hid (show hs ≠ hs2 from fun h => Bool.noConfusion (hiff.2 h))
    clear hiff
    go_wp2
    go_ret
    exact ⟨false, rfl, ⟨fun h => Bool.noConfusion h, fun e => by injection e with _ _ _ e4; exact absurd e4 HIF.out⟩, HB3.out⟩

set_option maxHeartbeats 4000000 in
set_option maxRecDepth 100000 in
theorem equalPins (l m : List PinV) (a b : Option Addr) (c d : Nat) (w : World) (hA : PinsAt w 0 w.heap.size a l) (hB : PinsAt w 0 w.heap.size b m) (hfl : ∀ p ∈ l, PinFits p) (hfm : ∀ p ∈ m, PinFits p) (hl : l.length ≤ 9223372036854775807) (hm : m.length ≤ 9223372036854775807) :
    Calls Tryz.prog 55 #[.slice a l.length c, .slice b m.length d, .func (.func 33) #[] #[]] w (TellsEq l m w) := by
  by_cases hn : l.length = m.length
  case neg =>
    have t1 : ((l.length : Int) != (m.length : Int)) = true := by rw [bne_iff_ne]; omega
    have t2 : (l.length != m.length) = true := by rw [bne_iff_ne]; omega
    go_enter Tryz.func55, Tryz.ntmps55
    go_wp2
    go_ret
    exact ⟨false, rfl, by simp; intro h; exact hn (by rw [h]), Below.refl _ _⟩
  have t1 : ((l.length : Int) != (m.length : Int)) = false := by rw [hn]; simp
  have t2 : (l.length != m.length) = false := by rw [hn]; simp
  have HA := Lib.hid hA
  have HBb := Lib.hid hB
  have HN := Lib.hid hn
  have HFL := Lib.hid hfl
  have HFM := Lib.hid hfm
  clear hA hB hn hfl hfm
  go_enter Tryz.func55, Tryz.ntmps55
  go_wp2
  go_loopw [7, 8, 9, 17] (fun _ _ _ i wr => ∃ k : Nat, k ≤ l.length ∧ i = .int .i64 k ∧ l.take k = m.take k ∧ Below w.heap.size w wr) (fun _ _ _ i _ => l.length - (intOf i).toNat)
  case atStart => exact ⟨0, by omega, rfl, by simp, Below.refl _ _⟩
  case round =>
    obtain ⟨k, hk, rfl, hsf, hb⟩ := hrel
    have HSF := Lib.hid hsf
    have HB := Lib.hid hb
    clear hsf
    by_cases hlt : k < l.length
    · have hlm : k < m.length := by have := HN.out; omega
      obtain ⟨b1, o1, ha1, _, hbl1, e0, e1, e2, hh, hc, e3, _, hk1⟩ := (HA.out.below hb (Nat.le_refl _) (Nat.le_refl _) hb.size).at k hlt
      obtain ⟨b2, o2, ha2, _, hbl2, y0, y1, y2, gh, gc, y3, _, hk2⟩ := (HBb.out.below hb (Nat.le_refl _) (Nat.le_refl _) hb.size).at k hlm
      subst ha1 ha2
      have HTK := Lib.hid (show l[k] = m[k] → l.take (k + 1) = m.take (k + 1) from fun h => by rw [List.take_succ_eq_append_getElem hlt, List.take_succ_eq_append_getElem hlm, HSF.out, h])
      have HNO := Lib.hid (show l[k] ≠ m[k] → l ≠ m from fun h e => h (by subst e; rfl))
      have HF1 := Lib.hid (HFL.out l[k] (List.getElem_mem hlt))
      have HF2 := Lib.hid (HFM.out m[k] (List.getElem_mem hlm))
      obtain ⟨p, hp⟩ : ∃ p, p = l[k] := ⟨_, rfl⟩
      obtain ⟨q, hq⟩ : ∃ q, q = m[k] := ⟨_, rfl⟩
      rw [← hp] at e0 e1 e2 e3 hk1 HF1
      rw [← hq] at y0 y1 y2 y3 hk2 HF2
      rw [← hp, ← hq] at HTK HNO
      clear hp hq
      obtain ⟨nm, vr, ln, hs⟩ := p
      obtain ⟨nm2, vr2, ln2, hs2⟩ := q
      dsimp only at e0 e1 e2 e3 hk1 y0 y1 y2 y3 hk2
      obtain ⟨W2, hW2⟩ : ∃ W2, W2 = wr.alloc (.cells #[.string nm, .int .i64 vr, .int .i64 ln, .slice hh hs.length hc] 36) := ⟨_, rfl⟩
      have hb2 : Below wr.heap.size wr W2 := by rw [hW2]; exact (Below.refl _ _).alloc (Nat.le_refl _) _
      have hx2 : W2.heap[wr.heap.size]? = some (.cells #[.string nm, .int .i64 vr, .int .i64 ln, .slice hh hs.length hc] 36 (0, 0)) := by rw [hW2]; exact heap_alloc_new wr _
      have hz2 : W2.heap.size = wr.heap.size + 1 := by rw [hW2]; simp
      have z0 : W2.cell? ⟨b2, o2 + k * 4, none⟩ = some (.string nm2) := by rw [hb2.cell hbl2]; exact y0
      have z1 : W2.cell? ⟨b2, o2 + k * 4 + 1, none⟩ = some (.int .i64 vr2) := by rw [hb2.cell hbl2]; exact y1
      have z2 : W2.cell? ⟨b2, o2 + k * 4 + 2, none⟩ = some (.int .i64 ln2) := by rw [hb2.cell hbl2]; exact y2
      have z3 : W2.cell? ⟨b2, o2 + k * 4 + 3, none⟩ = some (.slice gh hs2.length gc) := by rw [hb2.cell hbl2]; exact y3
      obtain ⟨W3, hW3⟩ : ∃ W3, W3 = W2.alloc (.cells #[.string nm2, .int .i64 vr2, .int .i64 ln2, .slice gh hs2.length gc] 36) := ⟨_, rfl⟩
      have hb3 : Below W2.heap.size W2 W3 := by rw [hW3]; exact (Below.refl _ _).alloc (Nat.le_refl _) _
      have hx3 : W3.heap[W2.heap.size]? = some (.cells #[.string nm2, .int .i64 vr2, .int .i64 ln2, .slice gh hs2.length gc] 36 (0, 0)) := by rw [hW3]; exact heap_alloc_new W2 _
      have hx2' := (hb3.block _ (heap_lt hx2)).trans hx2
      rw [hz2] at hx3
      have hb13 : Below wr.heap.size wr W3 := hb2.trans (hb3.mono hb2.size)
      have HSP := Lib.hid (snapSamePin nm vr ln hs nm2 vr2 ln2 hs2 hh gh hc gc W3 (hk1.below hb13 (Nat.le_refl _) (Nat.le_refl _) hb13.size) (hk2.below hb13 (Nat.le_refl _) (Nat.le_refl _) hb13.size) HF1.out.2.2.2.1 HF2.out.2.2.2.1)
      have HW2 := Lib.hid hW2
      have HW3 := Lib.hid hW3
      have HB3 := Lib.hid (HB.out.trans (hb13.mono HB.out.size))
      have HX2 := Lib.hid hx2'
      have HX3 := Lib.hid hx3
      clear y0 y1 y2 y3 hb hb2 hb3 hb13 hx2 hx2' hx3 hW2 hW3 hbl1 hbl2 hk1 hk2
      go_upto_region 6 with fail
      rw [← HW2.out]
      clear e0 e1 e2 e3
      go_upto_region 7 with fail
      rw [← HW3.out]
      clear z0 z1 z2 z3
      have g0 : W3.cell? ⟨wr.heap.size, 0, none⟩ = some (.string nm) := box_cell HX2.out rfl
      have g1 : W3.cell? ⟨wr.heap.size, 1, none⟩ = some (.int .i64 vr) := box_cell HX2.out rfl
      have g2 : W3.cell? ⟨wr.heap.size, 2, none⟩ = some (.int .i64 ln) := box_cell HX2.out rfl
      have g3 : W3.cell? ⟨wr.heap.size, 3, none⟩ = some (.slice hh hs.length hc) := box_cell HX2.out rfl
      have f0 : W3.cell? ⟨wr.heap.size + 1, 0, none⟩ = some (.string nm2) := box_cell HX3.out rfl
      have f1 : W3.cell? ⟨wr.heap.size + 1, 1, none⟩ = some (.int .i64 vr2) := box_cell HX3.out rfl
      have f2 : W3.cell? ⟨wr.heap.size + 1, 2, none⟩ = some (.int .i64 ln2) := box_cell HX3.out rfl
      have f3 : W3.cell? ⟨wr.heap.size + 1, 3, none⟩ = some (.slice gh hs2.length gc) := box_cell HX3.out rfl
      go_wp2_with fail
      refine HSP.out.mono ?_
      clear HSP g0 g1 g2 g3 f0 f1 f2 f3
      rintro e w5 ⟨bb, rfl, hiff, hb5⟩
      have HB5 := Lib.hid (HB3.out.trans (hb5.mono HB3.out.size))
      clear hb5
      cases bb with
      | true =>
        have HIF := Lib.hid (HTK.out (hiff.1 rfl))
        clear hiff
        go_wp2
        go_roundw
        case rel => exact ⟨k + 1, by omega, by go_num, HIF.out, HB5.out⟩
        case measure => simp [intOf]; omega
      | false =>
        have HIF := Lib.hid (HNO.out (fun h => Bool.noConfusion (hiff.2 h)))
        clear hiff
        go_wp2
        go_ret
        exact ⟨false, rfl, ⟨fun h => Bool.noConfusion h, fun e => absurd e HIF.out⟩, HB5.out⟩
    · obtain rfl : k = l.length := by omega
      clear hb
      go_wp2
      go_ret
      exact ⟨true, rfl, ⟨fun _ => by have := HSF.out; rwa [List.take_length, HN.out, List.take_length] at this, fun _ => rfl⟩, HB.out⟩

set_option maxHeartbeats 4000000 in
set_option maxRecDepth 100000 in
theorem snapSame (v e : Int) (l : List PinV) (vv e2 : Int) (m : List PinV) (a b : Option Addr) (c d : Nat) (w : World) (hA : PinsAt w 0 w.heap.size a l) (hB : PinsAt w 0 w.heap.size b m) (hfl : ∀ p ∈ l, PinFits p) (hfm : ∀ p ∈ m, PinFits p) (hl : l.length ≤ 9223372036854775807) (hm : m.length ≤ 9223372036854775807) :
    Calls Tryz.prog 23 #[.agg #[.int .i64 v, .int .i64 e, .slice a l.length c], .agg #[.int .i64 vv, .int .i64 e2, .slice b m.length d]] w (TellsEq (SnapV.mk v e l) ⟨vv, e2, m⟩ w) := by
  obtain ⟨W2, hW2⟩ : ∃ W2, W2 = (w.alloc (.cells #[.int .i64 v, .int .i64 e, .slice a l.length c] 24)).alloc (.cells #[.int .i64 vv, .int .i64 e2, .slice b m.length d] 24) := ⟨_, rfl⟩
  have hb2 : Below w.heap.size w W2 := by rw [hW2]; exact ((Below.refl _ _).alloc (Nat.le_refl _) _).alloc (by simp) _
  have hx : W2.heap[w.heap.size]? = some (.cells #[.int .i64 v, .int .i64 e, .slice a l.length c] 24 (0, 0)) := by rw [hW2, Below.heap_alloc _ _ _ (by simp)]; exact heap_alloc_new w _
  have hy : W2.heap[w.heap.size + 1]? = some (.cells #[.int .i64 vv, .int .i64 e2, .slice b m.length d] 24 (0, 0)) := by
    have := heap_alloc_new (w.alloc (.cells #[.int .i64 v, .int .i64 e, .slice a l.length c] 24)) (.cells #[.int .i64 vv, .int .i64 e2, .slice b m.length d] 24)
    rw [show (w.alloc (.cells #[.int .i64 v, .int .i64 e, .slice a l.length c] 24)).heap.size = w.heap.size + 1 by simp, ← hW2] at this
    exact this
  have v0 : W2.cell? ⟨w.heap.size, 0, none⟩ = some (.int .i64 v) := box_cell hx rfl
  have v1 : W2.cell? ⟨w.heap.size, 1, none⟩ = some (.int .i64 e) := box_cell hx rfl
  have v2 : W2.cell? ⟨w.heap.size, 2, none⟩ = some (.slice a l.length c) := box_cell hx rfl
  have u0 : W2.cell? ⟨w.heap.size + 1, 0, none⟩ = some (.int .i64 vv) := box_cell hy rfl
  have u1 : W2.cell? ⟨w.heap.size + 1, 1, none⟩ = some (.int .i64 e2) := box_cell hy rfl
  have u2 : W2.cell? ⟨w.heap.size + 1, 2, none⟩ = some (.slice b m.length d) := box_cell hy rfl
  have HS := Lib.hid (equalPins l m a b c d W2 (hA.below hb2 (Nat.le_refl _) (Nat.le_refl _) hb2.size) (hB.below hb2 (Nat.le_refl _) (Nat.le_refl _) hb2.size) hfl hfm hl hm)
  have HB := Lib.hid hb2
  have HW := Lib.hid hW2
  clear hb2 hW2 hx hy hA hB hfl hfm
  by_cases h0 : v = vv
  case neg =>
    have r1 : (v == vv) = false := by simpa using h0
    have HNE := Lib.hid h0
    clear h0
    go_enter Tryz.func23, Tryz.ntmps23
    go_upto_region 1 with fail
    rw [← HW.out]
    go_wp2
    go_ret
    exact ⟨false, rfl, by simp; intros; first | (exact absurd ‹_› HNE.out) | (exact HNE.out ‹_›), HB.out⟩
  have r1 : (v == vv) = true := by simpa using h0
  have HE0 := Lib.hid h0
  clear h0
  by_cases h1 : e = e2
  case neg =>
    have r2 : (e == e2) = false := by simpa using h1
    have HNE := Lib.hid h1
    clear h1
    go_enter Tryz.func23, Tryz.ntmps23
    go_upto_region 1 with fail
    rw [← HW.out]
    go_wp2
    go_ret
    exact ⟨false, rfl, by simp; intros; first | (exact absurd ‹_› HNE.out) | (exact HNE.out ‹_›), HB.out⟩
  have r2 : (e == e2) = true := by simpa using h1
  have HE1 := Lib.hid h1
  clear h1
  go_enter Tryz.func23, Tryz.ntmps23
  go_upto_region 1 with fail
  rw [← HW.out]
  go_wp2_with fail
  refine HS.out.mono ?_
  rintro r w3 ⟨bb, rfl, hiff, hb3⟩
  have HB3 := Lib.hid (HB.out.trans (hb3.mono HB.out.size))
  clear hb3
  cases bb with
  | true =>
    have HIF := Lib.hid (hiff.1 rfl)
    clear hiff
    go_wp2
    go_ret
    exact ⟨true, rfl, ⟨fun _ => by rw [HE0.out, HE1.out, HIF.out], fun _ => rfl⟩, HB3.out⟩
  | false =>
    have HIF := Lib.hid (show l ≠ m from fun h => Bool.noConfusion (hiff.2 h))
    clear hiff
    go_wp2
    go_ret
    exact ⟨false, rfl, ⟨fun h => Bool.noConfusion h, fun e => by injection e with _ _ e4; exact absurd e4 HIF.out⟩, HB3.out⟩
end Go.Proofs.YtgghgcilpfdbjaaGreatDoor

namespace Go.Proofs.YtgghgcilpfdbjaaGreatDoor
open Go.RowKit

theorem erase_eq {α : Type} (l : List α) (i : Nat) : l.take i ++ l.drop (i + 1) = l.eraseIdx i := (List.eraseIdx_eq_take_drop_succ l i).symm
theorem erase_ne {α : Type} (l : List α) (i : Nat) (hi : i < l.length) : l ≠ l.eraseIdx i := fun h => by
  have := congrArg List.length h
  rw [List.length_eraseIdx, if_pos hi] at this; omega
def swapL {α : Type} (l : List α) (a b : Nat) (ha : a < l.length) (hb : b < l.length) : List α := (l.set a l[b]).set b l[a]
theorem swap_len {α : Type} (l : List α) (a b : Nat) (ha : a < l.length) (hb : b < l.length) : (swapL l a b ha hb).length = l.length := by simp [swapL]
theorem swap_get {α : Type} (l : List α) (a b : Nat) (ha : a < l.length) (hb : b < l.length) (i : Nat) (hi : i < l.length) : (swapL l a b ha hb)[i]'(by rw [swap_len]; exact hi) = if i = b then l[a] else if i = a then l[b] else l[i] := by
  unfold swapL
  rw [List.getElem_set]
  by_cases h : b = i
  · rw [if_pos h, if_pos h.symm]
  · rw [if_neg h, if_neg (Ne.symm h), List.getElem_set]
    by_cases h2 : a = i
    · rw [if_pos h2, if_pos h2.symm]
    · rw [if_neg h2, if_neg (Ne.symm h2)]
theorem swap_same {α : Type} (l : List α) (a : Nat) (ha : a < l.length) : swapL l a a ha ha = l := by
  apply List.ext_getElem (swap_len _ _ _ _ _)
  intro i h1 h2
  rw [swap_get l a a ha ha i h2]
  split
  · rename_i h; subst h; rfl
  · rfl
theorem swap_may {v e : Int} {l : List PinV} (hm : maySnap ⟨v, e, l⟩ = true) (a b : Nat) (ha : a < l.length) (hb : b < l.length) : maySnap ⟨v, e, swapL l a b ha hb⟩ = decide (a = b) := by
  by_cases h : a = b
  · subst h
    rw [swap_same, hm]; simp
  · rw [decide_eq_false h]
    cases h2 : maySnap ⟨v, e, swapL l a b ha hb⟩ with
    | false => rfl
    | true =>
      exfalso
      have r1 := (maySnap_parts.1 hm).2.2.2.2
      have r2 := (maySnap_parts.1 h2).2.2.2.2
      dsimp only at r1 r2
      have hlen := swap_len l a b ha hb
      have ea : (swapL l a b ha hb)[a]'(by omega) = l[b] := by rw [swap_get l a b ha hb a ha, if_neg h, if_pos rfl]
      have eb : (swapL l a b ha hb)[b]'(by omega) = l[a] := by rw [swap_get l a b ha hb b hb, if_pos rfl]
      rcases Nat.lt_or_gt_of_ne h with c | c
      · have l1 := rises_lts _ r1 a b (by simpa using ha) (by simpa using hb) c
        have l2 := rises_lts _ r2 a b (by simp; omega) (by simp; omega) c
        simp only [List.getElem_map] at l1 l2
        rw [ea, eb] at l2
        have := less_trans _ _ _ l1 l2
        rw [less_irrefl] at this; cases this
      · have l1 := rises_lts _ r1 b a (by simpa using hb) (by simpa using ha) c
        have l2 := rises_lts _ r2 b a (by simp; omega) (by simp; omega) c
        simp only [List.getElem_map] at l1 l2
        rw [ea, eb] at l2
        have := less_trans _ _ _ l1 l2
        rw [less_irrefl] at this; cases this
theorem swap_eq {v e : Int} {l : List PinV} (hm : maySnap ⟨v, e, l⟩ = true) (a b : Nat) (ha : a < l.length) (hb : b < l.length) : SnapV.mk v e l = ⟨v, e, swapL l a b ha hb⟩ ↔ a = b := by
  constructor
  · intro h
    have h1 : l = swapL l a b ha hb := by injection h
    have h2 : maySnap ⟨v, e, swapL l a b ha hb⟩ = true := by rw [← h1]; exact hm
    rw [swap_may hm] at h2
    simpa using h2
  · intro h
    subst h
    rw [swap_same]
end Go.Proofs.YtgghgcilpfdbjaaGreatDoor

namespace Go.Proofs.YtgghgcilpfdbjaaGreatDoor
open Go.RowKit
theorem role_size (f : ByteArray) : (roleStr f).size ≤ f.size := by
  unfold roleStr
  cases hr : roleOf f with
  | none => exact Nat.zero_le _
  | some r =>
    have h := congrArg List.length (role_name hr).2
    simp only [List.length_append, Array.length_toList] at h
    show r.toArray.size ≤ f.data.size
    simp only [List.size_toArray]
    omega
end Go.Proofs.YtgghgcilpfdbjaaGreatDoor
