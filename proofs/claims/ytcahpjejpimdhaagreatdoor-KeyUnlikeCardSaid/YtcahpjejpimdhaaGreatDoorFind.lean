/- The contracts of value.find (of names that rise) and sort.Search as it uses it. -/
import Derived.Test.YtcahpjejpimdhaaGreatDoorFindPlain
import Derived.Test.YtcahpjejpimdhaaGreatDoorTouch
namespace Go.Proofs.YtcahpjejpimdhaaGreatDoor
open Go.RowKit

set_option maxHeartbeats 400000 in
theorem findLess (l : List ByteArray) (x : ByteArray) (a : Option Addr) (n c i p1 p2 : Nat) (lo hi : Nat) (w : World) (hS : StrsAt w lo hi a l) (hi' : i < l.length) (hn : l.length = n) (_hb : n ≤ 4294967296)
    (c1 : w.cell? ⟨p1, 0, none⟩ = some (.slice a n c)) (c2 : w.cell? ⟨p2, 0, none⟩ = some (.string x)) :
    Calls Tryz.prog 106 #[.int .i64 i, .pointer (some ⟨p1, 0, none⟩), .pointer (some ⟨p2, 0, none⟩)] w fun e w' => e = .returned (.bool (!bl l[i] x)) ∧ ∃ m, w' = w.drewN m := by
  obtain ⟨b, off, rfl, _, _, c3⟩ := hS.at i hi'
  have j0 : (0 : Int) ≤ (i : Int) := by omega
  have j1 : (i : Int) < (n : Int) := by omega
  have HB := Lib.hid (show bl l[i] x = Op.bytesLess l[i].toList x.toList from rfl)
  generalize l[i] = y at *
  clear hS hn hi'
  go_enter Tryz.func106, Tryz.ntmps106
  go_wp2_with fail
  go_quiet (fail)
  go_wp2
  go_ret
  exact ⟨by rw [HB.out]; rfl, _, rfl⟩

set_option maxHeartbeats 400000 in
theorem sortSearch (l : List ByteArray) (x : ByteArray) (a : Option Addr) (n c p1 p2 : Nat) (lo hi : Nat) (w : World) (hS : StrsAt w lo hi a l) (hn : l.length = n) (hb : n ≤ 4294967296) (hr : rises l = true)
    (c1 : w.cell? ⟨p1, 0, none⟩ = some (.slice a n c)) (c2 : w.cell? ⟨p2, 0, none⟩ = some (.string x)) :
    Calls Tryz.prog 105 #[.int .i64 n, .func (.func 106) #[] #[.pointer (some ⟨p1, 0, none⟩), .pointer (some ⟨p2, 0, none⟩)]] w fun e w' => (∃ r : Nat, e = .returned (.int .i64 r) ∧ r ≤ l.length ∧ (∀ t (h : t < l.length), t < r → bl l[t] x = true) ∧ (∀ t (h : t < l.length), r ≤ t → bl l[t] x = false)) ∧ ∃ m, w' = w.drewN m := by
  have HS := Lib.hid hS; clear hS
  have HR := Lib.hid hr; clear hr
  have HN := Lib.hid hn; clear hn
  have HC1 := Lib.hid c1; clear c1
  have HC2 := Lib.hid c2; clear c2
  go_enter Tryz.func105, Tryz.ntmps105
  go_wp2
  go_loopw [5, 6, 7] (fun vi vj _ wr => ∃ (i j m : Nat), i ≤ j ∧ j ≤ n ∧ vi = .int .i64 i ∧ vj = .int .i64 j ∧ (∀ t (h : t < l.length), t < i → bl l[t] x = true) ∧ (∀ t (h : t < l.length), j ≤ t → bl l[t] x = false) ∧ wr = w.drewN m) (fun vi vj _ _ => (intOf vj - intOf vi).toNat)
  case atStart => exact ⟨0, n, 0, by omega, by omega, rfl, rfl, fun t _ h => by omega, fun t h h' => by have := HN.out; omega, rfl⟩
  case round =>
    obtain ⟨i, j, m, hij, hjn, rfl, rfl, h1, h2, rfl⟩ := hrel
    have H1 := Lib.hid h1
    have H2 := Lib.hid h2
    clear h1 h2
    by_cases hlt : i < j
    · obtain ⟨h, hh⟩ : ∃ h : Nat, ((i : Int) + (j : Int)) / 2 = (h : Int) := ⟨(i + j) / 2, by omega⟩
      have hh1 : i ≤ h := by omega
      have hh2 : h < j := by omega
      have hl : h < l.length := by have := HN.out; omega
      have HH := Lib.hid hh; clear hh
      have HL := Lib.hid hl; clear hl
      cases hb2 : bl (l[h]'HL.out) x
      · have HX := Lib.hid hb2; clear hb2
        go_wp2_with fail
        rw [HH.out]
        refine (findLess l x a n c h p1 p2 lo hi (w.drewN m) (show StrsAt (w.drewN m) lo hi a l from HS.out) HL.out HN.out hb HC1.out HC2.out).mono ?_
        rintro e w1 ⟨rfl, m2, rfl⟩
        rw [HX.out]
        go_wp2
        go_roundw
        case rel =>
          refine ⟨i, h, m + m2, by omega, by omega, rfl, by first | rfl | (rw [HH.out]), H1.out, fun t ht hle => ?_, by first | rfl | (rw [World.drewN_drewN])⟩
          by_cases e : t = h
          · subst e; exact HX.out
          · have h3 := rises_lt HR.out h t HL.out ht (by omega)
            cases h4 : bl l[t] x
            · rfl
            · have := bl_trans h3 h4; rw [HX.out] at this; cases this
        case measure => simp [intOf]; have := HH.out; omega
      · have HX := Lib.hid hb2; clear hb2
        go_wp2_with fail
        rw [HH.out]
        refine (findLess l x a n c h p1 p2 lo hi (w.drewN m) (show StrsAt (w.drewN m) lo hi a l from HS.out) HL.out HN.out hb HC1.out HC2.out).mono ?_
        rintro e w1 ⟨rfl, m2, rfl⟩
        rw [HX.out]
        go_wp2
        go_roundw
        case rel =>
          refine ⟨h + 1, j, m + m2, by omega, by omega, by first | go_num | (rw [HH.out]; go_num), rfl, fun t ht hle => ?_, H2.out, by first | rfl | (rw [World.drewN_drewN])⟩
          by_cases e : t = h
          · subst e; exact HX.out
          · exact bl_trans (rises_lt HR.out t h ht HL.out (by omega)) HX.out
        case measure => simp [intOf]; have := HH.out; omega
    · obtain rfl : i = j := by omega
      go_wp2
      go_ret
      exact ⟨⟨i, rfl, by have := HN.out; omega, H1.out, H2.out⟩, _, rfl⟩

set_option maxRecDepth 100000 in
set_option maxHeartbeats 400000 in
theorem valueFind (l : List ByteArray) (x : ByteArray) (a : Option Addr) (c : Nat) (w : World) (hS : StrsAt w 0 w.heap.size a l) (hb : l.length ≤ 4294967296) (hr : rises l = true) :
    Calls Tryz.prog 76 #[.slice a l.length c, .string x] w (FindPost l x w) := by
  have HS := Lib.hid hS; clear hS
  have HR := Lib.hid hr; clear hr
  obtain ⟨n, hn⟩ : ∃ n, l.length = n := ⟨_, rfl⟩
  rw [hn]
  have hb' : n ≤ 4294967296 := by omega
  have HN := Lib.hid hn; clear hn
  go_enter Tryz.func76, Tryz.ntmps76
  go_wp2_with fail
  have HB0 := Lib.hid (show Below w.heap.size w ((w.alloc (.cells #[.slice a n c] 26)).alloc (.cells #[.string x] 9)) from ((Below.refl _ _).alloc (Nat.le_refl _) _).alloc (by simp) _)
  have hasc := valueAscending l a c ((w.alloc (.cells #[.slice a n c] 26)).alloc (.cells #[.string x] 9)) (HS.out.below HB0.out (Nat.le_refl _) (Nat.le_refl _) HB0.out.size) hb
  rw [HN.out, HR.out] at hasc
  refine hasc.mono ?_
  clear hasc
  rintro e w1 ⟨rfl, hb1⟩
  have hz1 : w.heap.size + 2 ≤ w1.heap.size := by have := hb1.size; simp at this; omega
  have c1 : w1.cell? ⟨w.heap.size, 0, none⟩ = some (.slice a n c) := by rw [hb1.cell (by simp; omega)]; go_simp
  have c2 : w1.cell? ⟨w.heap.size + 1, 0, none⟩ = some (.string x) := by rw [hb1.cell (by simp)]; go_simp
  have HB1 : Hid (Below w.heap.size w w1) := HB0.out.trans (hb1.mono (by simp; omega))
  clear hb1 HB0
  go_wp2_with fail
  refine (sortSearch l x a n c w.heap.size (w.heap.size + 1) 0 w.heap.size w1 (HS.out.below HB1.out (Nat.le_refl _) (Nat.le_refl _) (Nat.le_refl _)) HN.out hb' HR.out c1 c2).mono ?_
  rintro e w2 ⟨⟨r, rfl, h1, h2, h3⟩, m, rfl⟩
  have H1 := Lib.hid h1
  have H2 := Lib.hid h2
  have H3 := Lib.hid h3
  have h1' : r ≤ n := by rw [← HN.out]; exact h1
  clear h1 h2 h3
  replace c1 : (w1.drewN m).cell? ⟨w.heap.size, 0, none⟩ = some (.slice a n c) := c1
  replace c2 : (w1.drewN m).cell? ⟨w.heap.size + 1, 0, none⟩ = some (.string x) := c2
  have HB2 := Lib.hid (Below.drewN HB1.out m)
  clear HB1
  generalize w1.drewN m = w3 at *
  clear hz1
  by_cases hlt : r < n
  · have hlt' : r < l.length := by rw [HN.out]; exact hlt
    obtain ⟨b, off, rfl, _, _, c3⟩ := (HS.out.below HB2.out (Nat.le_refl _) (Nat.le_refl _) (Nat.le_refl _)).at r hlt'
    have HY := Lib.hid (show ∃ y, y = l[r] from ⟨_, rfl⟩)
    have HNO := Lib.hid (show ¬ l[r] = x → ∀ t (h : t < l.length), l[t] ≠ x by
      intro hne t ht e
      by_cases e1 : t < r
      · have := H2.out t ht e1; rw [e, bl_irrefl] at this; cases this
      · by_cases e2 : t = r
        · subst e2; exact hne e
        · have h4 := rises_lt HR.out r t hlt' ht (by omega)
          have h5 := H3.out r hlt' (Nat.le_refl _)
          rw [e] at h4; rw [h4] at h5; cases h5)
    have j0 : (0 : Int) ≤ (r : Int) := by omega
    have j1 : (r : Int) < (n : Int) := by omega
    have HEX := Lib.hid (show l[r] = x → ∃ h : r < l.length, l[r] = x from fun e => ⟨hlt', e⟩)
    generalize l[r] = y at *
    clear HY
    go_wp2_with fail
    go_quiet (fail)
    go_wp2
    go_ret2
    refine ⟨r, (y.toList == x.toList), rfl, H1.out, H2.out, H3.out, fun e => HEX.out (ba_ext (by simpa using e)), fun e => HNO.out (fun e' => by rw [e'] at e; simp at e), Below.drewN HB2.out _⟩
  · have HNO := Lib.hid (show ∀ t (h : t < l.length), l[t] ≠ x by
      intro t ht e
      have := H2.out t ht (by have := HN.out; omega)
      rw [e, bl_irrefl] at this; cases this)
    have hd : decide ((r : Int) < (n : Int)) = false := by simp; omega
    have hd2 : decide (r < n) = false := by simp; omega
    go_wp2_with fail
    go_quiet (fail)
    go_wp2
    go_ret2
    exact ⟨r, false, rfl, H1.out, H2.out, H3.out, (fun e => by cases e), fun _ => HNO.out, Below.drewN HB2.out _⟩

end Go.Proofs.YtcahpjejpimdhaaGreatDoor
