/- The order of texts, and rows that rise. No program in sight. The contracts of value.find (of names that rise) and sort.Search as it uses it. The contract of quote.Quote: a text that may be, between quotation marks, a \ ahead of each of them and of each \. -/
import Derived.Test.YtcahpjejpimdhaaGreatDoorZt206
import Derived.Test.YtcahpjejpimdhaaGreatDoorZt200

namespace Go.Proofs.YtcahpjejpimdhaaGreatDoor
open Go.RowKit

theorem less_irrefl : ∀ x : List UInt8, Op.bytesLess x x = false
  | [] => rfl
  | a :: x => by simp [Op.bytesLess, less_irrefl x]
theorem less_trans : ∀ x y z : List UInt8, Op.bytesLess x y = true → Op.bytesLess y z = true → Op.bytesLess x z = true
  | _, _, [], _, h => by simp [Op.bytesLess] at h
  | _, [], _ :: _, h, _ => by simp [Op.bytesLess] at h
  | [], _ :: _, _ :: _, _, _ => rfl
  | a :: x, b :: y, c :: z, h1, h2 => by
    simp only [Op.bytesLess, Bool.or_eq_true, decide_eq_true_eq, Bool.and_eq_true, beq_iff_eq] at h1 h2 ⊢
    rcases h1 with h1 | ⟨rfl, h1⟩
    · rcases h2 with h2 | ⟨rfl, h2⟩
      · exact .inl (UInt8.lt_trans h1 h2)
      · exact .inl h1
    · rcases h2 with h2 | ⟨rfl, h2⟩
      · exact .inl h2
      · exact .inr ⟨rfl, less_trans x y z h1 h2⟩
theorem less_tri : ∀ x y : List UInt8, Op.bytesLess x y = false → Op.bytesLess y x = false → x = y
  | [], [], _, _ => rfl
  | [], _ :: _, h, _ => by simp [Op.bytesLess] at h
  | _ :: _, [], _, h => by simp [Op.bytesLess] at h
  | a :: x, b :: y, h1, h2 => by
    simp only [Op.bytesLess, Bool.or_eq_false_iff, decide_eq_false_iff_not, Bool.and_eq_false_iff] at h1 h2
    have e : a = b := UInt8.le_antisymm (UInt8.not_lt.1 h2.1) (UInt8.not_lt.1 h1.1)
    subst e
    have g1 : Op.bytesLess x y = false := by rcases h1.2 with h | h; simp at h; exact h
    have g2 : Op.bytesLess y x = false := by rcases h2.2 with h | h; simp at h; exact h
    rw [less_tri x y g1 g2]

/-- Is one text less than another? -/
def bl (a b : ByteArray) : Bool := Op.bytesLess a.toList b.toList
theorem ba_ext {a b : ByteArray} (h : a.toList = b.toList) : a = b := by
  rw [ByteArray.toList_eq, ByteArray.toList_eq] at h
  exact ByteArray.ext (Array.toList_inj.1 h)
theorem bl_irrefl (a : ByteArray) : bl a a = false := less_irrefl _
theorem bl_trans {a b c : ByteArray} (h : bl a b = true) (h' : bl b c = true) : bl a c = true := less_trans _ _ _ h h'
theorem bl_tri {a b : ByteArray} (h : bl a b = false) (h' : bl b a = false) : a = b := ba_ext (less_tri _ _ h h')
theorem bl_asymm {a b : ByteArray} (h : bl a b = true) : bl b a = false := by
  cases h' : bl b a
  · rfl
  · have := bl_trans h h'; rw [bl_irrefl] at this; cases this

theorem rises_tail {a : ByteArray} {l : List ByteArray} (h : rises (a :: l) = true) : rises l = true := by
  cases l with
  | nil => rfl
  | cons b r => simp only [rises, Bool.and_eq_true] at h; exact h.2
theorem rises_head : ∀ {l : List ByteArray} {a : ByteArray} (_ : rises (a :: l) = true) (j : Nat) (h : j < l.length), bl a l[j] = true
  | [], _, _, j, h => by simp at h
  | b :: r, a, h, 0, _ => by simp only [rises, Bool.and_eq_true] at h; exact h.1
  | b :: r, a, h, j + 1, hj => by
    simp only [rises, Bool.and_eq_true] at h
    exact bl_trans h.1 (rises_head h.2 j (by simpa using hj))
theorem rises_lt : ∀ {l : List ByteArray} (_ : rises l = true) (i j : Nat) (hi : i < l.length) (hj : j < l.length), i < j → bl l[i] l[j] = true
  | [], _, i, j, hi, _, _ => by simp at hi
  | a :: r, h, 0, j + 1, _, hj, _ => rises_head h j (by simpa using hj)
  | a :: r, h, i + 1, j + 1, hi, hj, hlt => by
    simp only [List.getElem_cons_succ]
    exact rises_lt (rises_tail h) i j (by simpa using hi) (by simpa using hj) (by omega)
  | a :: r, h, i, 0, _, _, hlt => by omega

def FindPost (l : List ByteArray) (x : ByteArray) (w : World) (e : Ending) (w' : World) : Prop :=
  ∃ (r : Nat) (f : Bool), e = .returned (.tuple #[.int .i64 r, .bool f]) ∧ r ≤ l.length ∧ (∀ t (h : t < l.length), t < r → bl l[t] x = true) ∧ (∀ t (h : t < l.length), r ≤ t → bl l[t] x = false) ∧
    (f = true → ∃ h : r < l.length, l[r] = x) ∧ (f = false → ∀ t (h : t < l.length), l[t] ≠ x) ∧ Below w.heap.size w w'

end Go.Proofs.YtcahpjejpimdhaaGreatDoor

namespace Go.Proofs.YtcahpjejpimdhaaGreatDoor
open Go.RowKit

set_option maxHeartbeats 400000 in
theorem findLess (l : List ByteArray) (x : ByteArray) (a : Option Addr) (n c i p1 p2 : Nat) (lo hi : Nat) (w : World) (hS : StrsAt w lo hi a l) (hi' : i < l.length) (hn : l.length = n) (_hb : n ≤ 4294967296)
    (c1 : w.cell? ⟨p1, 0, none⟩ = some (.slice a n c)) (c2 : w.cell? ⟨p2, 0, none⟩ = some (.string x)) :
    Calls Tryz.prog 106 #[.int .i64 i, .pointer (some ⟨p1, 0, none⟩), .pointer (some ⟨p2, 0, none⟩)] w fun e w' => e = .returned (.bool (!bl l[i] x)) ∧ ∃ m, w' = w.drewN m := by
  obtain ⟨b, off, rfl, _, _, c3⟩ := hS.at i hi'
  have j0 : (0 : Int) ≤ (i : Int) := by omega
  have j1 : (i : Int) < (n : Int) := by omega
  have HB := Lib.hid (show bl l[i] x = Op.bytesLess l[i].toList x.toList from rfl)
  generalize l[i] = y at *
  clear hS hn hi'
  go_enter Tryz.func106, Tryz.ntmps106
  go_wp2_with fail
  go_quiet (fail)
  go_wp2
  go_ret
  exact ⟨by rw [HB.out]; rfl, _, rfl⟩

set_option maxHeartbeats 400000 in
theorem sortSearch (l : List ByteArray) (x : ByteArray) (a : Option Addr) (n c p1 p2 : Nat) (lo hi : Nat) (w : World) (hS : StrsAt w lo hi a l) (hn : l.length = n) (hb : n ≤ 4294967296) (hr : rises l = true)
    (c1 : w.cell? ⟨p1, 0, none⟩ = some (.slice a n c)) (c2 : w.cell? ⟨p2, 0, none⟩ = some (.string x)) :
    Calls Tryz.prog 105 #[.int .i64 n, .func (.func 106) #[] #[.pointer (some ⟨p1, 0, none⟩), .pointer (some ⟨p2, 0, none⟩)]] w fun e w' => (∃ r : Nat, e = .returned (.int .i64 r) ∧ r ≤ l.length ∧ (∀ t (h : t < l.length), t < r → bl l[t] x = true) ∧ (∀ t (h : t < l.length), r ≤ t → bl l[t] x = false)) ∧ ∃ m, w' = w.drewN m := by
  have HS := Lib.hid hS; clear hS
  have HR := Lib.hid hr; clear hr
  have HN := Lib.hid hn; clear hn
  have HC1 := Lib.hid c1; clear c1
  have HC2 := Lib.hid c2; clear c2
  go_enter Tryz.func105, Tryz.ntmps105
  go_wp2
  go_loopw [5, 6, 7] (fun vi vj _ wr => ∃ (i j m : Nat), i ≤ j ∧ j ≤ n ∧ vi = .int .i64 i ∧ vj = .int .i64 j ∧ (∀ t (h : t < l.length), t < i → bl l[t] x = true) ∧ (∀ t (h : t < l.length), j ≤ t → bl l[t] x = false) ∧ wr = w.drewN m) (fun vi vj _ _ => (intOf vj - intOf vi).toNat)
  case atStart => exact ⟨0, n, 0, by omega, by omega, rfl, rfl, fun t _ h => by omega, fun t h h' => by have := HN.out; omega, rfl⟩
  case round =>
    obtain ⟨i, j, m, hij, hjn, rfl, rfl, h1, h2, rfl⟩ := hrel
    have H1 := Lib.hid h1
    have H2 := Lib.hid h2
    clear h1 h2
    by_cases hlt : i < j
    · obtain ⟨h, hh⟩ : ∃ h : Nat, ((i : Int) + (j : Int)) / 2 = (h : Int) := ⟨(i + j) / 2, by omega⟩
      have hh1 : i ≤ h := by omega
      have hh2 : h < j := by omega
      have hl : h < l.length := by have := HN.out; omega
      have HH := Lib.hid hh; clear hh
      have HL := Lib.hid hl; clear hl
      cases hb2 : bl (l[h]'HL.out) x
      · have HX := Lib.hid hb2; clear hb2
        go_wp2_with fail
        rw [HH.out]
        refine (findLess l x a n c h p1 p2 lo hi (w.drewN m) (show StrsAt (w.drewN m) lo hi a l from HS.out) HL.out HN.out hb HC1.out HC2.out).mono ?_
        rintro e w1 ⟨rfl, m2, rfl⟩
        rw [HX.out]
        go_wp2
        go_roundw
        case rel =>
          refine ⟨i, h, m + m2, by omega, by omega, rfl, by first | rfl | (rw [HH.out]), H1.out, fun t ht hle => ?_, by first | rfl | (rw [World.drewN_drewN])⟩
          by_cases e : t = h
          · subst e; exact HX.out
          · have h3 := rises_lt HR.out h t HL.out ht (by omega)
            cases h4 : bl l[t] x
            · rfl
            · have := bl_trans h3 h4; rw [HX.out] at this; cases this
        case measure => simp [intOf]; have := HH.out; omega
      · have HX := Lib.hid hb2; clear hb2
        go_wp2_with fail
        rw [HH.out]
        refine (findLess l x a n c h p1 p2 lo hi (w.drewN m) (show StrsAt (w.drewN m) lo hi a l from HS.out) HL.out HN.out hb HC1.out HC2.out).mono ?_
        rintro e w1 ⟨rfl, m2, rfl⟩
        rw [HX.out]
        go_wp2
        go_roundw
        case rel =>
          refine ⟨h + 1, j, m + m2, by omega, by omega, by first | go_num | (rw [HH.out]; go_num), rfl, fun t ht hle => ?_, H2.out, by first | rfl | (rw [World.drewN_drewN])⟩
          by_cases e : t = h
          · subst e; exact HX.out
          · exact bl_trans (rises_lt HR.out t h ht HL.out (by omega)) HX.out
        case measure => simp [intOf]; have := HH.out; omega
    · obtain rfl : i = j := by omega
      go_wp2
      go_ret
      exact ⟨⟨i, rfl, by have := HN.out; omega, H1.out, H2.out⟩, _, rfl⟩

set_option maxRecDepth 100000 in
set_option maxHeartbeats 400000 in
theorem valueFind (l : List ByteArray) (x : ByteArray) (a : Option Addr) (c : Nat) (w : World) (hS : StrsAt w 0 w.heap.size a l) (hb : l.length ≤ 4294967296) (hr : rises l = true) :
    Calls Tryz.prog 76 #[.slice a l.length c, .string x] w (FindPost l x w) := by
  have HS := Lib.hid hS; clear hS
  have HR := Lib.hid hr; clear hr
  obtain ⟨n, hn⟩ : ∃ n, l.length = n := ⟨_, rfl⟩
  rw [hn]
  have hb' : n ≤ 4294967296 := by omega
  have HN := Lib.hid hn; clear hn
  go_enter Tryz.func76, Tryz.ntmps76
  go_wp2_with fail
  have HB0 := Lib.hid (show Below w.heap.size w ((w.alloc (.cells #[.slice a n c] 26)).alloc (.cells #[.string x] 9)) from ((Below.refl _ _).alloc (Nat.le_refl _) _).alloc (by simp) _)
  have hasc := valueAscending l a c ((w.alloc (.cells #[.slice a n c] 26)).alloc (.cells #[.string x] 9)) (HS.out.below HB0.out (Nat.le_refl _) (Nat.le_refl _) HB0.out.size) hb
  rw [HN.out, HR.out] at hasc
  refine hasc.mono ?_
  clear hasc
  rintro e w1 ⟨rfl, hb1⟩
  have hz1 : w.heap.size + 2 ≤ w1.heap.size := by have := hb1.size; simp at this; omega
  have c1 : w1.cell? ⟨w.heap.size, 0, none⟩ = some (.slice a n c) := by rw [hb1.cell (by simp; omega)]; go_simp
  have c2 : w1.cell? ⟨w.heap.size + 1, 0, none⟩ = some (.string x) := by rw [hb1.cell (by simp)]; go_simp
  have HB1 : Hid (Below w.heap.size w w1) := HB0.out.trans (hb1.mono (by simp; omega))
  clear hb1 HB0
  go_wp2_with fail
  refine (sortSearch l x a n c w.heap.size (w.heap.size + 1) 0 w.heap.size w1 (HS.out.below HB1.out (Nat.le_refl _) (Nat.le_refl _) (Nat.le_refl _)) HN.out hb' HR.out c1 c2).mono ?_
  rintro e w2 ⟨⟨r, rfl, h1, h2, h3⟩, m, rfl⟩
  have H1 := Lib.hid h1
  have H2 := Lib.hid h2
  have H3 := Lib.hid h3
  have h1' : r ≤ n := by rw [← HN.out]; exact h1
  clear h1 h2 h3
  replace c1 : (w1.drewN m).cell? ⟨w.heap.size, 0, none⟩ = some (.slice a n c) := c1
  replace c2 : (w1.drewN m).cell? ⟨w.heap.size + 1, 0, none⟩ = some (.string x) := c2
  have HB2 := Lib.hid (Below.drewN HB1.out m)
  clear HB1
  generalize w1.drewN m = w3 at *
  clear hz1
  by_cases hlt : r < n
  · have hlt' : r < l.length := by rw [HN.out]; exact hlt
    obtain ⟨b, off, rfl, _, _, c3⟩ := (HS.out.below HB2.out (Nat.le_refl _) (Nat.le_refl _) (Nat.le_refl _)).at r hlt'
    have HY := Lib.hid (show ∃ y, y = l[r] from ⟨_, rfl⟩)
    have HNO := Lib.hid (show ¬ l[r] = x → ∀ t (h : t < l.length), l[t] ≠ x by
      intro hne t ht e
      by_cases e1 : t < r
      · have := H2.out t ht e1; rw [e, bl_irrefl] at this; cases this
      · by_cases e2 : t = r
        · subst e2; exact hne e
        · have h4 := rises_lt HR.out r t hlt' ht (by omega)
          have h5 := H3.out r hlt' (Nat.le_refl _)
          rw [e] at h4; rw [h4] at h5; cases h5)
    have j0 : (0 : Int) ≤ (r : Int) := by omega
    have j1 : (r : Int) < (n : Int) := by omega
    have HEX := Lib.hid (show l[r] = x → ∃ h : r < l.length, l[r] = x from fun e => ⟨hlt', e⟩)
    generalize l[r] = y at *
    clear HY
    go_wp2_with fail
    go_quiet (fail)
    go_wp2
    go_ret2
    refine ⟨r, (y.toList == x.toList), rfl, H1.out, H2.out, H3.out, fun e => HEX.out (ba_ext (by simpa using e)), fun e => HNO.out (fun e' => by rw [e'] at e; simp at e), Below.drewN HB2.out _⟩
  · have HNO := Lib.hid (show ∀ t (h : t < l.length), l[t] ≠ x by
      intro t ht e
      have := H2.out t ht (by have := HN.out; omega)
      rw [e, bl_irrefl] at this; cases this)
    have hd : decide ((r : Int) < (n : Int)) = false := by simp; omega
    have hd2 : decide (r < n) = false := by simp; omega
    go_wp2_with fail
    go_quiet (fail)
    go_wp2
    go_ret2
    exact ⟨r, false, rfl, H1.out, H2.out, H3.out, (fun e => by cases e), fun _ => HNO.out, Below.drewN HB2.out _⟩

end Go.Proofs.YtcahpjejpimdhaaGreatDoor

namespace Go.Proofs.YtcahpjejpimdhaaGreatDoor
open Go.RowKit

def escC (c : UInt8) : List UInt8 := if c.toNat = 34 ∨ c.toNat = 92 then [92, c] else [c]
def escL (l : List UInt8) : List UInt8 := l.flatMap escC
def quoteL (l : List UInt8) : List UInt8 := 34 :: (escL l ++ [34])

theorem escL_snoc (s : ByteArray) (k : Nat) (h : k < s.size) : escL (s.data.toList.take (k + 1)) = escL (s.data.toList.take k) ++ escC s[k] := by
  unfold escL; rw [take_snoc s k h]; simp
theorem escL_length (l : List UInt8) : (escL l).length ≤ 2 * l.length := by
  induction l with
  | nil => simp [escL]
  | cons c r ih =>
    have e : escL (c :: r) = escC c ++ escL r := by simp [escL]
    rw [e, List.length_append, List.length_cons]
    have : (escC c).length ≤ 2 := by unfold escC; split <;> simp
    omega
theorem cells_snoc (l : List UInt8) (c : UInt8) : Lib.byteCells (l ++ [c]) = Lib.byteCells l ++ [.int .u8 c.toNat] := by simp [Lib.byteCells]

def QuotePost (s : ByteArray) (w : World) (e : Ending) (w' : World) : Prop := e = .returned (.tuple #[.string ⟨(quoteL s.data.toList).toArray⟩, .int .i64 0]) ∧ Below w.heap.size w w'

set_option maxHeartbeats 400000 in
set_option maxRecDepth 100000 in
theorem quoteQuote (s : ByteArray) (w : World) (hs : s.size ≤ 4096) (hu : utfV s = true) :
    Calls Tryz.prog 60 #[.string s] w (QuotePost s w) := by
  go_enter Tryz.func60, Tryz.ntmps60
  go_wp2_with fail
  refine (utfValid s _ (by omega)).mono ?_
  rintro e w1 ⟨rfl, hb1⟩
  have HB1 := Lib.hid hb1; clear hb1
  go_wp2_with fail
  have h0 : BuiF w1.heap.size w1.heap.size [] (w1.alloc (.cells #[.pointer none, .slice none 0 0] 76)) := Lib.IsBuilderF.of (Lib.fresh_isBuilder _ _ w1)
  refine (writeByte w1.heap.size w1.heap.size [] 34 _ h0 (by simp) (by simp)).mono ?_
  rintro e w2 ⟨rfl, hu2, hb2, hk2⟩
  have HU2 := Lib.hid hu2
  have HB2 := Lib.hid (show Below w1.heap.size w1 w2 from ((Below.refl _ _).alloc (Nat.le_refl _) _).trans hb2)
  clear hu2 hb2 hk2 h0
  go_wp2
  go_loopw [5, 15] (fun _ i wr => ∃ k : Nat, k ≤ s.size ∧ i = .int .i64 k ∧ BuiU w1.heap.size w1.heap.size (Lib.byteCells (34 :: escL (s.data.toList.take k))) wr ∧ Below w1.heap.size w1 wr) (fun _ i _ => s.size - (intOf i).toNat)
  case atStart => exact ⟨0, Nat.zero_le _, rfl, HU2.out, HB2.out⟩
  case round =>
    obtain ⟨k, hk, rfl, hbu, hbe⟩ := hrel
    have hl := escL_length (s.data.toList.take k)
    have hl2 : (s.data.toList.take k).length ≤ k := List.length_take_le _ _
    have hz := hbe.size
    have HBU := Lib.hid hbu
    have HBE := Lib.hid hbe
    clear hbu hbe
    by_cases hlt : k < s.size
    · have HS := Lib.hid (escL_snoc s k hlt)
      by_cases h1 : s[k].toNat = 34 ∨ s[k].toNat = 92
      · have HE : Hid (escC s[k] = [92, s[k]]) := Lib.hid (by unfold escC; rw [if_pos h1])
        rcases h1 with h1 | h1
        case' inl => have t1 : ((s[k].toNat : Int) == 34) = true := by simp; omega
        case' inr =>
          have t1 : ((s[k].toNat : Int) == 34) = false := by simp; omega
          have t2 : ((s[k].toNat : Int) == 92) = true := by simp; omega
        all_goals
          clear h1
          go_wp2_with fail
          refine (writeByte w1.heap.size w1.heap.size _ 92 _ (.inr HBU.out) (by simp [Lib.byteCells]; omega) (by omega)).mono ?_
          rintro e w3 ⟨rfl, hu3, hb3, -⟩
          have hz3 := hb3.size
          have HU3 := Lib.hid hu3
          have HB3 := Lib.hid (HBE.out.trans hb3)
          clear hu3 hb3
          go_wp2_with fail
          refine (writeByte w1.heap.size w1.heap.size _ _ _ (.inr HU3.out) (by simp [Lib.byteCells]; omega) (by omega)).mono ?_
          rintro e w4 ⟨rfl, hu4, hb4, -⟩
          have HU4 := Lib.hid hu4
          have HB4 := Lib.hid (HB3.out.trans hb4)
          clear hu4 hb4
          go_wp2
          go_roundw
          case rel => exact ⟨k + 1, by omega, by go_num, by rw [HS.out, HE.out]; simpa [Lib.byteCells] using HU4.out, HB4.out⟩
          case measure => simp [intOf]; omega
      · have HE : Hid (escC s[k] = [s[k]]) := Lib.hid (by unfold escC; rw [if_neg h1])
        have t1 : ((s[k].toNat : Int) == 34) = false := by simp; omega
        have t2 : ((s[k].toNat : Int) == 92) = false := by simp; omega
        clear h1
        go_wp2_with fail
        refine (writeByte w1.heap.size w1.heap.size _ _ _ (.inr HBU.out) (by simp [Lib.byteCells]; omega) (by omega)).mono ?_
        rintro e w4 ⟨rfl, hu4, hb4, -⟩
        have HU4 := Lib.hid hu4
        have HB4 := Lib.hid (HBE.out.trans hb4)
        clear hu4 hb4
        go_wp2
        go_roundw
        case rel => exact ⟨k + 1, by omega, by go_num, by rw [HS.out, HE.out]; simpa [Lib.byteCells] using HU4.out, HB4.out⟩
        case measure => simp [intOf]; omega
    · have HF := Lib.hid (show s.data.toList.take k = s.data.toList from List.take_of_length_le (by rw [toList_length]; omega))
      rw [HF.out] at HBU
      go_wp2_with fail
      refine (writeByte w1.heap.size w1.heap.size _ 34 _ (.inr HBU.out) (by have := escL_length s.data.toList; rw [toList_length] at this; simp [Lib.byteCells]; omega) (by omega)).mono ?_
      rintro e w3 ⟨rfl, hu3, hb3, -⟩
      have HU3 := Lib.hid (show BuiU w1.heap.size w1.heap.size (Lib.byteCells (quoteL s.data.toList)) w3 by simpa [Lib.byteCells, quoteL] using hu3)
      have HB3 := Lib.hid (HBE.out.trans hb3)
      clear hu3 hb3
      go_wp2_with fail
      refine (builderString w1.heap.size w1.heap.size _ _ (.inr HU3.out) (by simp [quoteL])).mono ?_
      rintro e w4 ⟨rfl, hb4, -⟩
      have HB4 := Lib.hid (HB1.out.trans ((HB3.out.trans hb4).mono HB1.out.size))
      clear hb4
      go_wp2
      go_ret2
      exact ⟨rfl, HB4.out⟩

end Go.Proofs.YtcahpjejpimdhaaGreatDoor
