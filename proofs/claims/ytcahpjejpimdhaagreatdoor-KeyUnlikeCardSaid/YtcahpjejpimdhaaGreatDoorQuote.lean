/- The contract of quote.Quote: a text that may be, between quotation marks, a \ ahead of each of them and of each \. -/
import Derived.Test.YtcahpjejpimdhaaGreatDoorBuilder
import Derived.Test.YtcahpjejpimdhaaGreatDoorValMay
namespace Go.Proofs.YtcahpjejpimdhaaGreatDoor
open Go.RowKit

def escC (c : UInt8) : List UInt8 := if c.toNat = 34 ∨ c.toNat = 92 then [92, c] else [c]
def escL (l : List UInt8) : List UInt8 := l.flatMap escC
def quoteL (l : List UInt8) : List UInt8 := 34 :: (escL l ++ [34])

theorem escL_snoc (s : ByteArray) (k : Nat) (h : k < s.size) : escL (s.data.toList.take (k + 1)) = escL (s.data.toList.take k) ++ escC s[k] := by
  unfold escL; rw [take_snoc s k h]; simp
theorem escL_length (l : List UInt8) : (escL l).length ≤ 2 * l.length := by
  induction l with
  | nil => simp [escL]
  | cons c r ih =>
    have e : escL (c :: r) = escC c ++ escL r := by simp [escL]
    rw [e, List.length_append, List.length_cons]
    have : (escC c).length ≤ 2 := by unfold escC; split <;> simp
    omega
theorem cells_snoc (l : List UInt8) (c : UInt8) : Lib.byteCells (l ++ [c]) = Lib.byteCells l ++ [.int .u8 c.toNat] := by simp [Lib.byteCells]

def QuotePost (s : ByteArray) (w : World) (e : Ending) (w' : World) : Prop := e = .returned (.tuple #[.string ⟨(quoteL s.data.toList).toArray⟩, .int .i64 0]) ∧ Below w.heap.size w w'

set_option maxHeartbeats 400000 in
set_option maxRecDepth 100000 in
theorem quoteQuote (s : ByteArray) (w : World) (hs : s.size ≤ 4096) (hu : utfV s = true) :
    Calls Tryz.prog 60 #[.string s] w (QuotePost s w) := by
  go_enter Tryz.func60, Tryz.ntmps60
  go_wp2_with fail
  refine (utfValid s _ (by omega)).mono ?_
  rintro e w1 ⟨rfl, hb1⟩
  have HB1 := Lib.hid hb1; clear hb1
  go_wp2_with fail
  have h0 : BuiF w1.heap.size w1.heap.size [] (w1.alloc (.cells #[.pointer none, .slice none 0 0] 76)) := Lib.IsBuilderF.of (Lib.fresh_isBuilder _ _ w1)
  refine (writeByte w1.heap.size w1.heap.size [] 34 _ h0 (by simp) (by simp)).mono ?_
  rintro e w2 ⟨rfl, hu2, hb2, hk2⟩
  have HU2 := Lib.hid hu2
  have HB2 := Lib.hid (show Below w1.heap.size w1 w2 from ((Below.refl _ _).alloc (Nat.le_refl _) _).trans hb2)
  clear hu2 hb2 hk2 h0
  go_wp2
  go_loopw [5, 15] (fun _ i wr => ∃ k : Nat, k ≤ s.size ∧ i = .int .i64 k ∧ BuiU w1.heap.size w1.heap.size (Lib.byteCells (34 :: escL (s.data.toList.take k))) wr ∧ Below w1.heap.size w1 wr) (fun _ i _ => s.size - (intOf i).toNat)
  case atStart => exact ⟨0, Nat.zero_le _, rfl, HU2.out, HB2.out⟩
  case round =>
    obtain ⟨k, hk, rfl, hbu, hbe⟩ := hrel
    have hl := escL_length (s.data.toList.take k)
    have hl2 : (s.data.toList.take k).length ≤ k := List.length_take_le _ _
    have hz := hbe.size
    have HBU := Lib.hid hbu
    have HBE := Lib.hid hbe
    clear hbu hbe
    by_cases hlt : k < s.size
    · have HS := Lib.hid (escL_snoc s k hlt)
      by_cases h1 : s[k].toNat = 34 ∨ s[k].toNat = 92
      · have HE : Hid (escC s[k] = [92, s[k]]) := Lib.hid (by unfold escC; rw [if_pos h1])
        rcases h1 with h1 | h1
        case' inl => have t1 : ((s[k].toNat : Int) == 34) = true := by simp; omega
        case' inr =>
          have t1 : ((s[k].toNat : Int) == 34) = false := by simp; omega
          have t2 : ((s[k].toNat : Int) == 92) = true := by simp; omega
        all_goals
          clear h1
          go_wp2_with fail
          refine (writeByte w1.heap.size w1.heap.size _ 92 _ (.inr HBU.out) (by simp [Lib.byteCells]; omega) (by omega)).mono ?_
          rintro e w3 ⟨rfl, hu3, hb3, -⟩
          have hz3 := hb3.size
          have HU3 := Lib.hid hu3
          have HB3 := Lib.hid (HBE.out.trans hb3)
          clear hu3 hb3
          go_wp2_with fail
          refine (writeByte w1.heap.size w1.heap.size _ _ _ (.inr HU3.out) (by simp [Lib.byteCells]; omega) (by omega)).mono ?_
          rintro e w4 ⟨rfl, hu4, hb4, -⟩
          have HU4 := Lib.hid hu4
          have HB4 := Lib.hid (HB3.out.trans hb4)
          clear hu4 hb4
          go_wp2
          go_roundw
          case rel => exact ⟨k + 1, by omega, by go_num, by rw [HS.out, HE.out]; simpa [Lib.byteCells] using HU4.out, HB4.out⟩
          case measure => simp [intOf]; omega
      · have HE : Hid (escC s[k] = [s[k]]) := Lib.hid (by unfold escC; rw [if_neg h1])
        have t1 : ((s[k].toNat : Int) == 34) = false := by simp; omega
        have t2 : ((s[k].toNat : Int) == 92) = false := by simp; omega
        clear h1
        go_wp2_with fail
        refine (writeByte w1.heap.size w1.heap.size _ _ _ (.inr HBU.out) (by simp [Lib.byteCells]; omega) (by omega)).mono ?_
        rintro e w4 ⟨rfl, hu4, hb4, -⟩
        have HU4 := Lib.hid hu4
        have HB4 := Lib.hid (HBE.out.trans hb4)
        clear hu4 hb4
        go_wp2
        go_roundw
        case rel => exact ⟨k + 1, by omega, by go_num, by rw [HS.out, HE.out]; simpa [Lib.byteCells] using HU4.out, HB4.out⟩
        case measure => simp [intOf]; omega
    · have HF := Lib.hid (show s.data.toList.take k = s.data.toList from List.take_of_length_le (by rw [toList_length]; omega))
      rw [HF.out] at HBU
      go_wp2_with fail
      refine (writeByte w1.heap.size w1.heap.size _ 34 _ (.inr HBU.out) (by have := escL_length s.data.toList; rw [toList_length] at this; simp [Lib.byteCells]; omega) (by omega)).mono ?_
      rintro e w3 ⟨rfl, hu3, hb3, -⟩
      have HU3 := Lib.hid (show BuiU w1.heap.size w1.heap.size (Lib.byteCells (quoteL s.data.toList)) w3 by simpa [Lib.byteCells, quoteL] using hu3)
      have HB3 := Lib.hid (HBE.out.trans hb3)
      clear hu3 hb3
      go_wp2_with fail
      refine (builderString w1.heap.size w1.heap.size _ _ (.inr HU3.out) (by simp [quoteL])).mono ?_
      rintro e w4 ⟨rfl, hb4, -⟩
      have HB4 := Lib.hid (HB1.out.trans ((HB3.out.trans hb4).mono HB1.out.size))
      clear hb4
      go_wp2
      go_ret2
      exact ⟨rfl, HB4.out⟩

end Go.Proofs.YtcahpjejpimdhaaGreatDoor
