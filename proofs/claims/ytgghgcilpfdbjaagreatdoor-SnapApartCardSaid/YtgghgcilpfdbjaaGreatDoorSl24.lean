/- snap.Value: what its loop has made so far; the contract's parts in plain words. -/
import Derived.Test.YtgghgcilpfdbjaaGreatDoorSl17
import Derived.Test.YtgghgcilpfdbjaaGreatDoorSl23
import Derived.Test.YtgghgcilpfdbjaaGreatDoorSl06
import Derived.Test.YtgghgcilpfdbjaaGreatDoorSl09
import Derived.Test.YtgghgcilpfdbjaaGreatDoorSl02

namespace Go.Proofs.YtgghgcilpfdbjaaGreatDoor
open Go.RowKit Go.Shelf Go.Sort

theorem year_top (f y d : Nat) : yearN f y d ≤ y + f := by
  induction f generalizing y with
  | zero => exact Nat.le_refl _
  | succ f ih =>
    unfold yearN
    split
    · have := ih (y + 1); omega
    · omega
theorem month_top (y f m d : Nat) : (monthN y f m d).1 ≤ m + f ∧ (monthN y f m d).2 ≤ d := by
  induction f generalizing m d with
  | zero => exact ⟨Nat.le_refl _, Nat.le_refl _⟩
  | succ f ih =>
    unfold monthN
    split
    · have := ih (m + 1) (d - daysN y m); omega
    · exact ⟨by omega, Nat.le_refl _⟩
theorem pad_top (n wd : Nat) (hn : n ≤ 9223372036854775806) (hw : wd ≤ 4) : (padL n wd).length ≤ 40 := by
  unfold padL
  have := Lib.itoa_length_le (n : Int) (by omega) (by omega)
  simp only [List.length_append, List.length_replicate]
  omega
theorem dateL_short (n : Nat) (h : n ≤ 253402300799) : (dateL n).length ≤ 1000 := by
  unfold dateL
  have h1 := year_top 8030 1970 (n / 86400)
  have h2 := month_top (yearN 8030 1970 (n / 86400)) 12 1 (n / 86400 - startN (yearN 8030 1970 (n / 86400)))
  have a1 := pad_top (yearN 8030 1970 (n / 86400)) 4 (by omega) (by decide)
  have a2 := pad_top (monthN (yearN 8030 1970 (n / 86400)) 12 1 (n / 86400 - startN (yearN 8030 1970 (n / 86400)))).1 2 (by omega) (by decide)
  have a3 := pad_top ((monthN (yearN 8030 1970 (n / 86400)) 12 1 (n / 86400 - startN (yearN 8030 1970 (n / 86400)))).2 + 1) 2 (by omega) (by decide)
  have a4 := pad_top (n % 86400 / 3600) 2 (by omega) (by decide)
  have a5 := pad_top (n % 86400 / 60 % 60) 2 (by omega) (by decide)
  have a6 := pad_top (n % 86400 % 60) 2 (by omega) (by decide)
  simp only [List.length_append, List.length_cons, List.length_nil]
  omega
def SnapValPost (s : SnapV) (w : World) (e : Ending) (w' : World) : Prop :=
  ∃ an cn ai ci, e = .returned (.tuple #[.agg #[.int .u8 5, .int .i64 0, .string { data := #[] }, .slice an 4 cn, .slice ai 4 ci], .int .i64 0]) ∧
    Rep w' w.heap.size w'.heap.size (snapJ s) (.agg #[.int .u8 5, .int .i64 0, .string { data := #[] }, .slice an 4 cn, .slice ai 4 ci]) ∧ Below w.heap.size w w'
/-- What PinValue makes of each pin of a row. -/
def PinsMade (l : List PinV) : Prop := ∀ p ∈ l, ∀ ha hc w, KeysAt w 0 w.heap.size ha p.hs → Calls Tryz.prog 27 #[.agg #[.string p.name, .int .i64 p.ver, .int .i64 p.len, .slice ha p.hs.length hc]] w (PinValPost p w)
/-- The members so far. -/
def MembsAt (W0 : Nat) (w : World) (v : Value) (l : List PinV) (k : Nat) : Prop :=
  (∃ g cap, v = .slice (some ⟨g, 0, none⟩) k cap) ∧ ∃ ms, MemsAt W0 w v ms ((l.take k).map pinJ) ∧ ms.map (·.name) = (l.take k).map (·.name)
theorem holds_some {W0 : Nat} {w : World} {g cap : Nat} {ms : List Mem} (ho : w.ownsRow W0 74 6 (.slice (some ⟨g, 0, none⟩) ms.length cap) ms.length (flatM ms)) : g < w.heap.size ∧ HoldsK encM 6 w g 0 ms.toArray := by
  rcases Nat.eq_zero_or_pos ms.length with h | h
  · rcases ho.2 with ⟨hv, _⟩ | ⟨g', cap', cur, hv, hg, hh, hc, hm, hs, ht⟩
    · cases hv
    · cases hv
      refine ⟨heap_lt hh, fun j hj => ?_⟩
      simp [h] at hj
  · obtain ⟨g', cap', hv, hlt, hH⟩ := holds_own ho h
    cases hv
    exact ⟨hlt, hH⟩
theorem rises_bl {l : List PinV} (h : rises (l.map (·.name)) = true) {ms : List Mem} (hn : ms.map (·.name) = l.map (·.name)) : RisesM ms.toArray := by
  intro i j hj hij
  have hl : ms.length = l.length := by have := congrArg List.length hn; simpa using this
  have hj' : j < ms.length := by simpa using hj
  have hs := rises_lts _ h i j (by simp; omega) (by simp; omega) hij
  have e : ∀ q (hq : q < ms.length), ms[q].name = l[q].name := fun q hq => by
    have := List.getElem_of_eq hn (i := q) (by simpa using hq)
    simpa using this
  simp only [List.getElem_toArray]
  unfold bl
  rw [e i (by omega), e j hj']
  simpa using hs
/-- The object of the pins. -/
theorem metaObj {l : List PinV} (h : rises (l.map (·.name)) = true) (hl : l.length ≤ 256) (hw : ∀ p ∈ l, (pinJ p).wt ≤ 4294967296) {W0 : Nat} (h0 : 0 < W0) {w : World} {v : Value} (hM : MembsAt W0 w v l l.length) :
    Calls Tryz.prog 42 #[v] w (ObjPost (l.map (·.name)) (l.map pinJ) w) := by
  obtain ⟨⟨g, cap, rfl⟩, ms, hms, hn⟩ := hM
  rw [List.take_length] at hms hn
  have hlen : ms.length = l.length := by have := congrArg List.length hn; simpa using this
  have hown := hms.own
  rw [← hlen] at hown ⊢
  obtain ⟨hlt, hH⟩ := holds_some hown
  have := pickObjectOfR ms.toArray (l.map pinJ) g 0 cap w W0 w.heap.size hH hlt (by simp; omega) (rises_bl h hn) (by simp [hlen]) (fun i hi => ?_) (Nat.le_refl _)
  · rw [show (ms.toArray.toList.map (·.name)) = l.map (·.name) by simpa using hn] at this
    simpa using this
  · have hi' : i < l.length := by simpa using hi
    obtain ⟨lo, hi2, h1, h2, _, hr⟩ := hms.reps i hi
    refine ⟨?_, ?_, fun k _ => .inl h0⟩
    · rw [getElem!_pos ms.toArray i (by simp; omega)]
      simp only [List.getElem_toArray]
      exact Rep.carry h1 h2 (fun _ _ _ => rfl) _ _ hr
    · rw [List.getElem_map]
      exact hw _ (List.getElem_mem hi')
theorem ins_four (a b c d : Mem) (h1 : ltOf cfM b a = false) (h2 : ltOf cfM c b = true) (h3 : ltOf cfM c a = false) (h4 : ltOf cfM d b = true) (h5 : ltOf cfM d c = false) : insertionSort (ltOf cfM) #[a, b, c, d] 0 4 = #[a, c, d, b] := by
  unfold insertionSort insOuter
  rw [if_pos (by decide)]
  unfold insOuter
  rw [if_pos (by decide)]
  unfold insOuter
  rw [if_pos (by decide)]
  unfold insOuter
  rw [if_neg (by decide)]
  have s1 : insInner (ltOf cfM) 0 (0 + 1) #[a, b, c, d] = #[a, b, c, d] := by
    unfold insInner
    have e : (decide (0 + 1 > 0) && ltOf cfM #[a, b, c, d][0 + 1]! #[a, b, c, d][0]!) = false := by simpa using h1
    rw [e]; rfl
  have s2 : insInner (ltOf cfM) 0 (0 + 1 + 1) #[a, b, c, d] = #[a, c, b, d] := by
    unfold insInner
    have e : (decide (0 + 1 + 1 > 0) && ltOf cfM #[a, b, c, d][0 + 1 + 1]! #[a, b, c, d][0 + 1]!) = true := by simpa using h2
    rw [if_pos e]
    have f : swp #[a, b, c, d] (0 + 1 + 1) (0 + 1) = #[a, c, b, d] := rfl
    rw [f]
    unfold insInner
    have e : (decide (0 + 1 > 0) && ltOf cfM #[a, c, b, d][0 + 1]! #[a, c, b, d][0]!) = false := by simpa using h3
    rw [e]; rfl
  have s3 : insInner (ltOf cfM) 0 (0 + 1 + 1 + 1) #[a, c, b, d] = #[a, c, d, b] := by
    unfold insInner
    have e : (decide (0 + 1 + 1 + 1 > 0) && ltOf cfM #[a, c, b, d][0 + 1 + 1 + 1]! #[a, c, b, d][0 + 1 + 1]!) = true := by simpa using h4
    rw [if_pos e]
    have f : swp #[a, c, b, d] (0 + 1 + 1 + 1) (0 + 1 + 1) = #[a, c, d, b] := rfl
    rw [f]
    unfold insInner
    have e : (decide (0 + 1 + 1 > 0) && ltOf cfM #[a, c, d, b][0 + 1 + 1]! #[a, c, d, b][0 + 1]!) = false := by simpa using h5
    rw [e]; rfl
  rw [s1, s2, s3]
/-- The members of a snapshot's object, in the row in which they are given. -/
def snapMs (n : Int) (t : ByteArray) (an : Option Addr) (nn cn : Nat) (ai : Option Addr) (ni ci : Nat) : Array Mem := #[memT typN snpN, memN verN n, memT expN t, ⟨metN, 5, 0, { data := #[] }, an, nn, cn, ai, ni, ci⟩]
theorem objSnap (n : Int) (t : ByteArray) (m : JV) (an : Option Addr) (cn : Nat) (ai : Option Addr) (ci : Nat) (blk cap : Nat) (w : World) (lo hi : Nat) (_hk : m.kind = 5 ∧ m.n = 0 ∧ m.t = { data := #[] }) (hlo : 0 < lo) (hhi : hi ≤ w.heap.size) (ht : t.size ≤ 4294967000) (hwt : m.wt ≤ 4294967296)
    (hR : Rep w lo hi m (.agg #[.int .u8 5, .int .i64 0, .string { data := #[] }, .slice an m.names.length cn, .slice ai m.items.length ci]))
    (hH : HoldsK encM 6 w blk 0 (snapMs n t an m.names.length cn ai m.items.length ci)) (hb : blk < w.heap.size) :
    Calls Tryz.prog 42 #[.slice (some ⟨blk, 0, none⟩) 4 cap] w (ObjPost [typN, expN, metN, verN] [txtJ snpN, txtJ t, m, numJ n] w) := by
  refine pickObjectOf (snapMs n t an m.names.length cn ai m.items.length ci) #[memT typN snpN, memT expN t, ⟨metN, 5, 0, { data := #[] }, an, m.names.length, cn, ai, m.items.length, ci⟩, memN verN n] [txtJ snpN, txtJ t, m, numJ n] blk 0 cap w lo hi hH hb (by simp [snapMs]) ?_ rfl ?_ ?_ hhi
  · unfold snapMs
    refine ins_four _ _ _ _ ?_ ?_ ?_ ?_ ?_
    · show decide (Lib.compareBytes verN.data.toList typN.data.toList < 0) = false; decide
    · show decide (Lib.compareBytes expN.data.toList verN.data.toList < 0) = true; decide
    · show decide (Lib.compareBytes expN.data.toList typN.data.toList < 0) = false; decide
    · show decide (Lib.compareBytes metN.data.toList verN.data.toList < 0) = true; decide
    · show decide (Lib.compareBytes metN.data.toList expN.data.toList < 0) = false; decide
  · intro i hi
    match i, hi with
    | 0, _ => exact ⟨rep_txt _ _ _ _, by simp [txtJ, JV.wt, JV.wts, bytesSum, snpN, ByteArray.size], fun k h => by simp [txtJ, JV.items] at h⟩
    | 1, _ => exact ⟨rep_txt _ _ _ _, by simp [txtJ, JV.wt, JV.wts, bytesSum]; omega, fun k h => by simp [txtJ, JV.items] at h⟩
    | 2, _ => exact ⟨hR, hwt, fun k h => .inl hlo⟩
    | 3, _ => exact ⟨rep_num _ _ _ _, by simp [numJ, JV.wt, JV.wts, bytesSum, ByteArray.size], fun k h => by simp [numJ, JV.items] at h⟩
  · intro i hi
    have : i = 0 ∨ i = 1 ∨ i = 2 := by simp at hi; omega
    rcases this with rfl | rfl | rfl
    · show typN ≠ expN; decide
    · show expN ≠ metN; decide
    · show metN ≠ verN; decide
end Go.Proofs.YtgghgcilpfdbjaaGreatDoor
