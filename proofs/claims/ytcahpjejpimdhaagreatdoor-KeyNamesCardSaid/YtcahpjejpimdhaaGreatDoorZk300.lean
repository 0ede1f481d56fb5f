/- The contract of the law's 'digits'. Rows of keys and of values that a text lays; append to a row that is read again behind it. No program in sight. -/
import Derived.Test.YtcahpjejpimdhaaGreatDoorZt228
import Derived.Test.YtcahpjejpimdhaaGreatDoorZt235
import Derived.OwnWalk
import Derived.ArgAppend

namespace Go.Proofs.YtcahpjejpimdhaaGreatDoor
open Go.RowKit

def digL : Nat → List UInt8
  | 0 => []
  | n + 1 => digL n ++ [97, 48]
theorem digL_length (n : Nat) : (digL n).length = 2 * n := by
  induction n with
  | zero => rfl
  | succ n ih => rw [digL, List.length_append, ih]; simp; omega
theorem dig_snoc (k : Nat) : (⟨(digL k).toArray⟩ : ByteArray) ++ ⟨#[97, 48]⟩ = ⟨(digL (k + 1)).toArray⟩ := by
  have e : ((⟨(digL k).toArray⟩ : ByteArray) ++ ⟨#[97, 48]⟩).data = (digL (k + 1)).toArray := by
    rw [ByteArray.data_append]; simp [digL]
  exact congrArg ByteArray.mk e

theorem lawDigits (n : Nat) (w : World) (hn : n ≤ 1000) : Calls Tryz.prog 40 #[.int .i64 n] w fun e w' => e = .returned (.string ⟨(digL n).toArray⟩) ∧ w = w' := by
  go_enter Tryz.func40, Tryz.ntmps40
  go_wp2
  go_loop [3, 4] (fun s i => ∃ k : Nat, k ≤ n ∧ i = .int .i64 k ∧ s = .string ⟨(digL k).toArray⟩) (fun _ i => n - (intOf i).toNat)
  case atStart => exact ⟨0, by omega, rfl, rfl⟩
  case round =>
    obtain ⟨k, hk, rfl, rfl⟩ := hrel
    have HD := Lib.hid (dig_snoc k)
    have hl : (digL k).length ≤ 2000 := by rw [digL_length]; omega
    by_cases hlt : k < n
    · have m1 : decide ((k : Int) < (n : Int)) = true := by simpa using hlt
      go_wp2
      go_round
      case rel => exact ⟨k + 1, by omega, by go_num, by rw [← HD.out]⟩
      case measure => simp [intOf]; omega
    · have m1 : decide ((k : Int) < (n : Int)) = false := by simpa using hlt
      obtain rfl : k = n := by omega
      go_wp2
      go_ret
      exact ⟨rfl, rfl⟩

end Go.Proofs.YtcahpjejpimdhaaGreatDoor

namespace Go.Proofs.YtcahpjejpimdhaaGreatDoor
open Go.RowKit

theorem rep_leaf (w : World) (lo hi : Nat) (k n : Int) (t : ByteArray) : Rep w lo hi (.mk k n t [] []) (.agg #[.int .u8 k, .int .i64 n, .string t, .slice none 0 0, .slice none 0 0]) := by
  unfold Rep; exact ⟨none, 0, none, 0, rfl, Nat.le_refl _, Nat.le_refl _, .inl rfl, .inl rfl⟩
theorem rep_now {w : World} {v : JV} {x : Value} {o : Obj} (h : Rep w 0 w.heap.size v x) : Rep (w.alloc o) 0 (w.alloc o).heap.size v x :=
  h.below ((Below.refl _ _).alloc (Nat.le_refl _) _) (Nat.le_refl _) (Nat.le_refl _) (by simp)
theorem keys_blk {w : World} {g T : Nat} {cs : Array Value} {l : List Key2} (h : w.heap[g]? = some (.cells cs T (0, 0))) (hc : cs.toList = l.flatMap encK) : KeysAt w 0 w.heap.size (some ⟨g, 0, none⟩) l := by
  refine .inr ⟨g, 0, rfl, Nat.zero_le _, heap_lt h, fun i hi => ?_⟩
  obtain ⟨e0, e1⟩ := flatK_get (M := l) i hi
  rw [← hc, Array.getElem?_toList] at e0 e1
  exact ⟨box_cell h (by rw [Nat.zero_add]; exact e0), box_cell h (by rw [Nat.zero_add]; exact e1)⟩
/-- An object of one name, of which the name's row and the Item's row lie anew. -/
theorem rep_one' {w : World} {n : ByteArray} {v : JV} {g1 g2 T1 T2 : Nat} {c0 c1 c2 c3 c4 : Value} (h1 : w.heap[g1]? = some (.cells #[.string n] T1 (0, 0))) (h2 : w.heap[g2]? = some (.cells #[c0, c1, c2, c3, c4] T2 (0, 0)))
    (hr : Rep w 0 w.heap.size v (.agg #[c0, c1, c2, c3, c4])) :
    Rep w 0 w.heap.size (.mk 5 0 { data := #[] } [n] [v]) (.agg #[.int .u8 5, .int .i64 0, .string { data := #[] }, .slice (some ⟨g1, 0, none⟩) 1 1, .slice (some ⟨g2, 0, none⟩) 1 1]) := by
  have hv := vals_one h2 (heap_lt h2) hr
  have hs : StrsAt w 0 w.heap.size (some ⟨g1, 0, none⟩) [n] := by
    refine .inr ⟨g1, 0, rfl, Nat.zero_le _, heap_lt h1, fun i hi => ?_⟩
    obtain rfl : i = 0 := by simp at hi; omega
    exact box_cell h1 rfl
  exact Rep.mk (v := .mk 5 0 { data := #[] } [n] [v]) (an := some ⟨g1, 0, none⟩) (cn := 1) (ai := some ⟨g2, 0, none⟩) (ci := 1) (Nat.le_refl _) (Nat.le_refl _) hs hv
/-- .. of two, the Items nothing. -/
theorem rep_zero2 {w : World} {n m : ByteArray} {g1 g2 T1 T2 : Nat} (h1 : w.heap[g1]? = some (.cells #[.string n, .string m] T1 (0, 0)))
    (h2 : w.heap[g2]? = some (.cells #[.int .u8 0, .int .i64 0, .string { data := #[] }, .slice none 0 0, .slice none 0 0, .int .u8 0, .int .i64 0, .string { data := #[] }, .slice none 0 0, .slice none 0 0] T2 (0, 0))) :
    Rep w 0 w.heap.size (.mk 5 0 { data := #[] } [n, m] [zeroJ, zeroJ]) (.agg #[.int .u8 5, .int .i64 0, .string { data := #[] }, .slice (some ⟨g1, 0, none⟩) 2 2, .slice (some ⟨g2, 0, none⟩) 2 2]) := by
  have hs : StrsAt w 0 w.heap.size (some ⟨g1, 0, none⟩) [n, m] := by
    refine .inr ⟨g1, 0, rfl, Nat.zero_le _, heap_lt h1, fun i hi => ?_⟩
    have : i = 0 ∨ i = 1 := by simp at hi; omega
    rcases this with rfl | rfl
    · exact box_cell h1 rfl
    · exact box_cell h1 rfl
  have hf : ∀ j, w.frozen? ⟨g2, j, none⟩ = false := fun j => by simp [World.frozen?, h2]
  have hv : ValsAt w 0 w.heap.size (some ⟨g2, 0, none⟩) [zeroJ, zeroJ] := by
    refine .inr ⟨g2, 0, rfl, Nat.zero_le _, heap_lt h2, ⟨_, _, _, h2, fun _ => rfl⟩, ?_⟩
    unfold RepL RepL RepL
    exact ⟨⟨_, _, _, _, _, box_cell h2 rfl, box_cell h2 rfl, box_cell h2 rfl, box_cell h2 rfl, box_cell h2 rfl, hf _, rep_zeroJ _ _ _⟩, ⟨_, _, _, _, _, box_cell h2 rfl, box_cell h2 rfl, box_cell h2 rfl, box_cell h2 rfl, box_cell h2 rfl, hf _, rep_zeroJ _ _ _⟩, trivial⟩
  exact Rep.mk (v := .mk 5 0 { data := #[] } [n, m] [zeroJ, zeroJ]) (an := some ⟨g1, 0, none⟩) (cn := 2) (ai := some ⟨g2, 0, none⟩) (ci := 2) (Nat.le_refl _) (Nat.le_refl _) hs hv

theorem wpList_append_keep {P : Program} (w : World) {ops : Array Oper} {rest : List Oper} {o : Oper} {a : Act} {Q : Exit → Act → World → Prop}
    (hg : o.guard = none) (s x : Operand) (t : TypeId) (hop : o.op = Op.call { callee := Callee.builtin Builtin.append, args := #[s, x], argTypes := #[t, t] })
    (base : Nat) (e : TypeId) (i : TypeInfo) (z : Value) (size bytes : Nat) (h1 : P.underlying t = some (.slice e)) (h2 : P.info? e = some i) (h3 : i.zero = some z) (h4 : i.size = size) (h5 : i.bytes = bytes) (h6 : z.cells.size = size) (h7 : 0 < size)
    (g k cap : Nat) (xs : List Value) (hs : a.eval s = .slice (some ⟨g, 0, none⟩) k cap) (hown : w.ownsRow base e size (.slice (some ⟨g, 0, none⟩) k cap) k xs)
    (ad : Addr) (m c : Nat) (news : List Value) (hx : a.eval x = .slice (some ad) m c) (hn : news.length = m * size) (hc : ∀ j u, news[j]? = some u → w.cell? (ad.add j) = some u) (h1c : ∀ u ∈ news, u.oneCell' = true)
    (b1 : k + m ≤ maxLen) (b2 : (k + m) * bytes ≤ 140737488355328) (hb : base ≤ w.heap.size)
    (h : ∀ a2 c2 w', w'.ownsRow base e size (.slice a2 (k + m) c2) (k + m) (xs ++ news) → (∀ j u, xs[j]? = some u → w'.cell? ⟨g, j, none⟩ = some u) → w.grownBy w' (some g) → wpList P ops Q rest (a.put o.dst (.slice a2 (k + m) c2)) w') : wpList P ops Q (o :: rest) a w := by
  have ea : ∀ j, (⟨g, 0, none⟩ : Addr).add j = ⟨g, j, none⟩ := fun j => by unfold Addr.add; split <;> simp_all
  have hold : ∀ j u, xs[j]? = some u → w.cell? ⟨g, j, none⟩ = some u := fun j u hu => by have := hown.cells (g := g) rfl j u hu; rwa [ea] at this
  have hgl := (hown.lt g rfl).2
  by_cases hr : k + m ≤ cap
  · refine wpList_append_fits w hg s x t hop base e i size h1 h2 h4 g k cap xs hs hown ad m c news hx hn hc h1c hr fun w' q1 q2 => h _ _ w' q1 (fun j u hu => ?_) q2
    have hj := (List.getElem?_eq_some_iff.1 hu).1
    have := q1.cells (g := g) rfl j u (by rw [List.getElem?_append_left hj]; exact hu)
    rwa [ea] at this
  · refine wpList_append_grows w hg s x t hop e i z size bytes h1 h2 h3 h4 h5 h6 h7 (some ⟨g, 0, none⟩) k cap xs hs (fun hh => by cases hh) hown.1 (fun b hb' j u hu => ?_) ad m c news hx hn hc h1c (by omega) b1 b2 fun v' w' q1 q2 => ?_
    · cases hb'; rw [ea]; exact hold j u hu
    · obtain ⟨a2, c2, rfl⟩ := owns_slice q1
      refine h a2 c2 w' (owns_mono q1 hb) (fun j u hu => ?_) ⟨q2.os, q2.tape, q2.output, q2.size, fun b hb' _ => q2.block b hb' (by simp)⟩
      rw [World.cell?_of_block (w := w) (q2.block g hgl (by simp))]
      exact hold j u hu

end Go.Proofs.YtcahpjejpimdhaaGreatDoor
