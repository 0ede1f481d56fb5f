/- The order of texts, and rows that rise. No program in sight. The contracts of pick.TextOf, of ObjectOf's comparing closure, and of slices.Clone and slices.SortFunc at members (12 or fewer). An object that a call builds: 'obj.Names = append(obj.Names, x); obj.Items = append(obj.Items, f(y))'. No program in sight. The contract of quote.Quote: a text that may be, between quotation marks, a \ ahead of each of them and of each \. An object that a call builds of values that lie in memory already: 'obj.Names = append(obj.Names, x); obj.Items = append(obj.Items, it)'. No program in sight. -/
import Derived.Test.YtaekmmnpdbmoeaaGreatDoorJh06
import Derived.Test.YtaekmmnpdbmoeaaGreatDoorJh03
import Derived.Test.YtaekmmnpdbmoeaaGreatDoorJh00
import Derived.Shelf.SlSortCmp.SmallK
import Derived.Shelf.SlicesE.Clone
import Derived.Ground.SlsfProg

namespace Go.Proofs.YtaekmmnpdbmoeaaGreatDoor
open Go.RowKit

theorem less_irrefl : ∀ x : List UInt8, Op.bytesLess x x = false
  | [] => rfl
  | a :: x => by simp [Op.bytesLess, less_irrefl x]
theorem less_trans : ∀ x y z : List UInt8, Op.bytesLess x y = true → Op.bytesLess y z = true → Op.bytesLess x z = true
  | _, _, [], _, h => by simp [Op.bytesLess] at h
  | _, [], _ :: _, h, _ => by simp [Op.bytesLess] at h
  | [], _ :: _, _ :: _, _, _ => rfl
  | a :: x, b :: y, c :: z, h1, h2 => by
    simp only [Op.bytesLess, Bool.or_eq_true, decide_eq_true_eq, Bool.and_eq_true, beq_iff_eq] at h1 h2 ⊢
    rcases h1 with h1 | ⟨rfl, h1⟩
    · rcases h2 with h2 | ⟨rfl, h2⟩
      · exact .inl (UInt8.lt_trans h1 h2)
      · exact .inl h1
    · rcases h2 with h2 | ⟨rfl, h2⟩
      · exact .inl h2
      · exact .inr ⟨rfl, less_trans x y z h1 h2⟩
theorem less_tri : ∀ x y : List UInt8, Op.bytesLess x y = false → Op.bytesLess y x = false → x = y
  | [], [], _, _ => rfl
  | [], _ :: _, h, _ => by simp [Op.bytesLess] at h
  | _ :: _, [], _, h => by simp [Op.bytesLess] at h
  | a :: x, b :: y, h1, h2 => by
    simp only [Op.bytesLess, Bool.or_eq_false_iff, decide_eq_false_iff_not, Bool.and_eq_false_iff] at h1 h2
    have e : a = b := UInt8.le_antisymm (UInt8.not_lt.1 h2.1) (UInt8.not_lt.1 h1.1)
    subst e
    have g1 : Op.bytesLess x y = false := by rcases h1.2 with h | h; simp at h; exact h
    have g2 : Op.bytesLess y x = false := by rcases h2.2 with h | h; simp at h; exact h
    rw [less_tri x y g1 g2]

/-- Is one text less than another? -/
def bl (a b : ByteArray) : Bool := Op.bytesLess a.toList b.toList
theorem ba_ext {a b : ByteArray} (h : a.toList = b.toList) : a = b := by
  rw [ByteArray.toList_eq, ByteArray.toList_eq] at h
  exact ByteArray.ext (Array.toList_inj.1 h)
theorem bl_irrefl (a : ByteArray) : bl a a = false := less_irrefl _
theorem bl_trans {a b c : ByteArray} (h : bl a b = true) (h' : bl b c = true) : bl a c = true := less_trans _ _ _ h h'
theorem bl_tri {a b : ByteArray} (h : bl a b = false) (h' : bl b a = false) : a = b := ba_ext (less_tri _ _ h h')
theorem bl_asymm {a b : ByteArray} (h : bl a b = true) : bl b a = false := by
  cases h' : bl b a
  · rfl
  · have := bl_trans h h'; rw [bl_irrefl] at this; cases this

theorem rises_tail {a : ByteArray} {l : List ByteArray} (h : rises (a :: l) = true) : rises l = true := by
  cases l with
  | nil => rfl
  | cons b r => simp only [rises, Bool.and_eq_true] at h; exact h.2
theorem rises_head : ∀ {l : List ByteArray} {a : ByteArray} (_ : rises (a :: l) = true) (j : Nat) (h : j < l.length), bl a l[j] = true
  | [], _, _, j, h => by simp at h
  | b :: r, a, h, 0, _ => by simp only [rises, Bool.and_eq_true] at h; exact h.1
  | b :: r, a, h, j + 1, hj => by
    simp only [rises, Bool.and_eq_true] at h
    exact bl_trans h.1 (rises_head h.2 j (by simpa using hj))
theorem rises_lt : ∀ {l : List ByteArray} (_ : rises l = true) (i j : Nat) (hi : i < l.length) (hj : j < l.length), i < j → bl l[i] l[j] = true
  | [], _, i, j, hi, _, _ => by simp at hi
  | a :: r, h, 0, j + 1, _, hj, _ => rises_head h j (by simpa using hj)
  | a :: r, h, i + 1, j + 1, hi, hj, hlt => by
    simp only [List.getElem_cons_succ]
    exact rises_lt (rises_tail h) i j (by simpa using hi) (by simpa using hj) (by omega)
  | a :: r, h, i, 0, _, _, hlt => by omega

def FindPost (l : List ByteArray) (x : ByteArray) (w : World) (e : Ending) (w' : World) : Prop :=
  ∃ (r : Nat) (f : Bool), e = .returned (.tuple #[.int .i64 r, .bool f]) ∧ r ≤ l.length ∧ (∀ t (h : t < l.length), t < r → bl l[t] x = true) ∧ (∀ t (h : t < l.length), r ≤ t → bl l[t] x = false) ∧
    (f = true → ∃ h : r < l.length, l[r] = x) ∧ (f = false → ∀ t (h : t < l.length), l[t] ≠ x) ∧ Below w.heap.size w w'

end Go.Proofs.YtaekmmnpdbmoeaaGreatDoor

namespace Go.Proofs.YtaekmmnpdbmoeaaGreatDoor
open Go.RowKit Go.Shelf Go.Sort

/-- A member of an object as it lies in memory: the name, and the value's five cells. -/
structure Mem where
  name : ByteArray
  k : Int
  n : Int
  t : ByteArray
  an : Option Addr
  nn : Nat
  cn : Nat
  ai : Option Addr
  ni : Nat
  ci : Nat
instance : Inhabited Mem := ⟨⟨{ data := #[] }, 0, 0, { data := #[] }, none, 0, 0, none, 0, 0⟩⟩
def Mem.val (x : Mem) : Value := .agg #[.int .u8 x.k, .int .i64 x.n, .string x.t, .slice x.an x.nn x.cn, .slice x.ai x.ni x.ci]
def encM (x : Mem) : List Value := [.string x.name, .int .u8 x.k, .int .i64 x.n, .string x.t, .slice x.an x.nn x.cn, .slice x.ai x.ni x.ci]
def cfM (x y : Mem) : Int := Lib.compareBytes x.name.data.toList y.name.data.toList
theorem encM_len (x : Mem) : (encM x).length = 6 := rfl
theorem encM_one (x : Mem) : ∀ v ∈ encM x, v.oneCell' = true := by
  intro v hv
  simp only [encM, List.mem_cons, List.not_mem_nil, or_false] at hv
  rcases hv with rfl | rfl | rfl | rfl | rfl | rfl <;> rfl


theorem infoMember : (Tryz.prog.info? 139).map (fun i => (i.zero, i.size, i.bytes)) = some (some (.agg #[.string { data := #[] }, .int .u8 0, .int .i64 0, .string { data := #[] }, .slice none 0 0, .slice none 0 0]), 6, 96) := by kernel_rfl

theorem pickTextOf (t : ByteArray) (w : World) : Calls Tryz.prog 89 #[.string t] w fun e w' => e = .returned (.agg #[.int .u8 3, .int .i64 0, .string t, .slice none 0 0, .slice none 0 0]) ∧ w' = w.alloc (.cells #[.int .u8 3, .int .i64 0, .string t, .slice none 0 0, .slice none 0 0] 44) := by
  go_enter Tryz.func89, Tryz.ntmps89
  go_wp2
  exact bodyPost_ret (results_cell_row Tryz.results89 _ _ w.heap.size 44 _ (0, 0) _ rfl (heap_alloc_new w _) Tryz.underlying44 rfl (by kernel_rfl)) rfl ⟨rfl, rfl⟩

theorem cmpMember (x y : Mem) (W : World) : Calls Tryz.prog 113 #[.agg (encM x).toArray, .agg (encM y).toArray] W fun e w' => e = .returned (.int .i64 (cfM x y)) ∧ ∃ q os', w' = grow (W.drewN q) os' := by
  have hcon := fun W' => Tryz.strings_Compare x.name y.name W'
  unfold cfM encM
  generalize Lib.compareBytes x.name.data.toList y.name.data.toList = r at hcon ⊢
  go_enter Tryz.func113, Tryz.ntmps113
  go_wp2_with (go_at_call 114; refine (hcon _).mono ?_; rintro e w' ⟨rfl, rfl⟩)
  go_ret
  exact ⟨rfl, 0, _, by rw [alloc_eq_grow, alloc_eq_grow, grow_grow]; rfl⟩

theorem size_insInner (lt : Mem → Mem → Bool) (a : Nat) : ∀ (j : Nat) (d : Array Mem), (insInner lt a j d).size = d.size
  | 0, d => rfl
  | j + 1, d => by
    unfold insInner
    split
    · rw [size_insInner lt a j, size_swp]
    · rfl
theorem size_insOuter (lt : Mem → Mem → Bool) (a b : Nat) : ∀ (m i : Nat) (d : Array Mem), b - i ≤ m → (insOuter lt a b i d).size = d.size
  | 0, i, d, h => by unfold insOuter; rw [if_neg (by omega)]
  | m + 1, i, d, h => by
    unfold insOuter
    split
    · rw [size_insOuter lt a b m (i + 1) _ (by omega), size_insInner]
    · rfl
theorem size_insertionSort (lt : Mem → Mem → Bool) (d : Array Mem) (a b : Nat) : (insertionSort lt d a b).size = d.size := size_insOuter lt a b _ _ d (Nat.le_refl _)
/-- What is sorted stays as it is. -/
theorem ins_sorted (lt : Mem → Mem → Bool) (d : Array Mem) (b : Nat) (h : ∀ j, j + 1 < b → lt d[j + 1]! d[j]! = false) : insertionSort lt d 0 b = d := by
  have h2 : ∀ (m i : Nat), b - i ≤ m → insOuter lt 0 b i d = d := by
    intro m
    induction m with
    | zero => intro i hi; unfold insOuter; rw [if_neg (by omega)]
    | succ m ih =>
      intro i hi
      unfold insOuter
      split
      · rename_i hib
        have : insInner lt 0 i d = d := by
          rcases i with _ | j
          · rfl
          · unfold insInner; rw [h j hib]; simp
        rw [this]
        exact ih (i + 1) (by omega)
      · rfl
  exact h2 _ _ (Nat.le_refl _)

/-- slices.Clone of members. -/
theorem cloneMem (blk off cap : Nat) (d : Array Mem) (w : World) (hH : HoldsK encM 6 w blk off d) (hd : d.size ≤ 4294967296) :
    Calls Tryz.prog 111 #[.slice (some ⟨blk, off, none⟩) d.size cap] w fun e w' => ∃ g cap', e = .returned (.slice (some ⟨g, 0, none⟩) d.size cap') ∧ w.heap.size ≤ g ∧ g < w'.heap.size ∧
      HoldsK encM 6 w' g 0 d ∧ Below w.heap.size w w' := by
  obtain ⟨i0, hi0, hz0, hz1, hz2⟩ := info_parts infoMember
  have hget : ∀ j u, (flatK encM 6 d).toList[j]? = some u → j < d.size * 6 ∧ (flatK encM 6 d)[j]! = u := fun j u hj => by
    obtain ⟨hlt, he⟩ := List.getElem?_eq_some_iff.1 hj
    have hlt' : j < (flatK encM 6 d).size := by simpa using hlt
    refine ⟨by simpa using hlt', ?_⟩
    rw [getElem!_pos _ j hlt']
    simpa using he
  refine (AnyE.slices_Clone cloneMember i0 _ 6 96 hi0 hz0 hz1 hz2 rfl (by decide) Tryz.sizeOf139 blk off d.size cap (flatK encM 6 d).toList w (by simp) (by unfold maxLen; omega) (by omega) (fun j u hj => ?_) (fun u hu => ?_)).mono ?_
  · obtain ⟨h1, h2⟩ := hget j u hj
    rw [(hH j (by simpa using h1)).1, h2]
    rfl
  · obtain ⟨j, hj⟩ := List.getElem?_of_mem hu
    obtain ⟨h1, h2⟩ := hget j u hj
    rw [get_flatK _ _ _ _ h1] at h2
    subst h2
    have hm : j % 6 < (encM d[j / 6]!).length := by rw [encM_len]; omega
    rw [getElem!_pos (encM d[j / 6]!) (j % 6) hm]
    exact encM_one _ _ (List.getElem_mem hm)
  · rintro e w' ⟨v', rfl, hown, hne, hb⟩
    have hcs := hown
    rcases hown.2 with ⟨rfl, h0⟩ | ⟨g, cap', cur, rfl, hg, hh, hc, hm, hs, ht⟩
    · exact absurd rfl hne
    · have hlt : g < w'.heap.size := by
        rcases Nat.lt_or_ge g w'.heap.size with hlt | hge
        · exact hlt
        · rw [Array.getElem?_eq_none hge] at hh; cases hh
      refine ⟨g, cap', rfl, hg, hlt, fun j hj => ⟨?_, by simp [World.frozen?, hh]⟩, hb⟩
      have := hcs.cells (g := g) rfl j (flatK encM 6 d)[j]! (by rw [getElem!_pos _ j hj]; simp)
      have e : (⟨g, 0, none⟩ : Addr).add j = ⟨g, j, none⟩ := by unfold Addr.add; split <;> simp_all
      rw [e] at this
      rw [Nat.zero_add]
      exact this

theorem touch_sortWorld {w : World} {blk off n : Nat} {d : Array Mem} {os : Array Obj} : Touch (· = blk) w (sortWorldK encM 6 w blk off n d os) := by
  refine ⟨rfl, rfl, rfl, by simp [sortWorldK, putRowK, Go.Sort.ahead], fun k hk hs => ?_⟩
  rw [sortWorldK, heap_grow_old _ _ (by simp [putRowK, Go.Sort.ahead]; exact hk)]
  show (((Go.Sort.ahead w n).heap.modify blk _))[k]? = _
  rw [Array.getElem?_modify, if_neg (fun e => hs e.symm)]
  rfl

theorem sortMem (blk off cap : Nat) (d : Array Mem) (w : World) (hH : HoldsK encM 6 w blk off d) (hblk : blk < w.heap.size) (h12 : d.size ≤ 12) :
    Calls Tryz.prog 112 #[.slice (some ⟨blk, off, none⟩) d.size cap, .func (.func 113) #[] #[]] w fun e w' => e = .returned (.tuple #[]) ∧
      HoldsK encM 6 w' blk off (insertionSort (ltOf cfM) d 0 d.size) ∧ Touch (· = blk) w w' := by
  have eg : ∀ args w, (callFunc 113 args).run Tryz.prog w = .ok (.enter 113 args) w := enters_of Tryz.func113 (by kernel_rfl) rfl
  have hl : ∀ (n : Nat) (W : World), n ≤ 12 → Calls Tryz.prog 137 #[.int .u64 n] W fun e w' => (∃ l : Int, e = .returned (.int .i64 l)) ∧ w' = W := fun n W h =>
    (Tryz.bits_Len n W (by omega) (by omega)).mono fun _ _ ⟨he, hw⟩ => ⟨⟨_, he⟩, hw⟩
  have hcon := AnyQ.slices_SortFunc_small sortMember 6 Tryz.isAgg139 Tryz.sizeOf139 encM encM_len encM_one cfM 113 #[] blk off cap d w eg (fun _ _ _ _ x y => cmpMember x y _) hH hblk h12 hl
  refine hcon.mono ?_
  rintro e w' ⟨rfl, n, os, rfl⟩
  have hsz : (insertionSort (ltOf cfM) d 0 d.size).size = d.size := size_insertionSort _ _ _ _
  refine ⟨rfl, holdsK_grow encM 6 _ _ _ _ _ (by simp [putRowK, Go.Sort.ahead]; exact hblk) (holdsK_putRowK encM 6 _ _ _ d _ (holdsK_ahead encM 6 _ _ _ _ _ hH) hsz), touch_sortWorld⟩

end Go.Proofs.YtaekmmnpdbmoeaaGreatDoor

namespace Go.Proofs.YtaekmmnpdbmoeaaGreatDoor
open Go.RowKit

theorem owns_of_block {w w' : World} {base e size n : Nat} {v : Value} {cs : List Value} (h : w.ownsRow base e size v n cs) (hb : ∀ b, v.ownBlock = some b → w'.heap[b]? = w.heap[b]?) : w'.ownsRow base e size v n cs := by
  refine ⟨h.1, ?_⟩
  rcases h.2 with h2 | ⟨g, cap, cur, hv, hg, hh, r⟩
  · exact .inl h2
  · refine .inr ⟨g, cap, cur, hv, hg, ?_, r⟩
    rw [hb g (by rw [hv]; rfl)]
    exact hh

/-- The object's variable (block cb), its names and its items so far. -/
structure ObjAt (W wr : World) (cb T e1 e5 : Nat) (vn vi : Value) (ns : List ByteArray) (its : List JV) (cs : List Value) : Prop where
  lt : cb < W.heap.size
  touch : Touch (· = cb) W wr
  row : wr.rowIs cb T 5 (pick5 (.int .u8 5) (.int .i64 0) (.string { data := #[] }) vn vi)
  names : wr.ownsRow W.heap.size e1 1 vn ns.length (ns.map .string)
  items : wr.ownsRow W.heap.size e5 5 vi its.length cs
  reps : RepRow wr W.heap.size (fun b => b = cb ∨ vn.ownBlock = some b ∨ vi.ownBlock = some b) its cs
  ne : ∀ b, vn.ownBlock = some b → vi.ownBlock ≠ some b

theorem ObjAt.below {W wr w' : World} {cb T e1 e5 : Nat} {vn vi : Value} {ns : List ByteArray} {its : List JV} {cs : List Value} (h : ObjAt W wr cb T e1 e5 vn vi ns its cs) (hb : Below wr.heap.size wr w') : ObjAt W w' cb T e1 e5 vn vi ns its cs where
  lt := h.lt
  touch := h.touch.trans (Touch.of_below hb (Nat.le_refl _))
  row := below_row hb h.row h.row.lt
  names := owns_below h.names hb
  items := owns_below h.items hb
  reps := h.reps.carry hb.size (Nat.le_refl _) (fun b hb' _ => hb.block b hb') (fun _ hx => .inl hx)
  ne := h.ne

/-- One name more: 'obj.Names = append(obj.Names, x)'. -/
theorem ObjAt.name {W wr w4 : World} {cb T e1 e5 g cap : Nat} {vn vi : Value} {ns : List ByteArray} {its : List JV} {cs : List Value} (h : ObjAt W wr cb T e1 e5 vn vi ns its cs) (x : ByteArray)
    (hg : wr.grownBy w4 vn.ownBlock) (hat : vn.ownBlock = some g ∨ wr.heap.size ≤ g)
    (ho4 : w4.ownsRow W.heap.size e1 1 (.slice (some ⟨g, 0, none⟩) (ns.length + 1) cap) (ns.length + 1) (ns.map .string ++ [.string x])) :
    ObjAt W (w4.setCell ⟨cb, 3, none⟩ (.slice (some ⟨g, 0, none⟩) (ns.length + 1) cap)) cb T e1 e5 (.slice (some ⟨g, 0, none⟩) (ns.length + 1) cap) vi (ns ++ [x]) its cs := by
  have hwz : W.heap.size ≤ wr.heap.size := h.touch.size
  have hz4 := hg.size
  have hlt := h.lt
  have hon : ∀ b, vn.ownBlock = some b → W.heap.size ≤ b ∧ b < wr.heap.size := fun b hb => h.names.lt b hb
  have hoi : ∀ b, vi.ownBlock = some b → W.heap.size ≤ b ∧ b < wr.heap.size := fun b hb => h.items.lt b hb
  have s2 : ∀ b, b < wr.heap.size → vn.ownBlock ≠ some b → w4.heap[b]? = wr.heap[b]? := fun b hb hne => hg.block b hb (fun e => hne e.symm)
  have s3 : ∀ b, b ≠ cb → (w4.setCell ⟨cb, 3, none⟩ (.slice (some ⟨g, 0, none⟩) (ns.length + 1) cap)).heap[b]? = w4.heap[b]? := fun b hb => Below.heap_setCell _ _ _ _ hb
  have hcn : vn.ownBlock ≠ some cb := fun e => by have := (hon cb e).1; omega
  have hz5 : (w4.setCell ⟨cb, 3, none⟩ (.slice (some ⟨g, 0, none⟩) (ns.length + 1) cap)).heap.size = w4.heap.size := by simp [World.setCell]
  have hgb : ∀ b, (Value.slice (some ⟨g, 0, none⟩) (ns.length + 1) cap).ownBlock = some b → b = g := fun b hb => by simp [Value.ownBlock] at hb; exact hb.symm
  have hgi : vi.ownBlock ≠ some g := fun e => by
    rcases hat with ha | ha
    · exact h.ne g ha e
    · have := (hoi g e).2; omega
  refine ⟨hlt, ⟨?_, ?_, ?_, by omega, fun b hb hne => ?_⟩, ?_, ?_, ?_, ?_, ?_⟩
  · show w4.os = _; rw [hg.os, h.touch.os]
  · show w4.tape = _; rw [hg.tape, h.touch.tape]
  · show w4.output = _; rw [hg.output, h.touch.output]
  · rw [s3 b hne, s2 b (by omega) (fun e => by have := (hon b e).1; omega)]; exact h.touch.block b hb hne
  · have h4 : w4.rowIs cb T 5 _ := h.row.of_block (s2 cb (by omega) hcn)
    refine (h4.set 3 _).congr fun i hi => ?_
    rcases i with _ | _ | _ | _ | _ | i <;> first | rfl | omega
  · have := ownsRow_setCell_below ho4 hlt (Value.slice (some ⟨g, 0, none⟩) (ns.length + 1) cap) (a := ⟨cb, 3, none⟩)
    simpa using this
  · refine owns_of_block h.items fun b hb => ?_
    rw [s3 b (fun e => by have := (hoi b hb).1; omega), s2 b (hoi b hb).2 (fun e => h.ne b e hb)]
  · refine h.reps.carry (by omega) (Nat.le_refl _) (fun b hb hx => ?_) (fun b hx => ?_)
    · rw [s3 b (fun e => hx (.inl e)), s2 b hb (fun e => hx (.inr (.inl e)))]
    · rcases hx with hx | hx | hx
      · exact .inl (.inl hx)
      · rw [hgb b hx]
        rcases hat with ha | ha
        · exact .inl (.inr (.inl ha))
        · exact .inr ha
      · exact .inl (.inr (.inr hx))
  · intro b hb
    rw [hgb b hb]; exact hgi

/-- One item more: 'obj.Items = append(obj.Items, it)', the item's parts in memory behind wr. -/
theorem ObjAt.item {W wr w3 w4 : World} {cb T e1 e5 g cap lo hi : Nat} {vn vi : Value} {ns : List ByteArray} {its : List JV} {cs : List Value} {it : JV} {an ai : Option Addr} {cn ci : Nat} (h : ObjAt W wr cb T e1 e5 vn vi ns its cs)
    (hb3 : Below wr.heap.size wr w3) (hlo : wr.heap.size ≤ lo) (hhi : hi ≤ w3.heap.size) (hr3 : Rep w3 lo hi it (.agg #[.int .u8 it.kind, .int .i64 it.n, .string it.t, .slice an it.names.length cn, .slice ai it.items.length ci]))
    (hg : w3.grownBy w4 vi.ownBlock) (hat : vi.ownBlock = some g ∨ w3.heap.size ≤ g)
    (ho4 : w4.ownsRow W.heap.size e5 5 (.slice (some ⟨g, 0, none⟩) (its.length + 1) cap) (its.length + 1) (cs ++ [.int .u8 it.kind, .int .i64 it.n, .string it.t, .slice an it.names.length cn, .slice ai it.items.length ci])) :
    ObjAt W (w4.setCell ⟨cb, 4, none⟩ (.slice (some ⟨g, 0, none⟩) (its.length + 1) cap)) cb T e1 e5 vn (.slice (some ⟨g, 0, none⟩) (its.length + 1) cap) ns (its ++ [it]) (cs ++ [.int .u8 it.kind, .int .i64 it.n, .string it.t, .slice an it.names.length cn, .slice ai it.items.length ci]) := by
  have hwz : W.heap.size ≤ wr.heap.size := h.touch.size
  have hz3 := hb3.size
  have hz4 := hg.size
  have hlt := h.lt
  have hon : ∀ b, vn.ownBlock = some b → W.heap.size ≤ b ∧ b < wr.heap.size := fun b hb => h.names.lt b hb
  have hoi : ∀ b, vi.ownBlock = some b → W.heap.size ≤ b ∧ b < wr.heap.size := fun b hb => h.items.lt b hb
  have s1 : ∀ b, b < wr.heap.size → w3.heap[b]? = wr.heap[b]? := fun b hb => hb3.block b hb
  have s2 : ∀ b, b < w3.heap.size → vi.ownBlock ≠ some b → w4.heap[b]? = w3.heap[b]? := fun b hb hne => hg.block b hb (fun e => hne e.symm)
  have s3 : ∀ b, b ≠ cb → (w4.setCell ⟨cb, 4, none⟩ (.slice (some ⟨g, 0, none⟩) (its.length + 1) cap)).heap[b]? = w4.heap[b]? := fun b hb => Below.heap_setCell _ _ _ _ hb
  have hcn : vi.ownBlock ≠ some cb := fun e => by have := (hoi cb e).1; omega
  have hz5 : (w4.setCell ⟨cb, 4, none⟩ (.slice (some ⟨g, 0, none⟩) (its.length + 1) cap)).heap.size = w4.heap.size := by simp [World.setCell]
  have hgb : ∀ b, (Value.slice (some ⟨g, 0, none⟩) (its.length + 1) cap).ownBlock = some b → b = g := fun b hb => by simp [Value.ownBlock] at hb; exact hb.symm
  refine ⟨hlt, ⟨?_, ?_, ?_, by omega, fun b hb hne => ?_⟩, ?_, ?_, ?_, ?_, ?_⟩
  · show w4.os = _; rw [hg.os, hb3.os, h.touch.os]
  · show w4.tape = _; rw [hg.tape, hb3.tape, h.touch.tape]
  · show w4.output = _; rw [hg.output, hb3.output, h.touch.output]
  · rw [s3 b hne, s2 b (by omega) (fun e => by have := (hoi b e).1; omega), s1 b (by omega)]; exact h.touch.block b hb hne
  · have h4 : w4.rowIs cb T 5 _ := h.row.of_block (by rw [s2 cb (by omega) hcn, s1 cb (by omega)])
    refine (h4.set 4 _).congr fun i hi => ?_
    rcases i with _ | _ | _ | _ | _ | i <;> first | rfl | omega
  · refine owns_of_block h.names fun b hb => ?_
    have := hon b hb
    rw [s3 b (fun e => by omega), s2 b (by omega) (h.ne b hb), s1 b this.2]
  · have := ownsRow_setCell_below ho4 hlt (Value.slice (some ⟨g, 0, none⟩) (its.length + 1) cap) (a := ⟨cb, 4, none⟩)
    simpa using this
  · have c1 : RepRow (w4.setCell ⟨cb, 4, none⟩ (.slice (some ⟨g, 0, none⟩) (its.length + 1) cap)) W.heap.size (fun b => b = cb ∨ vn.ownBlock = some b ∨ (Value.slice (some ⟨g, 0, none⟩) (its.length + 1) cap).ownBlock = some b) its cs := by
      refine h.reps.carry (by omega) (Nat.le_refl _) (fun b hb hx => ?_) (fun b hx => ?_)
      · rw [s3 b (fun e => hx (.inl e)), s2 b (by omega) (fun e => hx (.inr (.inr e))), s1 b hb]
      · rcases hx with hx | hx | hx
        · exact .inl (.inl hx)
        · exact .inl (.inr (.inl hx))
        · rw [hgb b hx]
          rcases hat with ha | ha
          · exact .inl (.inr (.inr ha))
          · exact .inr (by omega)
    refine c1.snoc it lo hi an cn ai ci (by omega) (by omega) (fun b hx hb => ?_) (Rep.carry (Nat.le_refl _) (Nat.le_refl _) (fun b h1 h2 => ?_) _ _ hr3)
    · rcases hx with hx | hx | hx
      · omega
      · have := (hon b hx).2; omega
      · rw [hgb b hx] at hb
        rcases hat with ha | ha
        · have := (hoi g ha).2; omega
        · omega
    · rw [s3 b (by omega), s2 b (by omega) (fun e => by have := (hoi b e).2; omega)]
  · intro b hb e
    rw [hgb b e] at hb
    rcases hat with ha | ha
    · exact h.ne g hb ha
    · have := (hon g hb).2; omega

/-- The object at the end, as a value. -/
theorem ObjAt.done {W wr : World} {cb T e1 e5 : Nat} {vn vi : Value} {ns : List ByteArray} {its : List JV} {cs : List Value} (h : ObjAt W wr cb T e1 e5 vn vi ns its cs) :
    ∃ an cn ai ci, vn = .slice an ns.length cn ∧ vi = .slice ai its.length ci ∧ Rep wr W.heap.size wr.heap.size (.mk 5 0 { data := #[] } ns its) (.agg #[.int .u8 5, .int .i64 0, .string { data := #[] }, .slice an ns.length cn, .slice ai its.length ci]) := by
  obtain ⟨an, cn, h1, h2, h3⟩ := owns_strs h.names rfl
  obtain ⟨ai, ci, h4, h5, h6⟩ := owns_vals h.items h.reps rfl
  exact ⟨an, cn, ai, ci, h1, h4, Rep.mk (v := .mk 5 0 { data := #[] } ns its) h2 h5 h3 h6⟩

end Go.Proofs.YtaekmmnpdbmoeaaGreatDoor

namespace Go.Proofs.YtaekmmnpdbmoeaaGreatDoor
open Go.RowKit

def escC (c : UInt8) : List UInt8 := if c.toNat = 34 ∨ c.toNat = 92 then [92, c] else [c]
def escL (l : List UInt8) : List UInt8 := l.flatMap escC
def quoteL (l : List UInt8) : List UInt8 := 34 :: (escL l ++ [34])

theorem escL_snoc (s : ByteArray) (k : Nat) (h : k < s.size) : escL (s.data.toList.take (k + 1)) = escL (s.data.toList.take k) ++ escC s[k] := by
  unfold escL; rw [take_snoc s k h]; simp
theorem escL_length (l : List UInt8) : (escL l).length ≤ 2 * l.length := by
  induction l with
  | nil => simp [escL]
  | cons c r ih =>
    have e : escL (c :: r) = escC c ++ escL r := by simp [escL]
    rw [e, List.length_append, List.length_cons]
    have : (escC c).length ≤ 2 := by unfold escC; split <;> simp
    omega
theorem cells_snoc (l : List UInt8) (c : UInt8) : Lib.byteCells (l ++ [c]) = Lib.byteCells l ++ [.int .u8 c.toNat] := by simp [Lib.byteCells]

def QuotePost (s : ByteArray) (w : World) (e : Ending) (w' : World) : Prop := e = .returned (.tuple #[.string ⟨(quoteL s.data.toList).toArray⟩, .int .i64 0]) ∧ Below w.heap.size w w'

set_option maxHeartbeats 400000 in
set_option maxRecDepth 100000 in
theorem quoteQuote (s : ByteArray) (w : World) (hs : s.size ≤ 4096) (hu : utfV s = true) :
    Calls Tryz.prog 80 #[.string s] w (QuotePost s w) := by
  go_enter Tryz.func80, Tryz.ntmps80
  go_wp2_with fail
  refine (utfValid s _ (by omega)).mono ?_
  rintro e w1 ⟨rfl, hb1⟩
  have HB1 := Lib.hid hb1; clear hb1
  go_wp2_with fail
  have h0 : BuiF w1.heap.size w1.heap.size [] (w1.alloc (.cells #[.pointer none, .slice none 0 0] 118)) := Lib.IsBuilderF.of (Lib.fresh_isBuilder _ _ w1)
  refine (writeByte w1.heap.size w1.heap.size [] 34 _ h0 (by simp) (by simp)).mono ?_
  rintro e w2 ⟨rfl, hu2, hb2, hk2⟩
  have HU2 := Lib.hid hu2
  have HB2 := Lib.hid (show Below w1.heap.size w1 w2 from ((Below.refl _ _).alloc (Nat.le_refl _) _).trans hb2)
  clear hu2 hb2 hk2 h0
  go_wp2
  go_loopw [5, 15] (fun _ i wr => ∃ k : Nat, k ≤ s.size ∧ i = .int .i64 k ∧ BuiU w1.heap.size w1.heap.size (Lib.byteCells (34 :: escL (s.data.toList.take k))) wr ∧ Below w1.heap.size w1 wr) (fun _ i _ => s.size - (intOf i).toNat)
  case atStart => exact ⟨0, Nat.zero_le _, rfl, HU2.out, HB2.out⟩
  case round =>
    obtain ⟨k, hk, rfl, hbu, hbe⟩ := hrel
    have hl := escL_length (s.data.toList.take k)
    have hl2 : (s.data.toList.take k).length ≤ k := List.length_take_le _ _
    have hz := hbe.size
    have HBU := Lib.hid hbu
    have HBE := Lib.hid hbe
    clear hbu hbe
    by_cases hlt : k < s.size
    · have HS := Lib.hid (escL_snoc s k hlt)
      by_cases h1 : s[k].toNat = 34 ∨ s[k].toNat = 92
      · have HE : Hid (escC s[k] = [92, s[k]]) := Lib.hid (by unfold escC; rw [if_pos h1])
        rcases h1 with h1 | h1
        case' inl => have t1 : ((s[k].toNat : Int) == 34) = true := by simp; omega
        case' inr =>
          have t1 : ((s[k].toNat : Int) == 34) = false := by simp; omega
          have t2 : ((s[k].toNat : Int) == 92) = true := by simp; omega
        all_goals
          clear h1
          go_wp2_with fail
          refine (writeByte w1.heap.size w1.heap.size _ 92 _ (.inr HBU.out) (by simp [Lib.byteCells]; omega) (by omega)).mono ?_
          rintro e w3 ⟨rfl, hu3, hb3, -⟩
          have hz3 := hb3.size
          have HU3 := Lib.hid hu3
          have HB3 := Lib.hid (HBE.out.trans hb3)
          clear hu3 hb3
          go_wp2_with fail
          refine (writeByte w1.heap.size w1.heap.size _ _ _ (.inr HU3.out) (by simp [Lib.byteCells]; omega) (by omega)).mono ?_
          rintro e w4 ⟨rfl, hu4, hb4, -⟩
          have HU4 := Lib.hid hu4
          have HB4 := Lib.hid (HB3.out.trans hb4)
          clear hu4 hb4
          go_wp2
          go_roundw
          case rel => exact ⟨k + 1, by omega, by go_num, by rw [HS.out, HE.out]; simpa [Lib.byteCells] using HU4.out, HB4.out⟩
          case measure => simp [intOf]; omega
      · have HE : Hid (escC s[k] = [s[k]]) := Lib.hid (by unfold escC; rw [if_neg h1])
        have t1 : ((s[k].toNat : Int) == 34) = false := by simp; omega
        have t2 : ((s[k].toNat : Int) == 92) = false := by simp; omega
        clear h1
        go_wp2_with fail
        refine (writeByte w1.heap.size w1.heap.size _ _ _ (.inr HBU.out) (by simp [Lib.byteCells]; omega) (by omega)).mono ?_
        rintro e w4 ⟨rfl, hu4, hb4, -⟩
        have HU4 := Lib.hid hu4
        have HB4 := Lib.hid (HBE.out.trans hb4)
        clear hu4 hb4
        go_wp2
        go_roundw
        case rel => exact ⟨k + 1, by omega, by go_num, by rw [HS.out, HE.out]; simpa [Lib.byteCells] using HU4.out, HB4.out⟩
        case measure => simp [intOf]; omega
    · have HF := Lib.hid (show s.data.toList.take k = s.data.toList from List.take_of_length_le (by rw [toList_length]; omega))
      rw [HF.out] at HBU
      go_wp2_with fail
      refine (writeByte w1.heap.size w1.heap.size _ 34 _ (.inr HBU.out) (by have := escL_length s.data.toList; rw [toList_length] at this; simp [Lib.byteCells]; omega) (by omega)).mono ?_
      rintro e w3 ⟨rfl, hu3, hb3, -⟩
      have HU3 := Lib.hid (show BuiU w1.heap.size w1.heap.size (Lib.byteCells (quoteL s.data.toList)) w3 by simpa [Lib.byteCells, quoteL] using hu3)
      have HB3 := Lib.hid (HBE.out.trans hb3)
      clear hu3 hb3
      go_wp2_with fail
      refine (builderString w1.heap.size w1.heap.size _ _ (.inr HU3.out) (by simp [quoteL])).mono ?_
      rintro e w4 ⟨rfl, hb4, -⟩
      have HB4 := Lib.hid (HB1.out.trans ((HB3.out.trans hb4).mono HB1.out.size))
      clear hb4
      go_wp2
      go_ret2
      exact ⟨rfl, HB4.out⟩

end Go.Proofs.YtaekmmnpdbmoeaaGreatDoor

namespace Go.Proofs.YtaekmmnpdbmoeaaGreatDoor
open Go.RowKit

theorem owns_mono {w : World} {base base' e size n : Nat} {v : Value} {cs : List Value} (h : w.ownsRow base e size v n cs) (hb : base' ≤ base) : w.ownsRow base' e size v n cs := by
  refine ⟨h.1, ?_⟩
  rcases h.2 with h2 | ⟨g, cap, cur, hv, hg, r⟩
  · exact .inl h2
  · exact .inr ⟨g, cap, cur, hv, Nat.le_trans hb hg, r⟩

/-- The object's variable (block cb), its names and its items so far. -/
structure ObjAt2 (W wr : World) (B cb T e1 e5 : Nat) (vn vi : Value) (ns : List ByteArray) (its : List JV) (cs : List Value) : Prop where
  lt : cb < W.heap.size
  le : B ≤ W.heap.size
  touch : Touch (· = cb) W wr
  row : wr.rowIs cb T 5 (pick5 (.int .u8 5) (.int .i64 0) (.string { data := #[] }) vn vi)
  names : wr.ownsRow W.heap.size e1 1 vn ns.length (ns.map .string)
  items : wr.ownsRow W.heap.size e5 5 vi its.length cs
  reps : RepRow wr B (fun b => b = cb ∨ vn.ownBlock = some b ∨ vi.ownBlock = some b) its cs
  ne : ∀ b, vn.ownBlock = some b → vi.ownBlock ≠ some b

theorem ObjAt2.below {W wr w' : World} {B cb T e1 e5 : Nat} {vn vi : Value} {ns : List ByteArray} {its : List JV} {cs : List Value} (h : ObjAt2 W wr B cb T e1 e5 vn vi ns its cs) (hb : Below wr.heap.size wr w') : ObjAt2 W w' B cb T e1 e5 vn vi ns its cs where
  lt := h.lt
  le := h.le
  touch := h.touch.trans (Touch.of_below hb (Nat.le_refl _))
  row := below_row hb h.row h.row.lt
  names := owns_below h.names hb
  items := owns_below h.items hb
  reps := h.reps.carry hb.size (Nat.le_refl _) (fun b hb' _ => hb.block b hb') (fun _ hx => .inl hx)
  ne := h.ne

/-- One name more: 'obj.Names = append(obj.Names, x)'. -/
theorem ObjAt2.name {W wr w4 : World} {B cb T e1 e5 g cap : Nat} {vn vi : Value} {ns : List ByteArray} {its : List JV} {cs : List Value} (h : ObjAt2 W wr B cb T e1 e5 vn vi ns its cs) (x : ByteArray)
    (hg : wr.grownBy w4 vn.ownBlock) (hat : vn.ownBlock = some g ∨ wr.heap.size ≤ g)
    (ho4 : w4.ownsRow W.heap.size e1 1 (.slice (some ⟨g, 0, none⟩) (ns.length + 1) cap) (ns.length + 1) (ns.map .string ++ [.string x])) :
    ObjAt2 W (w4.setCell ⟨cb, 3, none⟩ (.slice (some ⟨g, 0, none⟩) (ns.length + 1) cap)) B cb T e1 e5 (.slice (some ⟨g, 0, none⟩) (ns.length + 1) cap) vi (ns ++ [x]) its cs := by
  have hwz : W.heap.size ≤ wr.heap.size := h.touch.size
  have hz4 := hg.size
  have hlt := h.lt
  have hon : ∀ b, vn.ownBlock = some b → W.heap.size ≤ b ∧ b < wr.heap.size := fun b hb => h.names.lt b hb
  have hoi : ∀ b, vi.ownBlock = some b → W.heap.size ≤ b ∧ b < wr.heap.size := fun b hb => h.items.lt b hb
  have s2 : ∀ b, b < wr.heap.size → vn.ownBlock ≠ some b → w4.heap[b]? = wr.heap[b]? := fun b hb hne => hg.block b hb (fun e => hne e.symm)
  have s3 : ∀ b, b ≠ cb → (w4.setCell ⟨cb, 3, none⟩ (.slice (some ⟨g, 0, none⟩) (ns.length + 1) cap)).heap[b]? = w4.heap[b]? := fun b hb => Below.heap_setCell _ _ _ _ hb
  have hcn : vn.ownBlock ≠ some cb := fun e => by have := (hon cb e).1; omega
  have hz5 : (w4.setCell ⟨cb, 3, none⟩ (.slice (some ⟨g, 0, none⟩) (ns.length + 1) cap)).heap.size = w4.heap.size := by simp [World.setCell]
  have hgb : ∀ b, (Value.slice (some ⟨g, 0, none⟩) (ns.length + 1) cap).ownBlock = some b → b = g := fun b hb => by simp [Value.ownBlock] at hb; exact hb.symm
  have hgi : vi.ownBlock ≠ some g := fun e => by
    rcases hat with ha | ha
    · exact h.ne g ha e
    · have := (hoi g e).2; omega
  refine ⟨hlt, h.le, ⟨?_, ?_, ?_, by omega, fun b hb hne => ?_⟩, ?_, ?_, ?_, ?_, ?_⟩
  · show w4.os = _; rw [hg.os, h.touch.os]
  · show w4.tape = _; rw [hg.tape, h.touch.tape]
  · show w4.output = _; rw [hg.output, h.touch.output]
  · rw [s3 b hne, s2 b (by omega) (fun e => by have := (hon b e).1; omega)]; exact h.touch.block b hb hne
  · have h4 : w4.rowIs cb T 5 _ := h.row.of_block (s2 cb (by omega) hcn)
    refine (h4.set 3 _).congr fun i hi => ?_
    rcases i with _ | _ | _ | _ | _ | i <;> first | rfl | omega
  · have := ownsRow_setCell_below ho4 hlt (Value.slice (some ⟨g, 0, none⟩) (ns.length + 1) cap) (a := ⟨cb, 3, none⟩)
    simpa using this
  · refine owns_of_block h.items fun b hb => ?_
    rw [s3 b (fun e => by have := (hoi b hb).1; omega), s2 b (hoi b hb).2 (fun e => h.ne b e hb)]
  · refine h.reps.carry (by omega) (Nat.le_refl _) (fun b hb hx => ?_) (fun b hx => ?_)
    · rw [s3 b (fun e => hx (.inl e)), s2 b hb (fun e => hx (.inr (.inl e)))]
    · rcases hx with hx | hx | hx
      · exact .inl (.inl hx)
      · rw [hgb b hx]
        rcases hat with ha | ha
        · exact .inl (.inr (.inl ha))
        · exact .inr ha
      · exact .inl (.inr (.inr hx))
  · intro b hb
    rw [hgb b hb]; exact hgi

/-- One item more: 'obj.Items = append(obj.Items, it)', the item's parts in memory behind wr. -/
theorem ObjAt2.item {W wr w4 : World} {B cb T e1 e5 g cap lo hi : Nat} {vn vi : Value} {ns : List ByteArray} {its : List JV} {cs : List Value} {it : JV} {an ai : Option Addr} {cn ci : Nat} (h : ObjAt2 W wr B cb T e1 e5 vn vi ns its cs)
    (hlo : B ≤ lo) (hhi : hi ≤ cb) (hr3 : Rep wr lo hi it (.agg #[.int .u8 it.kind, .int .i64 it.n, .string it.t, .slice an it.names.length cn, .slice ai it.items.length ci]))
    (hg : wr.grownBy w4 vi.ownBlock) (hat : vi.ownBlock = some g ∨ wr.heap.size ≤ g)
    (ho4 : w4.ownsRow W.heap.size e5 5 (.slice (some ⟨g, 0, none⟩) (its.length + 1) cap) (its.length + 1) (cs ++ [.int .u8 it.kind, .int .i64 it.n, .string it.t, .slice an it.names.length cn, .slice ai it.items.length ci])) :
    ObjAt2 W (w4.setCell ⟨cb, 4, none⟩ (.slice (some ⟨g, 0, none⟩) (its.length + 1) cap)) B cb T e1 e5 vn (.slice (some ⟨g, 0, none⟩) (its.length + 1) cap) ns (its ++ [it]) (cs ++ [.int .u8 it.kind, .int .i64 it.n, .string it.t, .slice an it.names.length cn, .slice ai it.items.length ci]) := by
  have hwz : W.heap.size ≤ wr.heap.size := h.touch.size
  have hz4 := hg.size
  have hlt := h.lt
  have hon : ∀ b, vn.ownBlock = some b → W.heap.size ≤ b ∧ b < wr.heap.size := fun b hb => h.names.lt b hb
  have hoi : ∀ b, vi.ownBlock = some b → W.heap.size ≤ b ∧ b < wr.heap.size := fun b hb => h.items.lt b hb
  have s2 : ∀ b, b < wr.heap.size → vi.ownBlock ≠ some b → w4.heap[b]? = wr.heap[b]? := fun b hb hne => hg.block b hb (fun e => hne e.symm)
  have s3 : ∀ b, b ≠ cb → (w4.setCell ⟨cb, 4, none⟩ (.slice (some ⟨g, 0, none⟩) (its.length + 1) cap)).heap[b]? = w4.heap[b]? := fun b hb => Below.heap_setCell _ _ _ _ hb
  have hcn : vi.ownBlock ≠ some cb := fun e => by have := (hoi cb e).1; omega
  have hz5 : (w4.setCell ⟨cb, 4, none⟩ (.slice (some ⟨g, 0, none⟩) (its.length + 1) cap)).heap.size = w4.heap.size := by simp [World.setCell]
  have hgb : ∀ b, (Value.slice (some ⟨g, 0, none⟩) (its.length + 1) cap).ownBlock = some b → b = g := fun b hb => by simp [Value.ownBlock] at hb; exact hb.symm
  refine ⟨hlt, h.le, ⟨?_, ?_, ?_, by omega, fun b hb hne => ?_⟩, ?_, ?_, ?_, ?_, ?_⟩
  · show w4.os = _; rw [hg.os, h.touch.os]
  · show w4.tape = _; rw [hg.tape, h.touch.tape]
  · show w4.output = _; rw [hg.output, h.touch.output]
  · rw [s3 b hne, s2 b (by omega) (fun e => by have := (hoi b e).1; omega)]; exact h.touch.block b hb hne
  · have h4 : w4.rowIs cb T 5 _ := h.row.of_block (by rw [s2 cb (by omega) hcn])
    refine (h4.set 4 _).congr fun i hi => ?_
    rcases i with _ | _ | _ | _ | _ | i <;> first | rfl | omega
  · refine owns_of_block h.names fun b hb => ?_
    have := hon b hb
    rw [s3 b (fun e => by omega), s2 b (by omega) (h.ne b hb)]
  · have := ownsRow_setCell_below ho4 hlt (Value.slice (some ⟨g, 0, none⟩) (its.length + 1) cap) (a := ⟨cb, 4, none⟩)
    simpa using this
  · have c1 : RepRow (w4.setCell ⟨cb, 4, none⟩ (.slice (some ⟨g, 0, none⟩) (its.length + 1) cap)) B (fun b => b = cb ∨ vn.ownBlock = some b ∨ (Value.slice (some ⟨g, 0, none⟩) (its.length + 1) cap).ownBlock = some b) its cs := by
      refine h.reps.carry (by omega) (Nat.le_refl _) (fun b hb hx => ?_) (fun b hx => ?_)
      · rw [s3 b (fun e => hx (.inl e)), s2 b (by omega) (fun e => hx (.inr (.inr e)))]
      · rcases hx with hx | hx | hx
        · exact .inl (.inl hx)
        · exact .inl (.inr (.inl hx))
        · rw [hgb b hx]
          rcases hat with ha | ha
          · exact .inl (.inr (.inr ha))
          · exact .inr (by omega)
    refine c1.snoc it lo hi an cn ai ci (by omega) (by omega) (fun b hx hb => ?_) (Rep.carry (Nat.le_refl _) (Nat.le_refl _) (fun b h1 h2 => ?_) _ _ hr3)
    · rcases hx with hx | hx | hx
      · omega
      · have := hon b hx; omega
      · rw [hgb b hx] at hb
        rcases hat with ha | ha
        · have := hoi g ha; omega
        · omega
    · rw [s3 b (by omega), s2 b (by omega) (fun e => by have := (hoi b e).1; omega)]
  · intro b hb e
    rw [hgb b e] at hb
    rcases hat with ha | ha
    · exact h.ne g hb ha
    · have := (hon g hb).2; omega

/-- The object at the end, as a value. -/
theorem ObjAt2.done {W wr : World} {B cb T e1 e5 : Nat} {vn vi : Value} {ns : List ByteArray} {its : List JV} {cs : List Value} (h : ObjAt2 W wr B cb T e1 e5 vn vi ns its cs) :
    ∃ an cn ai ci, vn = .slice an ns.length cn ∧ vi = .slice ai its.length ci ∧ Rep wr B wr.heap.size (.mk 5 0 { data := #[] } ns its) (.agg #[.int .u8 5, .int .i64 0, .string { data := #[] }, .slice an ns.length cn, .slice ai its.length ci]) := by
  obtain ⟨an, cn, h1, h2, h3⟩ := owns_strs (owns_mono h.names h.le) rfl
  obtain ⟨ai, ci, h4, h5, h6⟩ := owns_vals (owns_mono h.items h.le) h.reps rfl
  exact ⟨an, cn, ai, ci, h1, h4, Rep.mk (v := .mk 5 0 { data := #[] } ns its) h2 h5 h3 h6⟩

end Go.Proofs.YtaekmmnpdbmoeaaGreatDoor
