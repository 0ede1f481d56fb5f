/- The contracts of pick.TextOf, of ObjectOf's comparing closure, and of slices.Clone and slices.SortFunc at members (12 or fewer). -/
import Derived.Test.YtcahpjejpimdhaaGreatDoorGet
import Derived.Shelf.SlSortCmp.SmallK
import Derived.Shelf.SlicesE.Clone
import Derived.Ground.SlsfProg
namespace Go.Proofs.YtcahpjejpimdhaaGreatDoor
open Go.RowKit Go.Shelf Go.Sort

/-- A member of an object as it lies in memory: the name, and the value's five cells. -/
structure Mem where
  name : ByteArray
  k : Int
  n : Int
  t : ByteArray
  an : Option Addr
  nn : Nat
  cn : Nat
  ai : Option Addr
  ni : Nat
  ci : Nat
instance : Inhabited Mem := ⟨⟨{ data := #[] }, 0, 0, { data := #[] }, none, 0, 0, none, 0, 0⟩⟩
def Mem.val (x : Mem) : Value := .agg #[.int .u8 x.k, .int .i64 x.n, .string x.t, .slice x.an x.nn x.cn, .slice x.ai x.ni x.ci]
def encM (x : Mem) : List Value := [.string x.name, .int .u8 x.k, .int .i64 x.n, .string x.t, .slice x.an x.nn x.cn, .slice x.ai x.ni x.ci]
def cfM (x y : Mem) : Int := Lib.compareBytes x.name.data.toList y.name.data.toList
theorem encM_len (x : Mem) : (encM x).length = 6 := rfl
theorem encM_one (x : Mem) : ∀ v ∈ encM x, v.oneCell' = true := by
  intro v hv
  simp only [encM, List.mem_cons, List.not_mem_nil, or_false] at hv
  rcases hv with rfl | rfl | rfl | rfl | rfl | rfl <;> rfl


theorem infoMember : (Tryz.prog.info? 67).map (fun i => (i.zero, i.size, i.bytes)) = some (some (.agg #[.string { data := #[] }, .int .u8 0, .int .i64 0, .string { data := #[] }, .slice none 0 0, .slice none 0 0]), 6, 96) := by kernel_rfl

theorem pickTextOf (t : ByteArray) (w : World) : Calls Tryz.prog 46 #[.string t] w fun e w' => e = .returned (.agg #[.int .u8 3, .int .i64 0, .string t, .slice none 0 0, .slice none 0 0]) ∧ w' = w.alloc (.cells #[.int .u8 3, .int .i64 0, .string t, .slice none 0 0, .slice none 0 0] 29) := by
  go_enter Tryz.func46, Tryz.ntmps46
  go_wp2
  exact bodyPost_ret (results_cell_row Tryz.results46 _ _ w.heap.size 29 _ (0, 0) _ rfl (heap_alloc_new w _) Tryz.underlying29 rfl (by kernel_rfl)) rfl ⟨rfl, rfl⟩

theorem cmpMember (x y : Mem) (W : World) : Calls Tryz.prog 80 #[.agg (encM x).toArray, .agg (encM y).toArray] W fun e w' => e = .returned (.int .i64 (cfM x y)) ∧ ∃ q os', w' = grow (W.drewN q) os' := by
  have hcon := fun W' => Tryz.strings_Compare x.name y.name W'
  unfold cfM encM
  generalize Lib.compareBytes x.name.data.toList y.name.data.toList = r at hcon ⊢
  go_enter Tryz.func80, Tryz.ntmps80
  go_wp2_with (go_at_call 81; refine (hcon _).mono ?_; rintro e w' ⟨rfl, rfl⟩)
  go_ret
  exact ⟨rfl, 0, _, by rw [alloc_eq_grow, alloc_eq_grow, grow_grow]; rfl⟩

theorem size_insInner (lt : Mem → Mem → Bool) (a : Nat) : ∀ (j : Nat) (d : Array Mem), (insInner lt a j d).size = d.size
  | 0, d => rfl
  | j + 1, d => by
    unfold insInner
    split
    · rw [size_insInner lt a j, size_swp]
    · rfl
theorem size_insOuter (lt : Mem → Mem → Bool) (a b : Nat) : ∀ (m i : Nat) (d : Array Mem), b - i ≤ m → (insOuter lt a b i d).size = d.size
  | 0, i, d, h => by unfold insOuter; rw [if_neg (by omega)]
  | m + 1, i, d, h => by
    unfold insOuter
    split
    · rw [size_insOuter lt a b m (i + 1) _ (by omega), size_insInner]
    · rfl
theorem size_insertionSort (lt : Mem → Mem → Bool) (d : Array Mem) (a b : Nat) : (insertionSort lt d a b).size = d.size := size_insOuter lt a b _ _ d (Nat.le_refl _)
/-- What is sorted stays as it is. -/
theorem ins_sorted (lt : Mem → Mem → Bool) (d : Array Mem) (b : Nat) (h : ∀ j, j + 1 < b → lt d[j + 1]! d[j]! = false) : insertionSort lt d 0 b = d := by
  have h2 : ∀ (m i : Nat), b - i ≤ m → insOuter lt 0 b i d = d := by
    intro m
    induction m with
    | zero => intro i hi; unfold insOuter; rw [if_neg (by omega)]
    | succ m ih =>
      intro i hi
      unfold insOuter
      split
      · rename_i hib
        have : insInner lt 0 i d = d := by
          rcases i with _ | j
          · rfl
          · unfold insInner; rw [h j hib]; simp
        rw [this]
        exact ih (i + 1) (by omega)
      · rfl
  exact h2 _ _ (Nat.le_refl _)

/-- slices.Clone of members. -/
theorem cloneMem (blk off cap : Nat) (d : Array Mem) (w : World) (hH : HoldsK encM 6 w blk off d) (hd : d.size ≤ 4294967296) :
    Calls Tryz.prog 78 #[.slice (some ⟨blk, off, none⟩) d.size cap] w fun e w' => ∃ g cap', e = .returned (.slice (some ⟨g, 0, none⟩) d.size cap') ∧ w.heap.size ≤ g ∧ g < w'.heap.size ∧
      HoldsK encM 6 w' g 0 d ∧ Below w.heap.size w w' := by
  obtain ⟨i0, hi0, hz0, hz1, hz2⟩ := info_parts infoMember
  have hget : ∀ j u, (flatK encM 6 d).toList[j]? = some u → j < d.size * 6 ∧ (flatK encM 6 d)[j]! = u := fun j u hj => by
    obtain ⟨hlt, he⟩ := List.getElem?_eq_some_iff.1 hj
    have hlt' : j < (flatK encM 6 d).size := by simpa using hlt
    refine ⟨by simpa using hlt', ?_⟩
    rw [getElem!_pos _ j hlt']
    simpa using he
  refine (AnyE.slices_Clone cloneMember i0 _ 6 96 hi0 hz0 hz1 hz2 rfl (by decide) Tryz.sizeOf67 blk off d.size cap (flatK encM 6 d).toList w (by simp) (by unfold maxLen; omega) (by omega) (fun j u hj => ?_) (fun u hu => ?_)).mono ?_
  · obtain ⟨h1, h2⟩ := hget j u hj
    rw [(hH j (by simpa using h1)).1, h2]
    rfl
  · obtain ⟨j, hj⟩ := List.getElem?_of_mem hu
    obtain ⟨h1, h2⟩ := hget j u hj
    rw [get_flatK _ _ _ _ h1] at h2
    subst h2
    have hm : j % 6 < (encM d[j / 6]!).length := by rw [encM_len]; omega
    rw [getElem!_pos (encM d[j / 6]!) (j % 6) hm]
    exact encM_one _ _ (List.getElem_mem hm)
  · rintro e w' ⟨v', rfl, hown, hne, hb⟩
    have hcs := hown
    rcases hown.2 with ⟨rfl, h0⟩ | ⟨g, cap', cur, rfl, hg, hh, hc, hm, hs, ht⟩
    · exact absurd rfl hne
    · have hlt : g < w'.heap.size := by
        rcases Nat.lt_or_ge g w'.heap.size with hlt | hge
        · exact hlt
        · rw [Array.getElem?_eq_none hge] at hh; cases hh
      refine ⟨g, cap', rfl, hg, hlt, fun j hj => ⟨?_, by simp [World.frozen?, hh]⟩, hb⟩
      have := hcs.cells (g := g) rfl j (flatK encM 6 d)[j]! (by rw [getElem!_pos _ j hj]; simp)
      have e : (⟨g, 0, none⟩ : Addr).add j = ⟨g, j, none⟩ := by unfold Addr.add; split <;> simp_all
      rw [e] at this
      rw [Nat.zero_add]
      exact this

theorem touch_sortWorld {w : World} {blk off n : Nat} {d : Array Mem} {os : Array Obj} : Touch (· = blk) w (sortWorldK encM 6 w blk off n d os) := by
  refine ⟨rfl, rfl, rfl, by simp [sortWorldK, putRowK, Go.Sort.ahead], fun k hk hs => ?_⟩
  rw [sortWorldK, heap_grow_old _ _ (by simp [putRowK, Go.Sort.ahead]; exact hk)]
  show (((Go.Sort.ahead w n).heap.modify blk _))[k]? = _
  rw [Array.getElem?_modify, if_neg (fun e => hs e.symm)]
  rfl

theorem sortMem (blk off cap : Nat) (d : Array Mem) (w : World) (hH : HoldsK encM 6 w blk off d) (hblk : blk < w.heap.size) (h12 : d.size ≤ 12) :
    Calls Tryz.prog 79 #[.slice (some ⟨blk, off, none⟩) d.size cap, .func (.func 80) #[] #[]] w fun e w' => e = .returned (.tuple #[]) ∧
      HoldsK encM 6 w' blk off (insertionSort (ltOf cfM) d 0 d.size) ∧ Touch (· = blk) w w' := by
  have eg : ∀ args w, (callFunc 80 args).run Tryz.prog w = .ok (.enter 80 args) w := enters_of Tryz.func80 (by kernel_rfl) rfl
  have hl : ∀ (n : Nat) (W : World), n ≤ 12 → Calls Tryz.prog 102 #[.int .u64 n] W fun e w' => (∃ l : Int, e = .returned (.int .i64 l)) ∧ w' = W := fun n W h =>
    (Tryz.bits_Len n W (by omega) (by omega)).mono fun _ _ ⟨he, hw⟩ => ⟨⟨_, he⟩, hw⟩
  have hcon := AnyQ.slices_SortFunc_small sortMember 6 Tryz.isAgg67 Tryz.sizeOf67 encM encM_len encM_one cfM 80 #[] blk off cap d w eg (fun _ _ _ _ x y => cmpMember x y _) hH hblk h12 hl
  refine hcon.mono ?_
  rintro e w' ⟨rfl, n, os, rfl⟩
  have hsz : (insertionSort (ltOf cfM) d 0 d.size).size = d.size := size_insertionSort _ _ _ _
  refine ⟨rfl, holdsK_grow encM 6 _ _ _ _ _ (by simp [putRowK, Go.Sort.ahead]; exact hblk) (holdsK_putRowK encM 6 _ _ _ d _ (holdsK_ahead encM 6 _ _ _ _ _ hH) hsz), touch_sortWorld⟩

end Go.Proofs.YtcahpjejpimdhaaGreatDoor
