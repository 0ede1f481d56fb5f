/- pick.ObjectOf of members whose names rise: any number of them. -/
import Derived.Test.YtgghgcilpfdbjaaGreatDoorSy13
import Derived.Test.YtgghgcilpfdbjaaGreatDoorSy08
import Derived.Shelf.SlSortCmp.WholeK

namespace Go.Proofs.YtgghgcilpfdbjaaGreatDoor
open Go.RowKit Go.Shelf Go.Sort
theorem cmp_lessM : ∀ a b : List UInt8, decide (Lib.compareBytes a b < 0) = Op.bytesLess a b
 | [], [] => rfl
 | [], _ :: _ => rfl
 | _ :: _, [] => rfl
 | a :: ax, b :: bx => by
   unfold Lib.compareBytes Op.bytesLess
   by_cases h1 : a < b
   · simp [h1]
   · by_cases h2 : b < a
     · have : ¬ a = b := fun e => by subst e; exact h1 h2
       simp [h1, h2, this]
     · have e : a = b := UInt8.le_antisymm (UInt8.not_lt.1 h2) (UInt8.not_lt.1 h1)
       subst e
       rw [if_neg h1, if_neg h1, cmp_lessM ax bx]
       simp
theorem lt_blM (x y : Mem) : ltOf cfM x y = bl x.name y.name := by
 unfold ltOf cfM bl
 rw [cmp_lessM, ByteArray.toList_eq, ByteArray.toList_eq]
theorem bl_ntransM {a b c : ByteArray} (h : bl a b = false) (h' : bl b c = false) : bl a c = false := by
 cases h2 : bl a c
 · rfl
 · cases h3 : bl b a
   · rw [bl_tri h h3, h'] at h2; cases h2
   · rw [bl_trans h3 h2] at h'; cases h'
theorem swoMM : SWO (ltOf cfM) where
 irrefl x := by rw [lt_blM]; exact bl_irrefl _
 trans x y z := by rw [lt_blM, lt_blM, lt_blM]; exact bl_trans
 ntrans x y z := by rw [lt_blM, lt_blM, lt_blM]; exact bl_ntransM
def RisesM (d : Array Mem) : Prop := ∀ i j (hj : j < d.size), (hij : i < j) → bl d[i].name d[j].name = true
theorem sorted_rises {d d' : Array Mem} (hr : RisesM d) (hp : d'.toList.Perm d.toList) (hs : ∀ i j, i < j → j < d.size → bl d'[j]!.name d'[i]!.name = false) : d' = d := by
 have hl : d'.size = d.size := by simpa using hp.length_eq
 apply Array.toList_inj.1
 refine hp.eq_of_pairwise (le := fun a b => bl b.name a.name = false) (fun a b ha hb x y => ?_) ?_ ?_
 · have e := bl_tri x y
   have ha' := hp.mem_iff.1 ha
   obtain ⟨i, hi, rfl⟩ := List.getElem_of_mem ha'
   obtain ⟨j, hj, rfl⟩ := List.getElem_of_mem hb
   simp only [Array.length_toList, Array.getElem_toList] at hi hj e ⊢
   rcases Nat.lt_trichotomy i j with c | c | c
   · have := hr i j hj c; rw [e, bl_irrefl] at this; cases this
   · subst c; rfl
   · have := hr j i hi c; rw [e, bl_irrefl] at this; cases this
 · rw [List.pairwise_iff_getElem]
   intro i j hi hj hij
   have hj' : j < d'.size := by simpa using hj
   have := hs i j hij (by omega)
   rw [getElem!_pos d' j hj', getElem!_pos d' i (by omega)] at this
   simpa using this
 · rw [List.pairwise_iff_getElem]
   intro i j hi hj hij
   have hj' : j < d.size := by simpa using hj
   have h1 := hr i j hj' hij
   simp only [Array.getElem_toList]
   cases h2 : bl d[j].name d[i].name
   · rfl
   · have := bl_trans h1 h2; rw [bl_irrefl] at this; cases this
theorem sortRises (g cap : Nat) (d : Array Mem) (w : World) (hH : HoldsK encM 6 w g 0 d) (hg : g < w.heap.size) (hn : d.size ≤ 4294967296) (hr : RisesM d) :
   Calls Tryz.prog 85 #[.slice (some ⟨g, 0, none⟩) d.size cap, .func (.func 86) #[] #[]] w fun e w' => e = .returned (.tuple #[]) ∧ HoldsK encM 6 w' g 0 d ∧ Touch (· = g) w w' := by
 have eg : ∀ args w, (callFunc 86 args).run Tryz.prog w = .ok (.enter 86 args) w := enters_of Tryz.func86 (by kernel_rfl) rfl
 have hcon := AnyQ.slices_SortFunc sortMember 6 Tryz.isAgg74 Tryz.sizeOf74 encM encM_len encM_one cfM swoMM 86 #[] g 0 cap d w eg (fun _ _ _ _ x y => cmpMember x y _) hH hg (by omega)
 refine hcon.mono ?_
 rintro e w' ⟨rfl, d', n, os, hp, hs, rfl⟩
 have hd : d' = d := sorted_rises hr (by
   have := hp.2.2
   have e1 : d'.extract 0 d.size = d' := by rw [← hp.1]; simp
   have e2 : d.extract 0 d.size = d := by simp
   rwa [e1, e2] at this) (fun i j hij hj => by
   have := hs i j (Nat.zero_le _) hij hj
   rwa [lt_blM] at this)
 subst hd
 exact ⟨rfl, holdsK_grow encM 6 _ _ _ _ _ (by simp [putRowK, Go.Sort.ahead]; exact hg) (holdsK_putRowK encM 6 _ _ _ d' _ (holdsK_ahead encM 6 _ _ _ _ _ hH) rfl), touch_sortWorld⟩
theorem pickObjectOfR (d : Array Mem) (its : List JV) (blk off cap : Nat) (w : World) (lo hi : Nat) (hH : HoldsK encM 6 w blk off d) (hblk : blk < w.heap.size) (hn : d.size ≤ 4294967296) (hr : RisesM d)
   (hl : d.size = its.length) (hm : ∀ i (h : i < its.length), Rep w lo hi its[i] d[i]!.val ∧ its[i].wt ≤ 4294967296 ∧ ∀ k (h' : k < its[i].items.length), Seen lo its[i].items[k])
   (hhi : hi ≤ w.heap.size) :
   Calls Tryz.prog 42 #[.slice (some ⟨blk, off, none⟩) d.size cap] w (ObjPost (d.toList.map (·.name)) its w) :=
 pickObjectOfS d d its blk off cap w lo hi hH hblk hn rfl (fun g cap1 w1 hH1 hg1 => sortRises g cap1 d w1 hH1 hg1 hn hr) hl hm (fun i h e => by
   have := hr i (i + 1) h (by omega)
   rw [getElem!_pos d i (by omega), getElem!_pos d (i + 1) h] at e
   rw [e, bl_irrefl] at this; cases this) hhi
end Go.Proofs.YtgghgcilpfdbjaaGreatDoor
