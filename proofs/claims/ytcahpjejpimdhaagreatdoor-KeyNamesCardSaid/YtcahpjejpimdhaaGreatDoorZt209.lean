/- The contract of value.Get, of an object in the call's own memory whose names rise. The contracts of pick.TextOf, of ObjectOf's comparing closure, and of slices.Clone and slices.SortFunc at members (12 or fewer). An object that a call builds: 'obj.Names = append(obj.Names, x); obj.Items = append(obj.Items, f(y))'. No program in sight. A picker (pick.Obj) as data, and how it lies in memory. An object that a call builds of values that lie in memory already: 'obj.Names = append(obj.Names, x); obj.Items = append(obj.Items, it)'. No program in sight. The contract of value.Copy for a value that came in, whatever marks its blocks bear: an Item that is nested two deep, or more, may have become zero (the model draws how two marked blocks' pointers compare). -/
import Derived.Test.YtcahpjejpimdhaaGreatDoorZt207
import Derived.Test.YtcahpjejpimdhaaGreatDoorZt208
import Derived.Laws.ResultCell
import Derived.Shelf.SlSortCmp.SmallK
import Derived.Shelf.SlicesE.Clone
import Derived.Ground.SlsfProg
import Derived.Maps.OwnOps
import Derived.Maps.Views
import Derived.StringKeys
import Derived.Test.YtcahpjejpimdhaaGreatDoorZt201

namespace Go.Proofs.YtcahpjejpimdhaaGreatDoor
open Go.RowKit

theorem set5 {W : World} {b t : Nat} {f : Nat → Value} (v0 v1 v2 v3 v4 : Value) (h : W.rowIs b t 5 f) :
    (((((W.setCell ⟨b, 0, none⟩ v0).setCell ⟨b, 1, none⟩ v1).setCell ⟨b, 2, none⟩ v2).setCell ⟨b, 3, none⟩ v3).setCell ⟨b, 4, none⟩ v4).rowIs b t 5 (pick5 v0 v1 v2 v3 v4) := by
  refine (((((h.set 0 v0).set 1 v1).set 2 v2).set 3 v3).set 4 v4).congr fun j hj => ?_
  rcases j with _ | _ | _ | _ | _ | j <;> first | rfl | omega
theorem below5 {B : Nat} {a W : World} {b : Nat} (v0 v1 v2 v3 v4 : Value) (h : Below B a W) (hb : B ≤ b) :
    Below B a (((((W.setCell ⟨b, 0, none⟩ v0).setCell ⟨b, 1, none⟩ v1).setCell ⟨b, 2, none⟩ v2).setCell ⟨b, 3, none⟩ v3).setCell ⟨b, 4, none⟩ v4) :=
  ((((h.setCell hb v0).setCell hb v1).setCell hb v2).setCell hb v3).setCell hb v4
theorem heap5 {W : World} {b k : Nat} (v0 v1 v2 v3 v4 : Value) (hk : k ≠ b) :
    (((((W.setCell ⟨b, 0, none⟩ v0).setCell ⟨b, 1, none⟩ v1).setCell ⟨b, 2, none⟩ v2).setCell ⟨b, 3, none⟩ v3).setCell ⟨b, 4, none⟩ v4).heap[k]? = W.heap[k]? := by
  rw [Below.heap_setCell _ _ _ _ hk, Below.heap_setCell _ _ _ _ hk, Below.heap_setCell _ _ _ _ hk, Below.heap_setCell _ _ _ _ hk, Below.heap_setCell _ _ _ _ hk]
theorem results_row_tmp {P : Program} {fn : Func} {p u : Tmp} {ty : TypeId} (h : fn.results = #[.cell p ty, .tmp u]) (tmps : Array Value) (w : World) (g : Nat) (t : TypeId) (cs : Array Value) (fr : Nat × Nat) (d : TypeDesc)
    (hp : tmps.getD p undef = .pointer (some ⟨g, 0, none⟩)) (hg : w.heap[g]? = some (.cells cs t fr))
    (hu : P.underlying ty = some d) (hd : (match d with | .struct _ | .array _ _ => true | _ => false) = true) (hi : (P.info? ty).map (·.size) = some cs.size) (x : Value) (hx : tmps.getD u undef = x) :
    (results fn tmps).run P w = .ok (.tuple #[.agg cs, x]) w := by
  rw [results_cell_tmp h, hp, hx]
  simp [asAddr, run_loadVar_row w g t ty cs fr d hg hu hd hi]

def zeroAgg : Value := .agg #[.int .u8 0, .int .i64 0, .string { data := #[] }, .slice none 0 0, .slice none 0 0]
def GetPost (v : JV) (x : ByteArray) (w : World) (e : Ending) (w' : World) : Prop :=
  ((∃ (r : Nat) (h : r < v.names.length) (h' : r < v.items.length), v.names[r] = x ∧ ∃ an cn ai ci, e = .returned (.tuple #[.agg #[.int .u8 v.items[r].kind, .int .i64 v.items[r].n, .string v.items[r].t, .slice an v.items[r].names.length cn, .slice ai v.items[r].items.length ci], .bool true]) ∧
      Rep w' w.heap.size w'.heap.size v.items[r] (.agg #[.int .u8 v.items[r].kind, .int .i64 v.items[r].n, .string v.items[r].t, .slice an v.items[r].names.length cn, .slice ai v.items[r].items.length ci])) ∨
    ((∀ t (h : t < v.names.length), v.names[t] ≠ x) ∧ e = .returned (.tuple #[zeroAgg, .bool false]))) ∧ Below w.heap.size w w'

set_option maxRecDepth 100000 in
set_option maxHeartbeats 400000 in
theorem valueGet (v : JV) (x : ByteArray) (y : Value) (w : World) (lo hi : Nat) (hN : v.wt ≤ 4294967296) (hlo : 0 < lo) (hhi : hi ≤ w.heap.size) (hR : Rep w lo hi v y) (hk : v.kind = 5) (hr : rises v.names = true) (hl : v.names.length = v.items.length) :
    Calls Tryz.prog 113 #[y, .string x] w (GetPost v x w) := by
  obtain ⟨an, cn, ai, ci, rfl, h1, h2, h3, h4⟩ := hR.parts
  obtain ⟨b1, b2, b3, b4⟩ := v.wt_bd
  have H3 := Lib.hid h3
  have H4 := Lib.hid h4
  have HR := Lib.hid hr
  clear h3 h4 hR hr
  obtain ⟨ni, hni⟩ : ∃ ni, ni = v.items.length := ⟨_, rfl⟩
  rw [hl, ← hni]
  rw [← hni] at b3 h2
  have HNI := Lib.hid hni
  have HL := Lib.hid hl
  clear hni hl
  go_enter Tryz.func113, Tryz.ntmps113
  go_wp2_with fail
  have HB0 := Lib.hid (show Below w.heap.size w ((w.alloc (.cells #[.int .u8 5, .int .i64 v.n, .string v.t, .slice an ni cn, .slice ai ni ci] 29)).alloc (.cells #[.int .u8 0, .int .i64 0, .string { data := #[] }, .slice none 0 0, .slice none 0 0] 29)) from ((Below.refl _ _).alloc (Nat.le_refl _) _).alloc (by simp) _)
  have hf := valueFind v.names x an cn ((w.alloc (.cells #[.int .u8 5, .int .i64 v.n, .string v.t, .slice an ni cn, .slice ai ni ci] 29)).alloc (.cells #[.int .u8 0, .int .i64 0, .string { data := #[] }, .slice none 0 0, .slice none 0 0] 29)) (H3.out.below HB0.out hhi (Nat.zero_le _) (by have := HB0.out.size; omega)) (by omega) HR.out
  rw [HL.out, ← HNI.out] at hf
  refine hf.mono ?_
  clear hf
  rintro e w1 ⟨r, f, rfl, k1, k2, k3, k4, k5, hb1⟩
  have hz1 : w.heap.size + 2 ≤ w1.heap.size := by have := hb1.size; simp at this; omega
  have hbox := (rowIs_box5 w (.int .u8 5) (.int .i64 v.n) (.string v.t) (.slice an ni cn) (.slice ai ni ci) 29).alloc (.cells #[.int .u8 0, .int .i64 0, .string { data := #[] }, .slice none 0 0, .slice none 0 0] 29)
  have hres := rowIs_box5 (w.alloc (.cells #[.int .u8 5, .int .i64 v.n, .string v.t, .slice an ni cn, .slice ai ni ci] 29)) (.int .u8 0) (.int .i64 0) (.string { data := #[] }) (.slice none 0 0) (.slice none 0 0) 29
  rw [show (w.alloc (.cells #[.int .u8 5, .int .i64 v.n, .string v.t, .slice an ni cn, .slice ai ni ci] 29)).heap.size = w.heap.size + 1 by simp] at hres
  have HBX := Lib.hid (below_row hb1 hbox (by simp; omega))
  have HRS := Lib.hid (below_row hb1 hres (by simp))
  have HB1 : Hid (Below w.heap.size w w1) := HB0.out.trans (hb1.mono (by simp; omega))
  have c4 : w1.cell? ⟨w.heap.size, 4, none⟩ = some (.slice ai ni ci) := HBX.out.cell (by omega)
  have K1 := Lib.hid k1
  have K4 := Lib.hid k4
  have K5 := Lib.hid k5
  clear hbox hres hb1 HB0 k1 k2 k3 k4 k5
  cases f
  · have HNO := Lib.hid (K5.out rfl)
    have t0 := HRS.out.cell (i := 0) (by decide); have t1 := HRS.out.cell (i := 1) (by decide); have t2 := HRS.out.cell (i := 2) (by decide); have t3 := HRS.out.cell (i := 3) (by decide); have t4 := HRS.out.cell (i := 4) (by decide)
    have s0 := HRS.out.frozen 0; have s1 := HRS.out.frozen 1; have s2 := HRS.out.frozen 2; have s3 := HRS.out.frozen 3; have s4 := HRS.out.frozen 4
    simp only [pick5] at t0 t1 t2 t3 t4
    go_wp2
    refine bodyPost_ret (results_row_tmp Tryz.results113 _ _ (w.heap.size + 1) 29 _ (0, 0) _ rfl (row5_heap (set5 _ _ _ _ _ HRS.out)) Tryz.underlying29 rfl (by kernel_rfl) _ rfl) rfl ⟨.inr ⟨HNO.out, rfl⟩, below5 _ _ _ _ _ HB1.out (by omega)⟩
  · obtain ⟨hrl, hre⟩ := K4.out rfl
    have hrl' : r < v.items.length := by rw [← HL.out]; exact hrl
    have hrn : r < ni := by rw [HNI.out]; exact hrl'
    have HRE := Lib.hid hre
    clear hre
    obtain ⟨b, off, an', cn', ai', ci', rfl, _, hb, y0, y1, y2, y3, y4, hrep⟩ := (H4.out.below HB1.out hhi (Nat.le_refl _) (Nat.le_refl _)).get r hrl'
    have hwk := JV.wts_get v.items r hrl'
    have hvc := valueCopy v.items[r] _ w1 lo hi (by omega) (by omega) hrep (fun k h => .inl hlo)
    have HVC := Lib.hid hvc
    clear hvc hrep
    go_wp2_with fail
    refine HVC.out.mono ?_
    clear HVC y0 y1 y2 y3 y4 c4 hb
    rintro e w2 ⟨a2, c2, a3, c3, rfl, hr2, hb2⟩
    have hres2 := below_row hb2 HRS.out (by omega)
    have t0 := hres2.cell (i := 0) (by decide); have t1 := hres2.cell (i := 1) (by decide); have t2 := hres2.cell (i := 2) (by decide); have t3 := hres2.cell (i := 3) (by decide); have t4 := hres2.cell (i := 4) (by decide)
    have s0 := hres2.frozen 0; have s1 := hres2.frozen 1; have s2 := hres2.frozen 2; have s3 := hres2.frozen 3; have s4 := hres2.frozen 4
    simp only [pick5] at t0 t1 t2 t3 t4
    have HR2 := Lib.hid hr2
    have HB2 := Lib.hid hb2
    have HS2 := Lib.hid hres2
    clear hr2 hb2 hres2
    go_wp2
    refine bodyPost_ret (results_row_tmp Tryz.results113 _ _ (w.heap.size + 1) 29 _ (0, 0) _ rfl (row5_heap (set5 _ _ _ _ _ HS2.out)) Tryz.underlying29 rfl (by kernel_rfl) _ rfl) rfl ⟨.inl ⟨r, hrl, hrl', HRE.out, a2, c2, a3, c3, rfl, ?_⟩, below5 _ _ _ _ _ (HB1.out.trans (HB2.out.mono (by omega))) (by omega)⟩
    exact Rep.carry (by omega) (show w2.heap.size ≤ _ by simp [World.setCell]) (fun k hk _ => heap5 _ _ _ _ _ (by omega)) _ _ HR2.out

end Go.Proofs.YtcahpjejpimdhaaGreatDoor

namespace Go.Proofs.YtcahpjejpimdhaaGreatDoor
open Go.RowKit Go.Shelf Go.Sort

/-- A member of an object as it lies in memory: the name, and the value's five cells. -/
structure Mem where
  name : ByteArray
  k : Int
  n : Int
  t : ByteArray
  an : Option Addr
  nn : Nat
  cn : Nat
  ai : Option Addr
  ni : Nat
  ci : Nat
instance : Inhabited Mem := ⟨⟨{ data := #[] }, 0, 0, { data := #[] }, none, 0, 0, none, 0, 0⟩⟩
def Mem.val (x : Mem) : Value := .agg #[.int .u8 x.k, .int .i64 x.n, .string x.t, .slice x.an x.nn x.cn, .slice x.ai x.ni x.ci]
def encM (x : Mem) : List Value := [.string x.name, .int .u8 x.k, .int .i64 x.n, .string x.t, .slice x.an x.nn x.cn, .slice x.ai x.ni x.ci]
def cfM (x y : Mem) : Int := Lib.compareBytes x.name.data.toList y.name.data.toList
theorem encM_len (x : Mem) : (encM x).length = 6 := rfl
theorem encM_one (x : Mem) : ∀ v ∈ encM x, v.oneCell' = true := by
  intro v hv
  simp only [encM, List.mem_cons, List.not_mem_nil, or_false] at hv
  rcases hv with rfl | rfl | rfl | rfl | rfl | rfl <;> rfl


theorem infoMember : (Tryz.prog.info? 67).map (fun i => (i.zero, i.size, i.bytes)) = some (some (.agg #[.string { data := #[] }, .int .u8 0, .int .i64 0, .string { data := #[] }, .slice none 0 0, .slice none 0 0]), 6, 96) := by kernel_rfl

theorem pickTextOf (t : ByteArray) (w : World) : Calls Tryz.prog 46 #[.string t] w fun e w' => e = .returned (.agg #[.int .u8 3, .int .i64 0, .string t, .slice none 0 0, .slice none 0 0]) ∧ w' = w.alloc (.cells #[.int .u8 3, .int .i64 0, .string t, .slice none 0 0, .slice none 0 0] 29) := by
  go_enter Tryz.func46, Tryz.ntmps46
  go_wp2
  exact bodyPost_ret (results_cell_row Tryz.results46 _ _ w.heap.size 29 _ (0, 0) _ rfl (heap_alloc_new w _) Tryz.underlying29 rfl (by kernel_rfl)) rfl ⟨rfl, rfl⟩

theorem cmpMember (x y : Mem) (W : World) : Calls Tryz.prog 80 #[.agg (encM x).toArray, .agg (encM y).toArray] W fun e w' => e = .returned (.int .i64 (cfM x y)) ∧ ∃ q os', w' = grow (W.drewN q) os' := by
  have hcon := fun W' => Tryz.strings_Compare x.name y.name W'
  unfold cfM encM
  generalize Lib.compareBytes x.name.data.toList y.name.data.toList = r at hcon ⊢
  go_enter Tryz.func80, Tryz.ntmps80
  go_wp2_with (go_at_call 81; refine (hcon _).mono ?_; rintro e w' ⟨rfl, rfl⟩)
  go_ret
  exact ⟨rfl, 0, _, by rw [alloc_eq_grow, alloc_eq_grow, grow_grow]; rfl⟩

theorem size_insInner (lt : Mem → Mem → Bool) (a : Nat) : ∀ (j : Nat) (d : Array Mem), (insInner lt a j d).size = d.size
  | 0, d => rfl
  | j + 1, d => by
    unfold insInner
    split
    · rw [size_insInner lt a j, size_swp]
    · rfl
theorem size_insOuter (lt : Mem → Mem → Bool) (a b : Nat) : ∀ (m i : Nat) (d : Array Mem), b - i ≤ m → (insOuter lt a b i d).size = d.size
  | 0, i, d, h => by unfold insOuter; rw [if_neg (by omega)]
  | m + 1, i, d, h => by
    unfold insOuter
    split
    · rw [size_insOuter lt a b m (i + 1) _ (by omega), size_insInner]
    · rfl
theorem size_insertionSort (lt : Mem → Mem → Bool) (d : Array Mem) (a b : Nat) : (insertionSort lt d a b).size = d.size := size_insOuter lt a b _ _ d (Nat.le_refl _)
/-- What is sorted stays as it is. -/
theorem ins_sorted (lt : Mem → Mem → Bool) (d : Array Mem) (b : Nat) (h : ∀ j, j + 1 < b → lt d[j + 1]! d[j]! = false) : insertionSort lt d 0 b = d := by
  have h2 : ∀ (m i : Nat), b - i ≤ m → insOuter lt 0 b i d = d := by
    intro m
    induction m with
    | zero => intro i hi; unfold insOuter; rw [if_neg (by omega)]
    | succ m ih =>
      intro i hi
      unfold insOuter
      split
      · rename_i hib
        have : insInner lt 0 i d = d := by
          rcases i with _ | j
          · rfl
          · unfold insInner; rw [h j hib]; simp
        rw [this]
        exact ih (i + 1) (by omega)
      · rfl
  exact h2 _ _ (Nat.le_refl _)

/-- slices.Clone of members. -/
theorem cloneMem (blk off cap : Nat) (d : Array Mem) (w : World) (hH : HoldsK encM 6 w blk off d) (hd : d.size ≤ 4294967296) :
    Calls Tryz.prog 78 #[.slice (some ⟨blk, off, none⟩) d.size cap] w fun e w' => ∃ g cap', e = .returned (.slice (some ⟨g, 0, none⟩) d.size cap') ∧ w.heap.size ≤ g ∧ g < w'.heap.size ∧
      HoldsK encM 6 w' g 0 d ∧ Below w.heap.size w w' := by
  obtain ⟨i0, hi0, hz0, hz1, hz2⟩ := info_parts infoMember
  have hget : ∀ j u, (flatK encM 6 d).toList[j]? = some u → j < d.size * 6 ∧ (flatK encM 6 d)[j]! = u := fun j u hj => by
    obtain ⟨hlt, he⟩ := List.getElem?_eq_some_iff.1 hj
    have hlt' : j < (flatK encM 6 d).size := by simpa using hlt
    refine ⟨by simpa using hlt', ?_⟩
    rw [getElem!_pos _ j hlt']
    simpa using he
  refine (AnyE.slices_Clone cloneMember i0 _ 6 96 hi0 hz0 hz1 hz2 rfl (by decide) Tryz.sizeOf67 blk off d.size cap (flatK encM 6 d).toList w (by simp) (by unfold maxLen; omega) (by omega) (fun j u hj => ?_) (fun u hu => ?_)).mono ?_
  · obtain ⟨h1, h2⟩ := hget j u hj
    rw [(hH j (by simpa using h1)).1, h2]
    rfl
  · obtain ⟨j, hj⟩ := List.getElem?_of_mem hu
    obtain ⟨h1, h2⟩ := hget j u hj
    rw [get_flatK _ _ _ _ h1] at h2
    subst h2
    have hm : j % 6 < (encM d[j / 6]!).length := by rw [encM_len]; omega
    rw [getElem!_pos (encM d[j / 6]!) (j % 6) hm]
    exact encM_one _ _ (List.getElem_mem hm)
  · rintro e w' ⟨v', rfl, hown, hne, hb⟩
    have hcs := hown
    rcases hown.2 with ⟨rfl, h0⟩ | ⟨g, cap', cur, rfl, hg, hh, hc, hm, hs, ht⟩
    · exact absurd rfl hne
    · have hlt : g < w'.heap.size := by
        rcases Nat.lt_or_ge g w'.heap.size with hlt | hge
        · exact hlt
        · rw [Array.getElem?_eq_none hge] at hh; cases hh
      refine ⟨g, cap', rfl, hg, hlt, fun j hj => ⟨?_, by simp [World.frozen?, hh]⟩, hb⟩
      have := hcs.cells (g := g) rfl j (flatK encM 6 d)[j]! (by rw [getElem!_pos _ j hj]; simp)
      have e : (⟨g, 0, none⟩ : Addr).add j = ⟨g, j, none⟩ := by unfold Addr.add; split <;> simp_all
      rw [e] at this
      rw [Nat.zero_add]
      exact this

theorem touch_sortWorld {w : World} {blk off n : Nat} {d : Array Mem} {os : Array Obj} : Touch (· = blk) w (sortWorldK encM 6 w blk off n d os) := by
  refine ⟨rfl, rfl, rfl, by simp [sortWorldK, putRowK, Go.Sort.ahead], fun k hk hs => ?_⟩
  rw [sortWorldK, heap_grow_old _ _ (by simp [putRowK, Go.Sort.ahead]; exact hk)]
  show (((Go.Sort.ahead w n).heap.modify blk _))[k]? = _
  rw [Array.getElem?_modify, if_neg (fun e => hs e.symm)]
  rfl

theorem sortMem (blk off cap : Nat) (d : Array Mem) (w : World) (hH : HoldsK encM 6 w blk off d) (hblk : blk < w.heap.size) (h12 : d.size ≤ 12) :
    Calls Tryz.prog 79 #[.slice (some ⟨blk, off, none⟩) d.size cap, .func (.func 80) #[] #[]] w fun e w' => e = .returned (.tuple #[]) ∧
      HoldsK encM 6 w' blk off (insertionSort (ltOf cfM) d 0 d.size) ∧ Touch (· = blk) w w' := by
  have eg : ∀ args w, (callFunc 80 args).run Tryz.prog w = .ok (.enter 80 args) w := enters_of Tryz.func80 (by kernel_rfl) rfl
  have hl : ∀ (n : Nat) (W : World), n ≤ 12 → Calls Tryz.prog 102 #[.int .u64 n] W fun e w' => (∃ l : Int, e = .returned (.int .i64 l)) ∧ w' = W := fun n W h =>
    (Tryz.bits_Len n W (by omega) (by omega)).mono fun _ _ ⟨he, hw⟩ => ⟨⟨_, he⟩, hw⟩
  have hcon := AnyQ.slices_SortFunc_small sortMember 6 Tryz.isAgg67 Tryz.sizeOf67 encM encM_len encM_one cfM 80 #[] blk off cap d w eg (fun _ _ _ _ x y => cmpMember x y _) hH hblk h12 hl
  refine hcon.mono ?_
  rintro e w' ⟨rfl, n, os, rfl⟩
  have hsz : (insertionSort (ltOf cfM) d 0 d.size).size = d.size := size_insertionSort _ _ _ _
  refine ⟨rfl, holdsK_grow encM 6 _ _ _ _ _ (by simp [putRowK, Go.Sort.ahead]; exact hblk) (holdsK_putRowK encM 6 _ _ _ d _ (holdsK_ahead encM 6 _ _ _ _ _ hH) hsz), touch_sortWorld⟩

end Go.Proofs.YtcahpjejpimdhaaGreatDoor

namespace Go.Proofs.YtcahpjejpimdhaaGreatDoor
open Go.RowKit

theorem owns_of_block {w w' : World} {base e size n : Nat} {v : Value} {cs : List Value} (h : w.ownsRow base e size v n cs) (hb : ∀ b, v.ownBlock = some b → w'.heap[b]? = w.heap[b]?) : w'.ownsRow base e size v n cs := by
  refine ⟨h.1, ?_⟩
  rcases h.2 with h2 | ⟨g, cap, cur, hv, hg, hh, r⟩
  · exact .inl h2
  · refine .inr ⟨g, cap, cur, hv, hg, ?_, r⟩
    rw [hb g (by rw [hv]; rfl)]
    exact hh

/-- The object's variable (block cb), its names and its items so far. -/
structure ObjAt (W wr : World) (cb T e1 e5 : Nat) (vn vi : Value) (ns : List ByteArray) (its : List JV) (cs : List Value) : Prop where
  lt : cb < W.heap.size
  touch : Touch (· = cb) W wr
  row : wr.rowIs cb T 5 (pick5 (.int .u8 5) (.int .i64 0) (.string { data := #[] }) vn vi)
  names : wr.ownsRow W.heap.size e1 1 vn ns.length (ns.map .string)
  items : wr.ownsRow W.heap.size e5 5 vi its.length cs
  reps : RepRow wr W.heap.size (fun b => b = cb ∨ vn.ownBlock = some b ∨ vi.ownBlock = some b) its cs
  ne : ∀ b, vn.ownBlock = some b → vi.ownBlock ≠ some b

theorem ObjAt.below {W wr w' : World} {cb T e1 e5 : Nat} {vn vi : Value} {ns : List ByteArray} {its : List JV} {cs : List Value} (h : ObjAt W wr cb T e1 e5 vn vi ns its cs) (hb : Below wr.heap.size wr w') : ObjAt W w' cb T e1 e5 vn vi ns its cs where
  lt := h.lt
  touch := h.touch.trans (Touch.of_below hb (Nat.le_refl _))
  row := below_row hb h.row h.row.lt
  names := owns_below h.names hb
  items := owns_below h.items hb
  reps := h.reps.carry hb.size (Nat.le_refl _) (fun b hb' _ => hb.block b hb') (fun _ hx => .inl hx)
  ne := h.ne

/-- One name more: 'obj.Names = append(obj.Names, x)'. -/
theorem ObjAt.name {W wr w4 : World} {cb T e1 e5 g cap : Nat} {vn vi : Value} {ns : List ByteArray} {its : List JV} {cs : List Value} (h : ObjAt W wr cb T e1 e5 vn vi ns its cs) (x : ByteArray)
    (hg : wr.grownBy w4 vn.ownBlock) (hat : vn.ownBlock = some g ∨ wr.heap.size ≤ g)
    (ho4 : w4.ownsRow W.heap.size e1 1 (.slice (some ⟨g, 0, none⟩) (ns.length + 1) cap) (ns.length + 1) (ns.map .string ++ [.string x])) :
    ObjAt W (w4.setCell ⟨cb, 3, none⟩ (.slice (some ⟨g, 0, none⟩) (ns.length + 1) cap)) cb T e1 e5 (.slice (some ⟨g, 0, none⟩) (ns.length + 1) cap) vi (ns ++ [x]) its cs := by
  have hwz : W.heap.size ≤ wr.heap.size := h.touch.size
  have hz4 := hg.size
  have hlt := h.lt
  have hon : ∀ b, vn.ownBlock = some b → W.heap.size ≤ b ∧ b < wr.heap.size := fun b hb => h.names.lt b hb
  have hoi : ∀ b, vi.ownBlock = some b → W.heap.size ≤ b ∧ b < wr.heap.size := fun b hb => h.items.lt b hb
  have s2 : ∀ b, b < wr.heap.size → vn.ownBlock ≠ some b → w4.heap[b]? = wr.heap[b]? := fun b hb hne => hg.block b hb (fun e => hne e.symm)
  have s3 : ∀ b, b ≠ cb → (w4.setCell ⟨cb, 3, none⟩ (.slice (some ⟨g, 0, none⟩) (ns.length + 1) cap)).heap[b]? = w4.heap[b]? := fun b hb => Below.heap_setCell _ _ _ _ hb
  have hcn : vn.ownBlock ≠ some cb := fun e => by have := (hon cb e).1; omega
  have hz5 : (w4.setCell ⟨cb, 3, none⟩ (.slice (some ⟨g, 0, none⟩) (ns.length + 1) cap)).heap.size = w4.heap.size := by simp [World.setCell]
  have hgb : ∀ b, (Value.slice (some ⟨g, 0, none⟩) (ns.length + 1) cap).ownBlock = some b → b = g := fun b hb => by simp [Value.ownBlock] at hb; exact hb.symm
  have hgi : vi.ownBlock ≠ some g := fun e => by
    rcases hat with ha | ha
    · exact h.ne g ha e
    · have := (hoi g e).2; omega
  refine ⟨hlt, ⟨?_, ?_, ?_, by omega, fun b hb hne => ?_⟩, ?_, ?_, ?_, ?_, ?_⟩
  · show w4.os = _; rw [hg.os, h.touch.os]
  · show w4.tape = _; rw [hg.tape, h.touch.tape]
  · show w4.output = _; rw [hg.output, h.touch.output]
  · rw [s3 b hne, s2 b (by omega) (fun e => by have := (hon b e).1; omega)]; exact h.touch.block b hb hne
  · have h4 : w4.rowIs cb T 5 _ := h.row.of_block (s2 cb (by omega) hcn)
    refine (h4.set 3 _).congr fun i hi => ?_
    rcases i with _ | _ | _ | _ | _ | i <;> first | rfl | omega
  · have := ownsRow_setCell_below ho4 hlt (Value.slice (some ⟨g, 0, none⟩) (ns.length + 1) cap) (a := ⟨cb, 3, none⟩)
    simpa using this
  · refine owns_of_block h.items fun b hb => ?_
    rw [s3 b (fun e => by have := (hoi b hb).1; omega), s2 b (hoi b hb).2 (fun e => h.ne b e hb)]
  · refine h.reps.carry (by omega) (Nat.le_refl _) (fun b hb hx => ?_) (fun b hx => ?_)
    · rw [s3 b (fun e => hx (.inl e)), s2 b hb (fun e => hx (.inr (.inl e)))]
    · rcases hx with hx | hx | hx
      · exact .inl (.inl hx)
      · rw [hgb b hx]
        rcases hat with ha | ha
        · exact .inl (.inr (.inl ha))
        · exact .inr ha
      · exact .inl (.inr (.inr hx))
  · intro b hb
    rw [hgb b hb]; exact hgi

/-- One item more: 'obj.Items = append(obj.Items, it)', the item's parts in memory behind wr. -/
theorem ObjAt.item {W wr w3 w4 : World} {cb T e1 e5 g cap lo hi : Nat} {vn vi : Value} {ns : List ByteArray} {its : List JV} {cs : List Value} {it : JV} {an ai : Option Addr} {cn ci : Nat} (h : ObjAt W wr cb T e1 e5 vn vi ns its cs)
    (hb3 : Below wr.heap.size wr w3) (hlo : wr.heap.size ≤ lo) (hhi : hi ≤ w3.heap.size) (hr3 : Rep w3 lo hi it (.agg #[.int .u8 it.kind, .int .i64 it.n, .string it.t, .slice an it.names.length cn, .slice ai it.items.length ci]))
    (hg : w3.grownBy w4 vi.ownBlock) (hat : vi.ownBlock = some g ∨ w3.heap.size ≤ g)
    (ho4 : w4.ownsRow W.heap.size e5 5 (.slice (some ⟨g, 0, none⟩) (its.length + 1) cap) (its.length + 1) (cs ++ [.int .u8 it.kind, .int .i64 it.n, .string it.t, .slice an it.names.length cn, .slice ai it.items.length ci])) :
    ObjAt W (w4.setCell ⟨cb, 4, none⟩ (.slice (some ⟨g, 0, none⟩) (its.length + 1) cap)) cb T e1 e5 vn (.slice (some ⟨g, 0, none⟩) (its.length + 1) cap) ns (its ++ [it]) (cs ++ [.int .u8 it.kind, .int .i64 it.n, .string it.t, .slice an it.names.length cn, .slice ai it.items.length ci]) := by
  have hwz : W.heap.size ≤ wr.heap.size := h.touch.size
  have hz3 := hb3.size
  have hz4 := hg.size
  have hlt := h.lt
  have hon : ∀ b, vn.ownBlock = some b → W.heap.size ≤ b ∧ b < wr.heap.size := fun b hb => h.names.lt b hb
  have hoi : ∀ b, vi.ownBlock = some b → W.heap.size ≤ b ∧ b < wr.heap.size := fun b hb => h.items.lt b hb
  have s1 : ∀ b, b < wr.heap.size → w3.heap[b]? = wr.heap[b]? := fun b hb => hb3.block b hb
  have s2 : ∀ b, b < w3.heap.size → vi.ownBlock ≠ some b → w4.heap[b]? = w3.heap[b]? := fun b hb hne => hg.block b hb (fun e => hne e.symm)
  have s3 : ∀ b, b ≠ cb → (w4.setCell ⟨cb, 4, none⟩ (.slice (some ⟨g, 0, none⟩) (its.length + 1) cap)).heap[b]? = w4.heap[b]? := fun b hb => Below.heap_setCell _ _ _ _ hb
  have hcn : vi.ownBlock ≠ some cb := fun e => by have := (hoi cb e).1; omega
  have hz5 : (w4.setCell ⟨cb, 4, none⟩ (.slice (some ⟨g, 0, none⟩) (its.length + 1) cap)).heap.size = w4.heap.size := by simp [World.setCell]
  have hgb : ∀ b, (Value.slice (some ⟨g, 0, none⟩) (its.length + 1) cap).ownBlock = some b → b = g := fun b hb => by simp [Value.ownBlock] at hb; exact hb.symm
  refine ⟨hlt, ⟨?_, ?_, ?_, by omega, fun b hb hne => ?_⟩, ?_, ?_, ?_, ?_, ?_⟩
  · show w4.os = _; rw [hg.os, hb3.os, h.touch.os]
  · show w4.tape = _; rw [hg.tape, hb3.tape, h.touch.tape]
  · show w4.output = _; rw [hg.output, hb3.output, h.touch.output]
  · rw [s3 b hne, s2 b (by omega) (fun e => by have := (hoi b e).1; omega), s1 b (by omega)]; exact h.touch.block b hb hne
  · have h4 : w4.rowIs cb T 5 _ := h.row.of_block (by rw [s2 cb (by omega) hcn, s1 cb (by omega)])
    refine (h4.set 4 _).congr fun i hi => ?_
    rcases i with _ | _ | _ | _ | _ | i <;> first | rfl | omega
  · refine owns_of_block h.names fun b hb => ?_
    have := hon b hb
    rw [s3 b (fun e => by omega), s2 b (by omega) (h.ne b hb), s1 b this.2]
  · have := ownsRow_setCell_below ho4 hlt (Value.slice (some ⟨g, 0, none⟩) (its.length + 1) cap) (a := ⟨cb, 4, none⟩)
    simpa using this
  · have c1 : RepRow (w4.setCell ⟨cb, 4, none⟩ (.slice (some ⟨g, 0, none⟩) (its.length + 1) cap)) W.heap.size (fun b => b = cb ∨ vn.ownBlock = some b ∨ (Value.slice (some ⟨g, 0, none⟩) (its.length + 1) cap).ownBlock = some b) its cs := by
      refine h.reps.carry (by omega) (Nat.le_refl _) (fun b hb hx => ?_) (fun b hx => ?_)
      · rw [s3 b (fun e => hx (.inl e)), s2 b (by omega) (fun e => hx (.inr (.inr e))), s1 b hb]
      · rcases hx with hx | hx | hx
        · exact .inl (.inl hx)
        · exact .inl (.inr (.inl hx))
        · rw [hgb b hx]
          rcases hat with ha | ha
          · exact .inl (.inr (.inr ha))
          · exact .inr (by omega)
    refine c1.snoc it lo hi an cn ai ci (by omega) (by omega) (fun b hx hb => ?_) (Rep.carry (Nat.le_refl _) (Nat.le_refl _) (fun b h1 h2 => ?_) _ _ hr3)
    · rcases hx with hx | hx | hx
      · omega
      · have := (hon b hx).2; omega
      · rw [hgb b hx] at hb
        rcases hat with ha | ha
        · have := (hoi g ha).2; omega
        · omega
    · rw [s3 b (by omega), s2 b (by omega) (fun e => by have := (hoi b e).2; omega)]
  · intro b hb e
    rw [hgb b e] at hb
    rcases hat with ha | ha
    · exact h.ne g hb ha
    · have := (hon g hb).2; omega

/-- The object at the end, as a value. -/
theorem ObjAt.done {W wr : World} {cb T e1 e5 : Nat} {vn vi : Value} {ns : List ByteArray} {its : List JV} {cs : List Value} (h : ObjAt W wr cb T e1 e5 vn vi ns its cs) :
    ∃ an cn ai ci, vn = .slice an ns.length cn ∧ vi = .slice ai its.length ci ∧ Rep wr W.heap.size wr.heap.size (.mk 5 0 { data := #[] } ns its) (.agg #[.int .u8 5, .int .i64 0, .string { data := #[] }, .slice an ns.length cn, .slice ai its.length ci]) := by
  obtain ⟨an, cn, h1, h2, h3⟩ := owns_strs h.names rfl
  obtain ⟨ai, ci, h4, h5, h6⟩ := owns_vals h.items h.reps rfl
  exact ⟨an, cn, ai, ci, h1, h4, Rep.mk (v := .mk 5 0 { data := #[] } ns its) h2 h5 h3 h6⟩

end Go.Proofs.YtcahpjejpimdhaaGreatDoor

namespace Go.Proofs.YtcahpjejpimdhaaGreatDoor
open Go.RowKit Go.WideMaps Go.Maps

/-- What stands by a name. -/
def lookL : List ByteArray → List JV → ByteArray → Option JV
  | n :: ns, x :: xs, y => if n = y then some x else lookL ns xs y
  | _, _, _ => none
def JV.look (v : JV) (y : ByteArray) : Option JV := lookL v.names v.items y
theorem lookL_none : ∀ (ns : List ByteArray) (xs : List JV) (y : ByteArray), (∀ t (h : t < ns.length), ns[t] ≠ y) → lookL ns xs y = none
  | [], _, _, _ => by simp [lookL]
  | n :: ns, [], _, _ => by simp [lookL]
  | n :: ns, x :: xs, y, h => by
    have h0 := h 0 (by simp)
    simp only [List.getElem_cons_zero] at h0
    rw [lookL, if_neg h0]
    exact lookL_none ns xs y fun t ht => by have := h (t + 1) (by simp; omega); simpa using this
theorem lookL_some : ∀ (ns : List ByteArray) (xs : List JV) (y : ByteArray) (r : Nat) (h : r < ns.length) (h' : r < xs.length), (∀ t (ht : t < ns.length), t < r → ns[t] ≠ y) → ns[r] = y → lookL ns xs y = some xs[r]
  | n :: ns, x :: xs, y, 0, _, _, _, e => by simp only [List.getElem_cons_zero] at e; rw [lookL, if_pos e]; rfl
  | n :: ns, x :: xs, y, r + 1, h, h', hn, e => by
    have h0 := hn 0 (by simp) (by omega)
    simp only [List.getElem_cons_zero] at h0
    rw [lookL, if_neg h0]
    exact lookL_some ns xs y r (by simpa using h) (by simpa using h') (fun t ht hr => by have := hn (t + 1) (by simp; omega) (by omega); simpa using this) (by simpa using e)
theorem look_some {v : JV} {y : ByteArray} (hr : rises v.names = true) (r : Nat) (h : r < v.names.length) (h' : r < v.items.length) (e : v.names[r] = y) : v.look y = some v.items[r] :=
  lookL_some _ _ _ r h h' (fun t ht hlt e2 => by
    have := rises_lt hr t r ht h hlt
    rw [e2, e, bl_irrefl] at this; cases this) e

/-- What a picker holds: the names that were asked, and the first error. -/
structure PS where
  asked : List ByteArray
  err : Int
def pickText (v : JV) (y : ByteArray) (st : PS) : ByteArray × PS :=
  if st.err ≠ 0 then ({ data := #[] }, st) else match v.look y with
    | none => ({ data := #[] }, ⟨st.asked, 6⟩)
    | some it => if it.kind = 3 then (it.t, ⟨y :: st.asked, 0⟩) else ({ data := #[] }, ⟨st.asked, 10⟩)
def pickDone (v : JV) (st : PS) : Int := if st.err ≠ 0 then st.err else if v.names.all (fun n => st.asked.any fun a => decide (a = n)) then 0 else 11

/-- The map of the names that were asked. -/
def AskD (D : DataW Unit) (asked : List ByteArray) : Prop :=
  IsMap D ∧ ∀ s : ByteArray, ∃ c : Int, D.atKey (.string s.data.toList) (.lit (.int .i64 0)) = .lit (.int .i64 c) ∧ 0 ≤ c ∧ c ≤ asked.length ∧ (c = 0 ↔ s ∉ asked)
theorem AskD.nil : AskD (.map []) [] := ⟨isMap_empty, fun s => ⟨0, rfl, by omega, by simp, by simp⟩⟩
theorem AskD.cons {D : DataW Unit} {asked : List ByteArray} (h : AskD D asked) (y : ByteArray) (c : Int) (hc : D.atKey (.string y.data.toList) (.lit (.int .i64 0)) = .lit (.int .i64 c)) :
    AskD (D.put (.string y.data.toList) (.lit (.int .i64 (c + 1)))) (y :: asked) := by
  refine ⟨h.1.put _ _, fun s => ?_⟩
  by_cases e : s = y
  · subst e
    obtain ⟨c', h1, h2, h3, h4⟩ := h.2 s
    rw [hc] at h1
    simp only [DataW.lit.injEq, Lit.int.injEq, true_and] at h1
    subst h1
    exact ⟨c + 1, atKey_put_same h.1 (by trivial) _ _, by omega, by simp; omega, by simp; omega⟩
  · obtain ⟨c', h1, h2, h3, h4⟩ := h.2 s
    have ne : Lit.string s.data.toList ≠ Lit.string y.data.toList := fun e2 => e (by
      have e3 : s.data.toList = y.data.toList := by simpa using e2
      exact ByteArray.ext (Array.toList_inj.1 e3))
    exact ⟨c', by rw [atKey_put_other ne]; exact h1, h2, by simp; omega, by simp [e, h4]⟩

/-- A picker of an object that may be: its block o, its map's block m. -/
structure PickAt (o m lo hi : Nat) (v : JV) (an ai : Option Addr) (cn ci : Nat) (st : PS) (w : World) : Prop where
  obj : w.heap[o]? = some (.cells #[.int .u8 v.kind, .int .i64 v.n, .string v.t, .slice an v.names.length cn, .slice ai v.items.length ci, .map (some m), .int .i64 st.err] 118 (0, 0))
  map : ∃ D n, w.ownsMap Tryz.prog 9 (plainElem (H := Unit) Tryz.prog 3) m n D ∧ n ≤ 1000000 + st.asked.length ∧ AskD D st.asked
  rep : Rep w lo hi v (.agg #[.int .u8 v.kind, .int .i64 v.n, .string v.t, .slice an v.names.length cn, .slice ai v.items.length ci])
  pos : 0 < lo
  out : ¬ (lo ≤ o ∧ o < hi) ∧ ¬ (lo ≤ m ∧ m < hi)
  le : hi ≤ w.heap.size
  kind : v.kind = 5
  rise : rises v.names = true
  len : v.names.length = v.items.length
  wt : v.wt ≤ 4294967296

theorem PickAt.below {o m lo hi : Nat} {v : JV} {an ai : Option Addr} {cn ci : Nat} {st : PS} {w w' : World} (h : PickAt o m lo hi v an ai cn ci st w) (hb : Below w.heap.size w w') : PickAt o m lo hi v an ai cn ci st w' where
  obj := by rw [hb.block o ((Array.getElem?_eq_some_iff.1 h.obj).1)]; exact h.obj
  map := by
    obtain ⟨D, n, h1, h2, h3⟩ := h.map
    exact ⟨D, n, h1.kept (row := none) ⟨hb.os, hb.tape, hb.output, hb.size, fun k hk _ => hb.block k hk⟩ (by simp), h2, h3⟩
  rep := h.rep.below hb h.le (Nat.le_refl _) (Nat.le_refl _)
  pos := h.pos
  out := h.out
  le := Nat.le_trans h.le hb.size
  kind := h.kind
  rise := h.rise
  len := h.len
  wt := h.wt
theorem PickAt.ne {o m lo hi : Nat} {v : JV} {an ai : Option Addr} {cn ci : Nat} {st : PS} {w : World} (h : PickAt o m lo hi v an ai cn ci st w) : m ≠ o := fun e => by
  obtain ⟨D, n, ⟨es, clock, h1, _⟩, _⟩ := h.map
  rw [e, h.obj] at h1; cases h1
theorem PickAt.fail {o m lo hi : Nat} {v : JV} {an ai : Option Addr} {cn ci : Nat} {st : PS} {w : World} (h : PickAt o m lo hi v an ai cn ci st w) (e : Int) : PickAt o m lo hi v an ai cn ci ⟨st.asked, e⟩ (w.setCell ⟨o, 6, none⟩ (.int .i64 e)) where
  obj := by simp [World.setCell, Array.getElem?_modify, h.obj]
  map := by
    obtain ⟨D, n, h1, h2, h3⟩ := h.map
    exact ⟨D, n, h1.kept (row := some o) ⟨rfl, rfl, rfl, by simp [World.setCell], fun k _ hk => Below.heap_setCell _ _ _ _ (fun e => hk (by simp [e]))⟩ (fun e => h.ne (Option.some.inj e)), h2, h3⟩
  rep := h.rep.carry (Nat.le_refl _) (Nat.le_refl _) fun b h1 h2 => Below.heap_setCell _ _ _ _ (fun (e : b = o) => h.out.1 ⟨e ▸ h1, e ▸ h2⟩)
  pos := h.pos
  out := h.out
  le := by have := h.le; simpa [World.setCell] using this
  kind := h.kind
  rise := h.rise
  len := h.len
  wt := h.wt
theorem PickAt.ask {o m lo hi : Nat} {v : JV} {an ai : Option Addr} {cn ci : Nat} {st : PS} {w w' : World} (h : PickAt o m lo hi v an ai cn ci st w) (y : ByteArray) (hg : w.grownBy w' (some m)) {D : DataW Unit} {n : Nat}
    (hm : w'.ownsMap Tryz.prog 9 (plainElem (H := Unit) Tryz.prog 3) m n D) (hn : n ≤ 1000000 + st.asked.length + 1) (hD : AskD D (y :: st.asked)) : PickAt o m lo hi v an ai cn ci ⟨y :: st.asked, st.err⟩ w' where
  obj := by rw [hg.block o ((Array.getElem?_eq_some_iff.1 h.obj).1) (fun e => h.ne (Option.some.inj e).symm)]; exact h.obj
  map := ⟨D, n, hm, by simp; omega, hD⟩
  rep := h.rep.carry (Nat.le_refl _) (Nat.le_refl _) fun b h1 h2 => hg.block b (Nat.lt_of_lt_of_le h2 h.le) (fun e => h.out.2 ⟨by rw [← Option.some.inj e]; exact h1, by rw [← Option.some.inj e]; exact h2⟩)
  pos := h.pos
  out := h.out
  le := Nat.le_trans h.le hg.size
  kind := h.kind
  rise := h.rise
  len := h.len
  wt := h.wt

end Go.Proofs.YtcahpjejpimdhaaGreatDoor

namespace Go.Proofs.YtcahpjejpimdhaaGreatDoor
open Go.RowKit

theorem owns_mono {w : World} {base base' e size n : Nat} {v : Value} {cs : List Value} (h : w.ownsRow base e size v n cs) (hb : base' ≤ base) : w.ownsRow base' e size v n cs := by
  refine ⟨h.1, ?_⟩
  rcases h.2 with h2 | ⟨g, cap, cur, hv, hg, r⟩
  · exact .inl h2
  · exact .inr ⟨g, cap, cur, hv, Nat.le_trans hb hg, r⟩

/-- The object's variable (block cb), its names and its items so far. -/
structure ObjAt2 (W wr : World) (B cb T e1 e5 : Nat) (vn vi : Value) (ns : List ByteArray) (its : List JV) (cs : List Value) : Prop where
  lt : cb < W.heap.size
  le : B ≤ W.heap.size
  touch : Touch (· = cb) W wr
  row : wr.rowIs cb T 5 (pick5 (.int .u8 5) (.int .i64 0) (.string { data := #[] }) vn vi)
  names : wr.ownsRow W.heap.size e1 1 vn ns.length (ns.map .string)
  items : wr.ownsRow W.heap.size e5 5 vi its.length cs
  reps : RepRow wr B (fun b => b = cb ∨ vn.ownBlock = some b ∨ vi.ownBlock = some b) its cs
  ne : ∀ b, vn.ownBlock = some b → vi.ownBlock ≠ some b

theorem ObjAt2.below {W wr w' : World} {B cb T e1 e5 : Nat} {vn vi : Value} {ns : List ByteArray} {its : List JV} {cs : List Value} (h : ObjAt2 W wr B cb T e1 e5 vn vi ns its cs) (hb : Below wr.heap.size wr w') : ObjAt2 W w' B cb T e1 e5 vn vi ns its cs where
  lt := h.lt
  le := h.le
  touch := h.touch.trans (Touch.of_below hb (Nat.le_refl _))
  row := below_row hb h.row h.row.lt
  names := owns_below h.names hb
  items := owns_below h.items hb
  reps := h.reps.carry hb.size (Nat.le_refl _) (fun b hb' _ => hb.block b hb') (fun _ hx => .inl hx)
  ne := h.ne

/-- One name more: 'obj.Names = append(obj.Names, x)'. -/
theorem ObjAt2.name {W wr w4 : World} {B cb T e1 e5 g cap : Nat} {vn vi : Value} {ns : List ByteArray} {its : List JV} {cs : List Value} (h : ObjAt2 W wr B cb T e1 e5 vn vi ns its cs) (x : ByteArray)
    (hg : wr.grownBy w4 vn.ownBlock) (hat : vn.ownBlock = some g ∨ wr.heap.size ≤ g)
    (ho4 : w4.ownsRow W.heap.size e1 1 (.slice (some ⟨g, 0, none⟩) (ns.length + 1) cap) (ns.length + 1) (ns.map .string ++ [.string x])) :
    ObjAt2 W (w4.setCell ⟨cb, 3, none⟩ (.slice (some ⟨g, 0, none⟩) (ns.length + 1) cap)) B cb T e1 e5 (.slice (some ⟨g, 0, none⟩) (ns.length + 1) cap) vi (ns ++ [x]) its cs := by
  have hwz : W.heap.size ≤ wr.heap.size := h.touch.size
  have hz4 := hg.size
  have hlt := h.lt
  have hon : ∀ b, vn.ownBlock = some b → W.heap.size ≤ b ∧ b < wr.heap.size := fun b hb => h.names.lt b hb
  have hoi : ∀ b, vi.ownBlock = some b → W.heap.size ≤ b ∧ b < wr.heap.size := fun b hb => h.items.lt b hb
  have s2 : ∀ b, b < wr.heap.size → vn.ownBlock ≠ some b → w4.heap[b]? = wr.heap[b]? := fun b hb hne => hg.block b hb (fun e => hne e.symm)
  have s3 : ∀ b, b ≠ cb → (w4.setCell ⟨cb, 3, none⟩ (.slice (some ⟨g, 0, none⟩) (ns.length + 1) cap)).heap[b]? = w4.heap[b]? := fun b hb => Below.heap_setCell _ _ _ _ hb
  have hcn : vn.ownBlock ≠ some cb := fun e => by have := (hon cb e).1; omega
  have hz5 : (w4.setCell ⟨cb, 3, none⟩ (.slice (some ⟨g, 0, none⟩) (ns.length + 1) cap)).heap.size = w4.heap.size := by simp [World.setCell]
  have hgb : ∀ b, (Value.slice (some ⟨g, 0, none⟩) (ns.length + 1) cap).ownBlock = some b → b = g := fun b hb => by simp [Value.ownBlock] at hb; exact hb.symm
  have hgi : vi.ownBlock ≠ some g := fun e => by
    rcases hat with ha | ha
    · exact h.ne g ha e
    · have := (hoi g e).2; omega
  refine ⟨hlt, h.le, ⟨?_, ?_, ?_, by omega, fun b hb hne => ?_⟩, ?_, ?_, ?_, ?_, ?_⟩
  · show w4.os = _; rw [hg.os, h.touch.os]
  · show w4.tape = _; rw [hg.tape, h.touch.tape]
  · show w4.output = _; rw [hg.output, h.touch.output]
  · rw [s3 b hne, s2 b (by omega) (fun e => by have := (hon b e).1; omega)]; exact h.touch.block b hb hne
  · have h4 : w4.rowIs cb T 5 _ := h.row.of_block (s2 cb (by omega) hcn)
    refine (h4.set 3 _).congr fun i hi => ?_
    rcases i with _ | _ | _ | _ | _ | i <;> first | rfl | omega
  · have := ownsRow_setCell_below ho4 hlt (Value.slice (some ⟨g, 0, none⟩) (ns.length + 1) cap) (a := ⟨cb, 3, none⟩)
    simpa using this
  · refine owns_of_block h.items fun b hb => ?_
    rw [s3 b (fun e => by have := (hoi b hb).1; omega), s2 b (hoi b hb).2 (fun e => h.ne b e hb)]
  · refine h.reps.carry (by omega) (Nat.le_refl _) (fun b hb hx => ?_) (fun b hx => ?_)
    · rw [s3 b (fun e => hx (.inl e)), s2 b hb (fun e => hx (.inr (.inl e)))]
    · rcases hx with hx | hx | hx
      · exact .inl (.inl hx)
      · rw [hgb b hx]
        rcases hat with ha | ha
        · exact .inl (.inr (.inl ha))
        · exact .inr ha
      · exact .inl (.inr (.inr hx))
  · intro b hb
    rw [hgb b hb]; exact hgi

/-- One item more: 'obj.Items = append(obj.Items, it)', the item's parts in memory behind wr. -/
theorem ObjAt2.item {W wr w4 : World} {B cb T e1 e5 g cap lo hi : Nat} {vn vi : Value} {ns : List ByteArray} {its : List JV} {cs : List Value} {it : JV} {an ai : Option Addr} {cn ci : Nat} (h : ObjAt2 W wr B cb T e1 e5 vn vi ns its cs)
    (hlo : B ≤ lo) (hhi : hi ≤ cb) (hr3 : Rep wr lo hi it (.agg #[.int .u8 it.kind, .int .i64 it.n, .string it.t, .slice an it.names.length cn, .slice ai it.items.length ci]))
    (hg : wr.grownBy w4 vi.ownBlock) (hat : vi.ownBlock = some g ∨ wr.heap.size ≤ g)
    (ho4 : w4.ownsRow W.heap.size e5 5 (.slice (some ⟨g, 0, none⟩) (its.length + 1) cap) (its.length + 1) (cs ++ [.int .u8 it.kind, .int .i64 it.n, .string it.t, .slice an it.names.length cn, .slice ai it.items.length ci])) :
    ObjAt2 W (w4.setCell ⟨cb, 4, none⟩ (.slice (some ⟨g, 0, none⟩) (its.length + 1) cap)) B cb T e1 e5 vn (.slice (some ⟨g, 0, none⟩) (its.length + 1) cap) ns (its ++ [it]) (cs ++ [.int .u8 it.kind, .int .i64 it.n, .string it.t, .slice an it.names.length cn, .slice ai it.items.length ci]) := by
  have hwz : W.heap.size ≤ wr.heap.size := h.touch.size
  have hz4 := hg.size
  have hlt := h.lt
  have hon : ∀ b, vn.ownBlock = some b → W.heap.size ≤ b ∧ b < wr.heap.size := fun b hb => h.names.lt b hb
  have hoi : ∀ b, vi.ownBlock = some b → W.heap.size ≤ b ∧ b < wr.heap.size := fun b hb => h.items.lt b hb
  have s2 : ∀ b, b < wr.heap.size → vi.ownBlock ≠ some b → w4.heap[b]? = wr.heap[b]? := fun b hb hne => hg.block b hb (fun e => hne e.symm)
  have s3 : ∀ b, b ≠ cb → (w4.setCell ⟨cb, 4, none⟩ (.slice (some ⟨g, 0, none⟩) (its.length + 1) cap)).heap[b]? = w4.heap[b]? := fun b hb => Below.heap_setCell _ _ _ _ hb
  have hcn : vi.ownBlock ≠ some cb := fun e => by have := (hoi cb e).1; omega
  have hz5 : (w4.setCell ⟨cb, 4, none⟩ (.slice (some ⟨g, 0, none⟩) (its.length + 1) cap)).heap.size = w4.heap.size := by simp [World.setCell]
  have hgb : ∀ b, (Value.slice (some ⟨g, 0, none⟩) (its.length + 1) cap).ownBlock = some b → b = g := fun b hb => by simp [Value.ownBlock] at hb; exact hb.symm
  refine ⟨hlt, h.le, ⟨?_, ?_, ?_, by omega, fun b hb hne => ?_⟩, ?_, ?_, ?_, ?_, ?_⟩
  · show w4.os = _; rw [hg.os, h.touch.os]
  · show w4.tape = _; rw [hg.tape, h.touch.tape]
  · show w4.output = _; rw [hg.output, h.touch.output]
  · rw [s3 b hne, s2 b (by omega) (fun e => by have := (hoi b e).1; omega)]; exact h.touch.block b hb hne
  · have h4 : w4.rowIs cb T 5 _ := h.row.of_block (by rw [s2 cb (by omega) hcn])
    refine (h4.set 4 _).congr fun i hi => ?_
    rcases i with _ | _ | _ | _ | _ | i <;> first | rfl | omega
  · refine owns_of_block h.names fun b hb => ?_
    have := hon b hb
    rw [s3 b (fun e => by omega), s2 b (by omega) (h.ne b hb)]
  · have := ownsRow_setCell_below ho4 hlt (Value.slice (some ⟨g, 0, none⟩) (its.length + 1) cap) (a := ⟨cb, 4, none⟩)
    simpa using this
  · have c1 : RepRow (w4.setCell ⟨cb, 4, none⟩ (.slice (some ⟨g, 0, none⟩) (its.length + 1) cap)) B (fun b => b = cb ∨ vn.ownBlock = some b ∨ (Value.slice (some ⟨g, 0, none⟩) (its.length + 1) cap).ownBlock = some b) its cs := by
      refine h.reps.carry (by omega) (Nat.le_refl _) (fun b hb hx => ?_) (fun b hx => ?_)
      · rw [s3 b (fun e => hx (.inl e)), s2 b (by omega) (fun e => hx (.inr (.inr e)))]
      · rcases hx with hx | hx | hx
        · exact .inl (.inl hx)
        · exact .inl (.inr (.inl hx))
        · rw [hgb b hx]
          rcases hat with ha | ha
          · exact .inl (.inr (.inr ha))
          · exact .inr (by omega)
    refine c1.snoc it lo hi an cn ai ci (by omega) (by omega) (fun b hx hb => ?_) (Rep.carry (Nat.le_refl _) (Nat.le_refl _) (fun b h1 h2 => ?_) _ _ hr3)
    · rcases hx with hx | hx | hx
      · omega
      · have := hon b hx; omega
      · rw [hgb b hx] at hb
        rcases hat with ha | ha
        · have := hoi g ha; omega
        · omega
    · rw [s3 b (by omega), s2 b (by omega) (fun e => by have := (hoi b e).1; omega)]
  · intro b hb e
    rw [hgb b e] at hb
    rcases hat with ha | ha
    · exact h.ne g hb ha
    · have := (hon g hb).2; omega

/-- The object at the end, as a value. -/
theorem ObjAt2.done {W wr : World} {B cb T e1 e5 : Nat} {vn vi : Value} {ns : List ByteArray} {its : List JV} {cs : List Value} (h : ObjAt2 W wr B cb T e1 e5 vn vi ns its cs) :
    ∃ an cn ai ci, vn = .slice an ns.length cn ∧ vi = .slice ai its.length ci ∧ Rep wr B wr.heap.size (.mk 5 0 { data := #[] } ns its) (.agg #[.int .u8 5, .int .i64 0, .string { data := #[] }, .slice an ns.length cn, .slice ai its.length ci]) := by
  obtain ⟨an, cn, h1, h2, h3⟩ := owns_strs (owns_mono h.names h.le) rfl
  obtain ⟨ai, ci, h4, h5, h6⟩ := owns_vals (owns_mono h.items h.le) h.reps rfl
  exact ⟨an, cn, ai, ci, h1, h4, Rep.mk (v := .mk 5 0 { data := #[] } ns its) h2 h5 h3 h6⟩

end Go.Proofs.YtcahpjejpimdhaaGreatDoor

namespace Go.Proofs.YtcahpjejpimdhaaGreatDoor
open Go.RowKit

/-- What an Item may have become. -/
def WeakItem (it it' : JV) : Prop := it' = it ∨ (it' = zeroJ ∧ ¬ Seen 0 it)
def WkL (v : JV) (its : List JV) (k : Nat) : Prop := its.length = k ∧ ∀ j (h : j < its.length) (h' : j < v.items.length), WeakItem v.items[j] its[j]
theorem WkL.snoc {v : JV} {its : List JV} {k : Nat} {it' : JV} (h : WkL v its k) (hk : k < v.items.length) (hw : WeakItem v.items[k] it') : WkL v (its ++ [it']) (k + 1) := by
  obtain ⟨h1, h2⟩ := h
  refine ⟨by simp [h1], fun j hj hj' => ?_⟩
  by_cases e : j < its.length
  · rw [List.getElem_append_left e]; exact h2 j e hj'
  · have : j = k := by simp at hj; omega
    subst this
    rw [List.getElem_append_right (by omega)]
    simpa using hw
structure WeakCopy (v v' : JV) : Prop where
  kind : v'.kind = v.kind
  n : v'.n = v.n
  t : v'.t = v.t
  names : v'.names = v.names
  len : v'.items.length = v.items.length
  items : ∀ j (h : j < v'.items.length) (h' : j < v.items.length), WeakItem v.items[j] v'.items[j]
def CopyWPost (v : JV) (w : World) (e : Ending) (w' : World) : Prop :=
  ∃ v' an cn ai ci, WeakCopy v v' ∧ e = .returned (.agg #[.int .u8 v'.kind, .int .i64 v'.n, .string v'.t, .slice an v'.names.length cn, .slice ai v'.items.length ci]) ∧
    Rep w' w.heap.size w'.heap.size v' (.agg #[.int .u8 v'.kind, .int .i64 v'.n, .string v'.t, .slice an v'.names.length cn, .slice ai v'.items.length ci]) ∧ Below w.heap.size w w'

theorem box_cellW {w : World} {p T j : Nat} {cs : Array Value} {u : Value} (hp : w.heap[p]? = some (.cells cs T (0, 0))) (hj : cs[j]? = some u) : w.cell? ⟨p, j, none⟩ = some u := by simp [World.cell?, hp, hj]
theorem heap5W {W : World} {b k : Nat} (v0 v1 v2 v3 v4 : Value) (hk : k ≠ b) :
    (((((W.setCell ⟨b, 0, none⟩ v0).setCell ⟨b, 1, none⟩ v1).setCell ⟨b, 2, none⟩ v2).setCell ⟨b, 3, none⟩ v3).setCell ⟨b, 4, none⟩ v4).heap[k]? = W.heap[k]? := by
  rw [Below.heap_setCell _ _ _ _ hk, Below.heap_setCell _ _ _ _ hk, Below.heap_setCell _ _ _ _ hk, Below.heap_setCell _ _ _ _ hk, Below.heap_setCell _ _ _ _ hk]
theorem size5W {W : World} {b : Nat} {v0 v1 v2 v3 v4 : Value} : (((((W.setCell ⟨b, 0, none⟩ v0).setCell ⟨b, 1, none⟩ v1).setCell ⟨b, 2, none⟩ v2).setCell ⟨b, 3, none⟩ v3).setCell ⟨b, 4, none⟩ v4).heap.size = W.heap.size := by simp [World.setCell]
theorem zero_set {W : World} {b T : Nat} {a0 a1 a2 a3 a4 v0 v1 v2 v3 v4 : Value} (h : W.heap[b]? = some (.cells #[a0, a1, a2, a3, a4] T (0, 0))) :
    (((((W.setCell ⟨b, 0, none⟩ v0).setCell ⟨b, 1, none⟩ v1).setCell ⟨b, 2, none⟩ v2).setCell ⟨b, 3, none⟩ v3).setCell ⟨b, 4, none⟩ v4).heap[b]? = some (.cells #[v0, v1, v2, v3, v4] T (0, 0)) := by
  simp [World.setCell, Array.getElem?_modify, h]

theorem dup_doneW {v : JV} {its : List JV} {w W wr : World} {cb : Nat} {ai a1 a5 : Option Addr} {ni nn c1 ci : Nat} {v0 v1 v2 v3 v4 : Value} (hM : Mid v w W cb ai a1 ni nn c1 ci) (ht : Touch (· = cb) W wr) (hv : ValsAt wr W.heap.size wr.heap.size a5 its) {w6 : World}
    (h6 : w6 = (((((wr.setCell ⟨w.heap.size + 1, 0, none⟩ v0).setCell ⟨w.heap.size + 1, 1, none⟩ v1).setCell ⟨w.heap.size + 1, 2, none⟩ v2).setCell ⟨w.heap.size + 1, 3, none⟩ v3).setCell ⟨w.heap.size + 1, 4, none⟩ v4)) :
    Below w.heap.size w w6 ∧ StrsAt w6 w.heap.size w6.heap.size a1 v.names ∧ ValsAt w6 w.heap.size w6.heap.size a5 its ∧ w6.heap[w.heap.size + 1]? = some (.cells #[v0, v1, v2, v3, v4] 29 (0, 0)) := by
  have h1 := hM.below.size
  have h2 := hM.gt
  have h3 := hM.lt
  have h4 := ht.size
  have hz : w6.heap.size = wr.heap.size := by rw [h6]; simp [World.setCell]
  have hs : ∀ b, b ≠ w.heap.size + 1 → w6.heap[b]? = wr.heap[b]? := fun b hw => by
    rw [h6, Below.heap_setCell _ _ _ _ hw, Below.heap_setCell _ _ _ _ hw, Below.heap_setCell _ _ _ _ hw, Below.heap_setCell _ _ _ _ hw, Below.heap_setCell _ _ _ _ hw]
  have hb : Below w.heap.size w wr := hM.below.trans (ht.below h1 fun k hk e => by omega)
  have hw : w.heap.size ≤ w.heap.size + 1 := by omega
  refine ⟨?_, ?_, hv.carry h1 (by omega) fun b hb1 hb2 => hs b (by omega), ?_⟩
  · rw [h6]; exact ((((hb.setCell (by exact hw) _).setCell (by exact hw) _).setCell (by exact hw) _).setCell (by exact hw) _).setCell (by exact hw) _
  · obtain ⟨lo, hi, k1, k2, k3, k4⟩ := hM.names
    exact k4.carry (by omega) (by omega) fun b hb1 hb2 => by
      rw [hs b (by omega)]; exact ht.block b (by omega) fun e => k3 ⟨by omega, by omega⟩
  · have hr := ht.row hM.res (by omega)
    have := (((((hr.set 0 v0).set 1 v1).set 2 v2).set 3 v3).set 4 v4).congr (g := pick5 v0 v1 v2 v3 v4) fun j hj => by
      rcases j with _ | _ | _ | _ | _ | j <;> first | rfl | omega
    rw [← h6] at this
    exact row5_heap this


set_option maxRecDepth 100000 in
set_option maxHeartbeats 2000000 in
theorem valueCopyW (v : JV) (x : Value) (w : World) (hi : Nat) (hN : v.wt ≤ 4294967296) (hhi : hi ≤ w.heap.size) (hR : Rep w 0 hi v x) :
    Calls Tryz.prog 77 #[x] w (CopyWPost v w) := by
  obtain ⟨an, cn, ai, ci, rfl, h1, h2, h3, h4⟩ := hR.parts
  obtain ⟨b1, b2, b3, b4⟩ := v.wt_bd
  have H3 := Lib.hid h3
  have H4 := Lib.hid h4
  clear h3 h4 hR
  obtain ⟨nn, hnn⟩ : ∃ nn, nn = v.names.length := ⟨_, rfl⟩
  obtain ⟨ni, hni⟩ : ∃ ni, ni = v.items.length := ⟨_, rfl⟩
  rw [← hnn, ← hni]
  rw [← hnn] at b2
  rw [← hni] at b3
  have HNN := Lib.hid hnn
  have HNI := Lib.hid hni
  clear hnn hni h1 h2
  obtain ⟨i0, hi0, hz0, hz1, hz2⟩ := info_parts infoValue
  go_enter Tryz.func77, Tryz.ntmps77
  go_wp2_with fail
  have HC := Lib.hid (fun (w1 : World) (h : Below w.heap.size w w1) => show Calls Tryz.prog 107 #[.slice an nn cn] w1 (fun e w' => ∃ a' c', e = .returned (.slice a' nn c') ∧ nn ≤ c' ∧ StrsAt w' w1.heap.size w'.heap.size a' v.names ∧ Below w1.heap.size w1 w') by
    have := cloneStrs v.names an cn w1 hi (H3.out.below h hhi (Nat.zero_le _) (Nat.le_refl _)) (by rw [← HNN.out]; omega)
    rwa [← HNN.out] at this)
  have HCA := Lib.hid (show Calls Tryz.prog 107 #[.slice an nn cn] (((w.alloc (.cells #[.int .u8 v.kind, .int .i64 v.n, .string v.t, .slice an nn cn, .slice ai ni ci] 29)).alloc (.cells #[.int .u8 0, .int .i64 0, .string { data := #[] }, .slice none 0 0, .slice none 0 0] 29)).drew) (fun e w1 => ∃ a1 c1, e = .returned (.slice a1 nn c1) ∧ nn ≤ c1 ∧ StrsAt w1 (w.heap.size + 2) w1.heap.size a1 v.names ∧ Below (w.heap.size + 2) (((w.alloc (.cells #[.int .u8 v.kind, .int .i64 v.n, .string v.t, .slice an nn cn, .slice ai ni ci] 29)).alloc (.cells #[.int .u8 0, .int .i64 0, .string { data := #[] }, .slice none 0 0, .slice none 0 0] 29)).drew) w1 ∧ w.heap.size + 1 < w1.heap.size ∧ w1.cell? ⟨w.heap.size, 0, none⟩ = some (.int .u8 v.kind) ∧ w1.cell? ⟨w.heap.size, 1, none⟩ = some (.int .i64 v.n) ∧ w1.cell? ⟨w.heap.size, 2, none⟩ = some (.string v.t) ∧ w1.cell? ⟨w.heap.size, 3, none⟩ = some (.slice an nn cn)) by
    refine (HC.out _ ((((Below.refl _ _).alloc (Nat.le_refl _) _).alloc (by simp) _).drew)).mono ?_
    rintro e w1 ⟨a1, c1, rfl, hc1, hs1, hb1⟩
    have hz : (((w.alloc (.cells #[.int .u8 v.kind, .int .i64 v.n, .string v.t, .slice an nn cn, .slice ai ni ci] 29)).alloc (.cells #[.int .u8 0, .int .i64 0, .string { data := #[] }, .slice none 0 0, .slice none 0 0] 29)).drew).heap.size = w.heap.size + 2 := by simp
    rw [hz] at hs1 hb1
    have hsz := hb1.size
    rw [hz] at hsz
    refine ⟨a1, c1, rfl, hc1, hs1, hb1, by omega, ?_, ?_, ?_, ?_⟩ <;> (rw [hb1.cell (by show w.heap.size < _; omega)]; go_simp))
  have HCB := Lib.hid (show Calls Tryz.prog 107 #[.slice an nn cn] ((((w.alloc (.cells #[.int .u8 v.kind, .int .i64 v.n, .string v.t, .slice an nn cn, .slice ai ni ci] 29)).alloc (.cells #[.int .u8 0, .int .i64 0, .string { data := #[] }, .slice none 0 0, .slice none 0 0] 29)).alloc (.cells #[.int .u8 0, .int .i64 0, .string { data := #[] }, .slice none 0 0, .slice none 0 0] 29)).drew) (fun e w1 => ∃ a1 c1, e = .returned (.slice a1 nn c1) ∧ nn ≤ c1 ∧ StrsAt w1 (w.heap.size + 3) w1.heap.size a1 v.names ∧ Below (w.heap.size + 3) ((((w.alloc (.cells #[.int .u8 v.kind, .int .i64 v.n, .string v.t, .slice an nn cn, .slice ai ni ci] 29)).alloc (.cells #[.int .u8 0, .int .i64 0, .string { data := #[] }, .slice none 0 0, .slice none 0 0] 29)).alloc (.cells #[.int .u8 0, .int .i64 0, .string { data := #[] }, .slice none 0 0, .slice none 0 0] 29)).drew) w1 ∧ w.heap.size + 2 < w1.heap.size ∧ w1.rowIs (w.heap.size + 2) 29 5 (pick5 (.int .u8 0) (.int .i64 0) (.string { data := #[] }) (.slice none 0 0) (.slice none 0 0)) ∧ w1.cell? ⟨w.heap.size, 0, none⟩ = some (.int .u8 v.kind) ∧ w1.cell? ⟨w.heap.size, 1, none⟩ = some (.int .i64 v.n) ∧ w1.cell? ⟨w.heap.size, 2, none⟩ = some (.string v.t) ∧ w1.cell? ⟨w.heap.size, 3, none⟩ = some (.slice an nn cn)) by
    refine (HC.out _ (((((Below.refl _ _).alloc (Nat.le_refl _) _).alloc (by simp) _).alloc (by simp; omega) _).drew)).mono ?_
    rintro e w1 ⟨a1, c1, rfl, hc1, hs1, hb1⟩
    have hz : ((((w.alloc (.cells #[.int .u8 v.kind, .int .i64 v.n, .string v.t, .slice an nn cn, .slice ai ni ci] 29)).alloc (.cells #[.int .u8 0, .int .i64 0, .string { data := #[] }, .slice none 0 0, .slice none 0 0] 29)).alloc (.cells #[.int .u8 0, .int .i64 0, .string { data := #[] }, .slice none 0 0, .slice none 0 0] 29)).drew).heap.size = w.heap.size + 3 := by simp
    rw [hz] at hs1 hb1
    have hsz := hb1.size
    rw [hz] at hsz
    have hr0 := (rowIs_box5 ((w.alloc (.cells #[.int .u8 v.kind, .int .i64 v.n, .string v.t, .slice an nn cn, .slice ai ni ci] 29)).alloc (.cells #[.int .u8 0, .int .i64 0, .string { data := #[] }, .slice none 0 0, .slice none 0 0] 29)) (.int .u8 0) (.int .i64 0) (.string { data := #[] }) (.slice none 0 0) (.slice none 0 0) 29).drew
    rw [show ((w.alloc (.cells #[.int .u8 v.kind, .int .i64 v.n, .string v.t, .slice an nn cn, .slice ai ni ci] 29)).alloc (.cells #[.int .u8 0, .int .i64 0, .string { data := #[] }, .slice none 0 0, .slice none 0 0] 29)).heap.size = w.heap.size + 2 by simp] at hr0
    refine ⟨a1, c1, rfl, hc1, hs1, hb1, by omega, below_row hb1 hr0 (by omega), ?_, ?_, ?_, ?_⟩ <;> (rw [hb1.cell (by show w.heap.size < _; omega)]; go_simp))
  clear HC
  go_region_held3 (fun w' => w'.cell? ⟨w.heap.size, 0, none⟩ = some (.int .u8 v.kind) ∧ w'.cell? ⟨w.heap.size, 1, none⟩ = some (.int .i64 v.n) ∧ w'.cell? ⟨w.heap.size, 2, none⟩ = some (.string v.t) ∧ w'.cell? ⟨w.heap.size, 3, none⟩ = some (.slice an nn cn)) (first | (with_reducible exact ⟨q0, q1, q2, q3⟩) | (with_reducible exact ⟨(cell_alloc_lt _ hz0).trans q0, (cell_alloc_lt _ hz0).trans q1, (cell_alloc_lt _ hz0).trans q2, (cell_alloc_lt _ hz0).trans q3⟩) | (with_reducible exact ⟨keep5 hq q0, keep5 hq q1, keep5 hq q2, keep5 hq q3⟩) | (go_keep; done)) (first | (go_at_call 107; (with_reducible refine HCA.out.mono ?_); rintro e w1 ⟨a1, c1, rfl, hc1, hs1, hb1, hz1, q0, q1, q2, q3⟩; have hz0 : w.heap.size < w1.heap.size := Nat.lt_of_succ_lt hz1) | (go_at_call 107; (with_reducible refine HCB.out.mono ?_); rintro e w1 ⟨a1, c1, rfl, hc1, hs1, hb1, hz1, hr1, q0, q1, q2, q3⟩; have hq : w.heap.size ≠ w.heap.size + 2 := Nat.ne_of_lt (Nat.lt_add_of_pos_right (by decide)); have r0 := hr1.cell (i := 0) (by decide); have r1 := hr1.cell (i := 1) (by decide); have r2 := hr1.cell (i := 2) (by decide); have r3 := hr1.cell (i := 3) (by decide); have r4 := hr1.cell (i := 4) (by decide); have s0 := hr1.frozen 0; have s1 := hr1.frozen 1; have s2 := hr1.frozen 2; have s3 := hr1.frozen 3; have s4 := hr1.frozen 4; have HR1 := Lib.hid hr1; clear hr1; simp only [pick5] at r0 r1 r2 r3 r4))
  · have HM := Lib.hid (mid_a hc1 hs1 hb1 hz1)
    clear hs1 hb1 q0 q1 q2 q3 hz0 HCA HCB hc1 hz1
    generalize (w1.alloc (.cells #[.int .u8 v.kind, .int .i64 v.n, .string v.t, .slice a1 nn c1, .slice none 0 0] 29)) = W at HM ⊢
    generalize w1.heap.size = cb at HM ⊢
    have x4 := HM.out.box
    have hgt := HM.out.gt
    have hlt := HM.out.lt
    go_wp2
    clear x4
    go_loopw [5, 19] (fun _ i wr => ∃ (k : Nat) (cs : List Value) (vi : Value) (its : List JV), k ≤ ni ∧ i = .int .i64 k ∧ Touch (· = cb) W wr ∧ wr.rowIs cb 29 5 (pick5 (.int .u8 v.kind) (.int .i64 v.n) (.string v.t) (.slice a1 nn c1) vi) ∧ wr.ownsRow W.heap.size 29 5 vi k cs ∧ RepRow wr W.heap.size (fun b => b = cb ∨ vi.ownBlock = some b) its cs ∧ WkL v its k) (fun _ i _ => ni - (intOf i).toNat)
    case atStart => exact ⟨0, [], .slice none 0 0, [], by omega, rfl, Touch.refl _ _, HM.out.row, World.ownsRow_nil _ _ _ _, RepRow.nil _ _ _, rfl, fun j h => by simp at h⟩
    case round =>
      obtain ⟨k, cs, vi, its, hk, rfl, htch, hrow, hown, hrr, hwl⟩ := hrel
      have HWL := Lib.hid hwl
      clear hwl
      by_cases hlt2 : k < ni
      · have hlt' : k < v.items.length := by rw [← HNI.out]; exact hlt2
        have HB : Hid (Below hi w wr) := (HM.out.below.mono hhi).trans (htch.below (by omega) fun j hj e => by omega)
        obtain ⟨b, off, an', cn', ai', ci', rfl, _, hb, y0, y1, y2, y3, y4, hrep⟩ := (H4.out.below HB.out (Nat.le_refl _) (Nat.le_refl _) (Nat.le_refl _)).get k hlt'
        have hwk := JV.wts_get v.items k hlt'
        have HWS := Lib.hid (fun it' (h : WeakItem v.items[k] it') => WkL.snoc HWL.out hlt' h)
        have c4 : wr.cell? ⟨cb, 4, none⟩ = some vi := hrow.cell (by omega)
        have f4 : wr.frozen? ⟨cb, 4, none⟩ = false := hrow.frozen 4
        have hcz : cb < wr.heap.size := hrow.lt
        have hwz : W.heap.size ≤ wr.heap.size := htch.size
        have hnb : some cb ≠ vi.ownBlock := fun e => by have := (hown.lt _ e.symm).1; omega
        have HRP := Lib.hid hrep
        have HRW := Lib.hid hrow
        have HTC := Lib.hid htch
        have HO := Lib.hid hown
        have HRR := Lib.hid hrr
        clear hrep hrow htch hown hrr
        generalize v.items[k] = it at *
        have HEN := Lib.hid (show Calls Tryz.prog 68 #[.slice ai' it.items.length ci', .int .i64 1, .pointer none, .bool false] (wr.alloc (.cells #[.int .u8 it.kind, .int .i64 it.n, .string it.t, .slice an' it.names.length cn', .slice ai' it.items.length ci'] 29)) (fun e w' => ∃ (b : Bool) (q : Nat), e = .returned (.bool b) ∧ w' = (wr.alloc (.cells #[.int .u8 it.kind, .int .i64 it.n, .string it.t, .slice an' it.names.length cn', .slice ai' it.items.length ci'] 29)).drewN q ∧ (b = true → ¬ Seen 0 it)) by
          have hvi : ValsAt (wr.alloc (.cells #[.int .u8 it.kind, .int .i64 it.n, .string it.t, .slice an' it.names.length cn', .slice ai' it.items.length ci'] 29)) 0 hi ai' it.items := by
            obtain ⟨an2, cn2, ai2, ci2, hx, _, _, _, h5⟩ := HRP.out.parts
            simp only [Value.agg.injEq, Array.mk.injEq, List.cons.injEq, and_true, Value.slice.injEq] at hx
            obtain ⟨_, _, _, _, rfl, _, _⟩ := hx
            exact h5.carry (Nat.le_refl _) (Nat.le_refl _) fun b _ hb => Below.heap_alloc _ _ _ (by have := HB.out.size; omega)
          have hwd := it.wt_bd
          by_cases hs : Seen 0 it
          · exact (endlessItem it ai' ci' 0 hi _ (by omega) hvi hs).mono fun e w' ⟨h1, h2⟩ => ⟨false, 0, h1, h2 ▸ rfl, fun h => by cases h⟩
          · exact (endlessW 4294967296 it.items ai' ci' 1 none hi _ (by omega) (by omega) hvi (.inl rfl)).mono fun e w' ⟨b, q, h1, h2⟩ => ⟨b, q, h1, h2, fun _ => hs⟩)
        go_wp2_with fail
        refine HEN.out.mono ?_
        clear HEN
        rintro e w9 ⟨b, q, rfl, hw9, hbs⟩
        have HBS := Lib.hid hbs
        have HW9 := Lib.hid hw9
        have hb9 : Below wr.heap.size wr w9 := by rw [hw9]; exact Below.drewN ((Below.refl _ _).alloc (Nat.le_refl _) _) _
        have hx9 : w9.heap[wr.heap.size]? = some (.cells #[.int .u8 it.kind, .int .i64 it.n, .string it.t, .slice an' it.names.length cn', .slice ai' it.items.length ci'] 29 (0, 0)) := by rw [hw9]; exact heap_alloc_new wr _
        have hz9 : w9.heap.size = wr.heap.size + 1 := by rw [hw9]; simp [World.drewN]
        have HB9 := Lib.hid hb9
        have HX9 := Lib.hid hx9
        have HZ9 := Lib.hid hz9
        have d4 : w9.cell? ⟨cb, 4, none⟩ = some vi := (hb9.cell hcz).trans c4
        have g4 : w9.frozen? ⟨cb, 4, none⟩ = false := (hb9.frozen hcz).trans f4
        have x0 : w9.cell? ⟨wr.heap.size, 0, none⟩ = some (.int .u8 it.kind) := box_cellW hx9 rfl
        have x1 : w9.cell? ⟨wr.heap.size, 1, none⟩ = some (.int .i64 it.n) := box_cellW hx9 rfl
        have x2 : w9.cell? ⟨wr.heap.size, 2, none⟩ = some (.string it.t) := box_cellW hx9 rfl
        have x3 : w9.cell? ⟨wr.heap.size, 3, none⟩ = some (.slice an' it.names.length cn') := box_cellW hx9 rfl
        have x4 : w9.cell? ⟨wr.heap.size, 4, none⟩ = some (.slice ai' it.items.length ci') := box_cellW hx9 rfl
        have z0 : ∀ j, w9.frozen? ⟨wr.heap.size, j, none⟩ = false := fun j => by simp [World.frozen?, hx9]
        have y5 := z0 0; have y6 := z0 1; have y7 := z0 2; have y8 := z0 3; have y9 := z0 4
        have hncb : cb ≠ wr.heap.size := by omega
        clear hw9 hb9 hx9 hz9 hbs z0 c4 f4
        cases b
        · have HCI := Lib.hid (show Calls Tryz.prog 108 #[.agg #[.int .u8 it.kind, .int .i64 it.n, .string it.t, .slice an' it.names.length cn', .slice ai' it.items.length ci']] w9.drew (fun e w3 => ∃ an3 cn3 ai3 ci3, e = .returned (.agg #[.int .u8 it.kind, .int .i64 it.n, .string it.t, .slice an3 it.names.length cn3, .slice ai3 it.items.length ci3]) ∧ Rep w3 (wr.heap.size + 1) w3.heap.size it (.agg #[.int .u8 it.kind, .int .i64 it.n, .string it.t, .slice an3 it.names.length cn3, .slice ai3 it.items.length ci3]) ∧ Below (wr.heap.size + 1) ((wr.alloc (.cells #[.int .u8 it.kind, .int .i64 it.n, .string it.t, .slice an' it.names.length cn', .slice ai' it.items.length ci'] 29)).drew) w3 ∧ wr.heap.size < w3.heap.size ∧ w3.cell? ⟨cb, 4, none⟩ = some vi ∧ w3.frozen? ⟨cb, 4, none⟩ = false ∧ w3.ownsRow W.heap.size 29 5 vi k cs) by
            refine (valueDuplicate 4294967296 it _ _ hi (by omega) (by omega) (by have := HB.out.size; have := HZ9.out; show hi ≤ w9.heap.size; omega) (HRP.out.below HB9.out.drew (by have := HB.out.size; omega) (Nat.zero_le _) (Nat.le_refl _))).mono ?_
            rintro e w3 ⟨an3, cn3, ai3, ci3, rfl, hr3, hb3⟩
            have hz : (w9.drew).heap.size = wr.heap.size + 1 := HZ9.out
            rw [hz] at hr3 hb3
            have hsz := hb3.size
            rw [hz] at hsz
            have hb4 : Below wr.heap.size wr w3 := HB9.out.drew.trans (hb3.mono (by omega))
            have hb5 : Below (wr.heap.size + 1) ((wr.alloc (.cells #[.int .u8 it.kind, .int .i64 it.n, .string it.t, .slice an' it.names.length cn', .slice ai' it.items.length ci'] 29)).drew) w3 := ⟨hb4.os, hb4.tape, hb4.output, by simp; omega, fun k hk => by rw [hb3.block k hk, HW9.out]; rfl⟩
            exact ⟨an3, cn3, ai3, ci3, rfl, hr3, hb5, by omega, (hb3.cell (show cb < _ by omega)).trans d4, (hb3.frozen (show cb < _ by omega)).trans g4, owns_below HO.out hb4⟩)
          go_wp2_with fail
          go_region_law (first | (refine step_append_lies _ (by rfl) (.tmp 28) (.tmp 31) 27 (by rfl) W.heap.size 29 i0 _ 5 80 Tryz.underlying27 hi0 hz0 hz1 hz2 rfl (by omega) vi k cs (by rfl) (HO3.out.alloc _) ⟨w3.heap.size, 0, none⟩ 1 1 (Array.toList #[.int .u8 it.kind, .int .i64 it.n, .string it.t, .slice an3 it.names.length cn3, .slice ai3 it.items.length ci3]) (by rfl) (by rfl) (World.news_of_block (cs := #[.int .u8 it.kind, .int .i64 it.n, .string it.t, .slice an3 it.names.length cn3, .slice ai3 it.items.length ci3]) (t := 29) (fr := (0, 0)) (heap_alloc_new w3 _)) (by simp [Value.oneCell']) (by omega) (by unfold maxLen; omega) (by omega) (by simp; omega) (w3.heap.size + 1) (by simp) ?_; intro g cap w4 hown4 hgrow4 hat4 hlt4; have c44 := grow_cell hgrow4 hcz3 hnb c43; have f44 := grow_frozen hgrow4 hcz3 hnb f43; have HO4 := Lib.hid hown4; have HG4 := Lib.hid hgrow4; have HA4 := Lib.hid hat4; clear hown4 hgrow4 hat4) | (go_simp; go_at_call 108; (with_reducible refine HCI.out.mono ?_); rintro e w3 ⟨an3, cn3, ai3, ci3, rfl, hr3, hb3, hz3, c43, f43, ho3⟩; have hcz3 : cb < w3.heap.size := Nat.lt_trans hcz hz3; have HO3 := Lib.hid ho3; have HR3 := Lib.hid hr3; have HB3 := Lib.hid hb3; clear ho3 hr3 hb3))
          all_goals
            have HST := Lib.hid (row_step (j := 4) hlt HTC.out HRW.out HO.out HRR.out HB3.out HR3.out HG4.out HA4.out HO4.out)
            clear HTC HRW HO HRR HB3 HR3 HG4 HA4 HO4 HO3 HCI
            go_wp2
            go_roundw
            case rel =>
              obtain ⟨z1, z2, z3, z4⟩ := HST.out
              refine ⟨k + 1, _, _, its ++ [it], by omega, by go_num, z1, z2.congr fun i hi => ?_, z3, z4, HWS.out it (.inl rfl)⟩
              rcases i with _ | _ | _ | _ | _ | i <;> first | rfl | omega
            case measure => simp [intOf]; omega
        · have hns := HBS.out rfl
          have HCI := Lib.hid (show Calls Tryz.prog 108 #[.agg #[.int .u8 0, .int .i64 0, .string { data := #[] }, .slice none 0 0, .slice none 0 0]] ((((((w9.setCell ⟨wr.heap.size, 0, none⟩ (.int .u8 0)).setCell ⟨wr.heap.size, 1, none⟩ (.int .i64 0)).setCell ⟨wr.heap.size, 2, none⟩ (.string { data := #[] })).setCell ⟨wr.heap.size, 3, none⟩ (.slice none 0 0)).setCell ⟨wr.heap.size, 4, none⟩ (.slice none 0 0)).drew) (fun e w3 => ∃ an3 cn3 ai3 ci3, e = .returned (.agg #[.int .u8 zeroJ.kind, .int .i64 zeroJ.n, .string zeroJ.t, .slice an3 zeroJ.names.length cn3, .slice ai3 zeroJ.items.length ci3]) ∧ Rep w3 (wr.heap.size + 1) w3.heap.size zeroJ (.agg #[.int .u8 zeroJ.kind, .int .i64 zeroJ.n, .string zeroJ.t, .slice an3 zeroJ.names.length cn3, .slice ai3 zeroJ.items.length ci3]) ∧ Below (wr.heap.size + 1) ((wr.alloc (.cells #[.int .u8 0, .int .i64 0, .string { data := #[] }, .slice none 0 0, .slice none 0 0] 29)).drew) w3 ∧ wr.heap.size < w3.heap.size ∧ w3.cell? ⟨cb, 4, none⟩ = some vi ∧ w3.frozen? ⟨cb, 4, none⟩ = false ∧ w3.ownsRow W.heap.size 29 5 vi k cs) by
            obtain ⟨w8, hw8⟩ : ∃ w8, w8 = (((((w9.setCell ⟨wr.heap.size, 0, none⟩ (.int .u8 0)).setCell ⟨wr.heap.size, 1, none⟩ (.int .i64 0)).setCell ⟨wr.heap.size, 2, none⟩ (.string { data := #[] })).setCell ⟨wr.heap.size, 3, none⟩ (.slice none 0 0)).setCell ⟨wr.heap.size, 4, none⟩ (.slice none 0 0)) := ⟨_, rfl⟩
            rw [← hw8]
            have hk8 : ∀ k, k ≠ wr.heap.size → w8.heap[k]? = w9.heap[k]? := fun k hk => by rw [hw8]; exact heap5W _ _ _ _ _ hk
            have hz8 : w8.heap.size = wr.heap.size + 1 := by rw [hw8, size5W]; exact HZ9.out
            have hx8 : w8.heap[wr.heap.size]? = some (.cells #[.int .u8 0, .int .i64 0, .string { data := #[] }, .slice none 0 0, .slice none 0 0] 29 (0, 0)) := by rw [hw8]; exact zero_set HX9.out
            have hb8 : Below wr.heap.size wr w8 := ⟨by rw [hw8]; exact HB9.out.os, by rw [hw8]; exact HB9.out.tape, by rw [hw8]; exact HB9.out.output, by omega, fun k hk => (hk8 k (by omega)).trans (HB9.out.block k hk)⟩
            refine (valueDuplicate 4294967296 zeroJ zeroAggW _ hi (by decide) (by omega) (by have := HB.out.size; show hi ≤ w8.heap.size; omega) (rep_zeroJW _ _ _)).mono ?_
            rintro e w3 ⟨an3, cn3, ai3, ci3, rfl, hr3, hb3⟩
            have hz : (w8.drew).heap.size = wr.heap.size + 1 := hz8
            rw [hz] at hr3 hb3
            have hsz := hb3.size
            rw [hz] at hsz
            have hb4 : Below wr.heap.size wr w3 := hb8.drew.trans (hb3.mono (by omega))
            have hb5 : Below (wr.heap.size + 1) ((wr.alloc (.cells #[.int .u8 0, .int .i64 0, .string { data := #[] }, .slice none 0 0, .slice none 0 0] 29)).drew) w3 := ⟨hb4.os, hb4.tape, hb4.output, by simp; omega, fun k hk => by
              rw [hb3.block k hk]
              by_cases e : k = wr.heap.size
              · subst e; exact hx8.trans (heap_alloc_new wr _).symm
              · exact (hb8.block k (by omega)).trans (Below.heap_alloc _ _ _ (by omega)).symm⟩
            exact ⟨an3, cn3, ai3, ci3, rfl, hr3, hb5, by omega, (hb4.cell hcz).trans ((HB9.out.cell hcz).symm.trans d4), (hb4.frozen hcz).trans ((HB9.out.frozen hcz).symm.trans g4), owns_below HO.out hb4⟩)
          obtain ⟨it0, hit0⟩ : ∃ it0, it0 = it := ⟨_, rfl⟩
          go_wp2_with fail
          go_region_law (first | (refine step_append_lies _ (by rfl) (.tmp 28) (.tmp 31) 27 (by rfl) W.heap.size 29 i0 _ 5 80 Tryz.underlying27 hi0 hz0 hz1 hz2 rfl (by omega) vi k cs (by rfl) (HO3.out.alloc _) ⟨w3.heap.size, 0, none⟩ 1 1 (Array.toList #[.int .u8 zeroJ.kind, .int .i64 zeroJ.n, .string zeroJ.t, .slice an3 zeroJ.names.length cn3, .slice ai3 zeroJ.items.length ci3]) (by rfl) (by rfl) (World.news_of_block (cs := #[.int .u8 zeroJ.kind, .int .i64 zeroJ.n, .string zeroJ.t, .slice an3 zeroJ.names.length cn3, .slice ai3 zeroJ.items.length ci3]) (t := 29) (fr := (0, 0)) (heap_alloc_new w3 _)) (by simp [Value.oneCell']) (by omega) (by unfold maxLen; omega) (by omega) (by simp; omega) (w3.heap.size + 1) (by simp) ?_; intro g cap w4 hown4 hgrow4 hat4 hlt4; have c44 := grow_cell hgrow4 hcz3 hnb c43; have f44 := grow_frozen hgrow4 hcz3 hnb f43; have HO4 := Lib.hid hown4; have HG4 := Lib.hid hgrow4; have HA4 := Lib.hid hat4; clear hown4 hgrow4 hat4) | (go_simp; go_at_call 108; (with_reducible refine HCI.out.mono ?_); rintro e w3 ⟨an3, cn3, ai3, ci3, rfl, hr3, hb3, hz3, c43, f43, ho3⟩; have hcz3 : cb < w3.heap.size := Nat.lt_trans hcz hz3; have HO3 := Lib.hid ho3; have HR3 := Lib.hid hr3; have HB3 := Lib.hid hb3; clear ho3 hr3 hb3))
          all_goals
            have HST := Lib.hid (row_step (it := zeroJ) (j := 4) hlt HTC.out HRW.out HO.out HRR.out HB3.out HR3.out HG4.out HA4.out HO4.out)
            clear HTC HRW HO HRR HB3 HR3 HG4 HA4 HO4 HO3 HCI
            go_wp2
            go_roundw
            case rel =>
              obtain ⟨z1, z2, z3, z4⟩ := HST.out
              refine ⟨k + 1, _, _, its ++ [zeroJ], by omega, by go_num, z1, z2.congr fun i hi => ?_, z3, z4, HWS.out zeroJ (.inr ⟨rfl, hns⟩)⟩
              rcases i with _ | _ | _ | _ | _ | i <;> first | rfl | omega
            case measure => simp [intOf]; omega
      · obtain rfl : k = ni := by omega
        have hil : k = its.length := HWL.out.1.symm
        obtain ⟨a5, c5, rfl, hc5, hv5⟩ := owns_vals hown hrr hil
        rw [← hil] at hc5
        have HV5 := Lib.hid hv5
        have hres := (htch.row HM.out.res (by omega))
        have r0 := hrow.cell (i := 0) (by decide); have r1 := hrow.cell (i := 1) (by decide); have r2 := hrow.cell (i := 2) (by decide); have r3 := hrow.cell (i := 3) (by decide); have r4 := hrow.cell (i := 4) (by decide)
        have t0 := hres.cell (i := 0) (by decide); have t1 := hres.cell (i := 1) (by decide); have t2 := hres.cell (i := 2) (by decide); have t3 := hres.cell (i := 3) (by decide); have t4 := hres.cell (i := 4) (by decide)
        have s0 := hres.frozen 0; have s1 := hres.frozen 1; have s2 := hres.frozen 2; have s3 := hres.frozen 3; have s4 := hres.frozen 4
        simp only [pick5] at r0 r1 r2 r3 r4 t0 t1 t2 t3 t4
        rw [← hil] at r4
        have HIL := Lib.hid hil
        clear hil
        have HT := Lib.hid htch
        clear hrow hres hown hrr hv5 htch
        go_wp2
        obtain ⟨z1, z2, z3, z4⟩ := dup_doneW HM.out HT.out HV5.out rfl
        refine bodyPost_ret (results_cell_row Tryz.results77 _ _ (w.heap.size + 1) 29 _ (0, 0) _ rfl z4 Tryz.underlying29 rfl (by kernel_rfl)) rfl ⟨.mk v.kind v.n v.t v.names its, a1, c1, a5, c5, ⟨rfl, rfl, rfl, rfl, by show its.length = _; rw [HWL.out.1, HNI.out], HWL.out.2⟩, ?_, ?_, z1⟩
        · show _ = Ending.returned (.agg #[_, _, _, .slice a1 v.names.length c1, .slice a5 its.length c5])
          rw [← HNN.out, ← HIL.out] <;> rfl
        · have hrep := Rep.mk (v := .mk v.kind v.n v.t v.names its) (cn := c1) (ci := c5) (by show v.names.length ≤ _; rw [← HNN.out]; exact HM.out.cap) (by show its.length ≤ _; rw [← HIL.out]; exact hc5) z2 z3
          exact hrep
  · have HM := Lib.hid (mid_b hc1 hs1 hb1 hz1 HR1.out)
    clear hs1 hb1 q0 q1 q2 q3 hq HCA HCB HR1 r0 r1 r2 r3 r4 s0 s1 s2 s3 s4 hc1 hz1
    generalize (((((w1.setCell ⟨w.heap.size + 1 + 1, 0, none⟩ (.int .u8 v.kind)).setCell ⟨w.heap.size + 1 + 1, 1, none⟩ (.int .i64 v.n)).setCell ⟨w.heap.size + 1 + 1, 2, none⟩ (.string v.t)).setCell ⟨w.heap.size + 1 + 1, 3, none⟩ (.slice a1 nn c1)).setCell ⟨w.heap.size + 1 + 1, 4, none⟩ (.slice none 0 0)) = W at HM ⊢
    generalize w.heap.size + 1 + 1 = cb at HM ⊢
    have x4 := HM.out.box
    have hgt := HM.out.gt
    have hlt := HM.out.lt
    go_wp2
    clear x4
    go_loopw [5, 19] (fun _ i wr => ∃ (k : Nat) (cs : List Value) (vi : Value) (its : List JV), k ≤ ni ∧ i = .int .i64 k ∧ Touch (· = cb) W wr ∧ wr.rowIs cb 29 5 (pick5 (.int .u8 v.kind) (.int .i64 v.n) (.string v.t) (.slice a1 nn c1) vi) ∧ wr.ownsRow W.heap.size 29 5 vi k cs ∧ RepRow wr W.heap.size (fun b => b = cb ∨ vi.ownBlock = some b) its cs ∧ WkL v its k) (fun _ i _ => ni - (intOf i).toNat)
    case atStart => exact ⟨0, [], .slice none 0 0, [], by omega, rfl, Touch.refl _ _, HM.out.row, World.ownsRow_nil _ _ _ _, RepRow.nil _ _ _, rfl, fun j h => by simp at h⟩
    case round =>
      obtain ⟨k, cs, vi, its, hk, rfl, htch, hrow, hown, hrr, hwl⟩ := hrel
      have HWL := Lib.hid hwl
      clear hwl
      by_cases hlt2 : k < ni
      · have hlt' : k < v.items.length := by rw [← HNI.out]; exact hlt2
        have HB : Hid (Below hi w wr) := (HM.out.below.mono hhi).trans (htch.below (by omega) fun j hj e => by omega)
        obtain ⟨b, off, an', cn', ai', ci', rfl, _, hb, y0, y1, y2, y3, y4, hrep⟩ := (H4.out.below HB.out (Nat.le_refl _) (Nat.le_refl _) (Nat.le_refl _)).get k hlt'
        have hwk := JV.wts_get v.items k hlt'
        have HWS := Lib.hid (fun it' (h : WeakItem v.items[k] it') => WkL.snoc HWL.out hlt' h)
        have c4 : wr.cell? ⟨cb, 4, none⟩ = some vi := hrow.cell (by omega)
        have f4 : wr.frozen? ⟨cb, 4, none⟩ = false := hrow.frozen 4
        have hcz : cb < wr.heap.size := hrow.lt
        have hwz : W.heap.size ≤ wr.heap.size := htch.size
        have hnb : some cb ≠ vi.ownBlock := fun e => by have := (hown.lt _ e.symm).1; omega
        have HRP := Lib.hid hrep
        have HRW := Lib.hid hrow
        have HTC := Lib.hid htch
        have HO := Lib.hid hown
        have HRR := Lib.hid hrr
        clear hrep hrow htch hown hrr
        generalize v.items[k] = it at *
        have HEN := Lib.hid (show Calls Tryz.prog 68 #[.slice ai' it.items.length ci', .int .i64 1, .pointer none, .bool false] (wr.alloc (.cells #[.int .u8 it.kind, .int .i64 it.n, .string it.t, .slice an' it.names.length cn', .slice ai' it.items.length ci'] 29)) (fun e w' => ∃ (b : Bool) (q : Nat), e = .returned (.bool b) ∧ w' = (wr.alloc (.cells #[.int .u8 it.kind, .int .i64 it.n, .string it.t, .slice an' it.names.length cn', .slice ai' it.items.length ci'] 29)).drewN q ∧ (b = true → ¬ Seen 0 it)) by
          have hvi : ValsAt (wr.alloc (.cells #[.int .u8 it.kind, .int .i64 it.n, .string it.t, .slice an' it.names.length cn', .slice ai' it.items.length ci'] 29)) 0 hi ai' it.items := by
            obtain ⟨an2, cn2, ai2, ci2, hx, _, _, _, h5⟩ := HRP.out.parts
            simp only [Value.agg.injEq, Array.mk.injEq, List.cons.injEq, and_true, Value.slice.injEq] at hx
            obtain ⟨_, _, _, _, rfl, _, _⟩ := hx
            exact h5.carry (Nat.le_refl _) (Nat.le_refl _) fun b _ hb => Below.heap_alloc _ _ _ (by have := HB.out.size; omega)
          have hwd := it.wt_bd
          by_cases hs : Seen 0 it
          · exact (endlessItem it ai' ci' 0 hi _ (by omega) hvi hs).mono fun e w' ⟨h1, h2⟩ => ⟨false, 0, h1, h2 ▸ rfl, fun h => by cases h⟩
          · exact (endlessW 4294967296 it.items ai' ci' 1 none hi _ (by omega) (by omega) hvi (.inl rfl)).mono fun e w' ⟨b, q, h1, h2⟩ => ⟨b, q, h1, h2, fun _ => hs⟩)
        go_wp2_with fail
        refine HEN.out.mono ?_
        clear HEN
        rintro e w9 ⟨b, q, rfl, hw9, hbs⟩
        have HBS := Lib.hid hbs
        have HW9 := Lib.hid hw9
        have hb9 : Below wr.heap.size wr w9 := by rw [hw9]; exact Below.drewN ((Below.refl _ _).alloc (Nat.le_refl _) _) _
        have hx9 : w9.heap[wr.heap.size]? = some (.cells #[.int .u8 it.kind, .int .i64 it.n, .string it.t, .slice an' it.names.length cn', .slice ai' it.items.length ci'] 29 (0, 0)) := by rw [hw9]; exact heap_alloc_new wr _
        have hz9 : w9.heap.size = wr.heap.size + 1 := by rw [hw9]; simp [World.drewN]
        have HB9 := Lib.hid hb9
        have HX9 := Lib.hid hx9
        have HZ9 := Lib.hid hz9
        have d4 : w9.cell? ⟨cb, 4, none⟩ = some vi := (hb9.cell hcz).trans c4
        have g4 : w9.frozen? ⟨cb, 4, none⟩ = false := (hb9.frozen hcz).trans f4
        have x0 : w9.cell? ⟨wr.heap.size, 0, none⟩ = some (.int .u8 it.kind) := box_cellW hx9 rfl
        have x1 : w9.cell? ⟨wr.heap.size, 1, none⟩ = some (.int .i64 it.n) := box_cellW hx9 rfl
        have x2 : w9.cell? ⟨wr.heap.size, 2, none⟩ = some (.string it.t) := box_cellW hx9 rfl
        have x3 : w9.cell? ⟨wr.heap.size, 3, none⟩ = some (.slice an' it.names.length cn') := box_cellW hx9 rfl
        have x4 : w9.cell? ⟨wr.heap.size, 4, none⟩ = some (.slice ai' it.items.length ci') := box_cellW hx9 rfl
        have z0 : ∀ j, w9.frozen? ⟨wr.heap.size, j, none⟩ = false := fun j => by simp [World.frozen?, hx9]
        have y5 := z0 0; have y6 := z0 1; have y7 := z0 2; have y8 := z0 3; have y9 := z0 4
        have hncb : cb ≠ wr.heap.size := by omega
        clear hw9 hb9 hx9 hz9 hbs z0 c4 f4
        cases b
        · have HCI := Lib.hid (show Calls Tryz.prog 108 #[.agg #[.int .u8 it.kind, .int .i64 it.n, .string it.t, .slice an' it.names.length cn', .slice ai' it.items.length ci']] w9.drew (fun e w3 => ∃ an3 cn3 ai3 ci3, e = .returned (.agg #[.int .u8 it.kind, .int .i64 it.n, .string it.t, .slice an3 it.names.length cn3, .slice ai3 it.items.length ci3]) ∧ Rep w3 (wr.heap.size + 1) w3.heap.size it (.agg #[.int .u8 it.kind, .int .i64 it.n, .string it.t, .slice an3 it.names.length cn3, .slice ai3 it.items.length ci3]) ∧ Below (wr.heap.size + 1) ((wr.alloc (.cells #[.int .u8 it.kind, .int .i64 it.n, .string it.t, .slice an' it.names.length cn', .slice ai' it.items.length ci'] 29)).drew) w3 ∧ wr.heap.size < w3.heap.size ∧ w3.cell? ⟨cb, 4, none⟩ = some vi ∧ w3.frozen? ⟨cb, 4, none⟩ = false ∧ w3.ownsRow W.heap.size 29 5 vi k cs) by
            refine (valueDuplicate 4294967296 it _ _ hi (by omega) (by omega) (by have := HB.out.size; have := HZ9.out; show hi ≤ w9.heap.size; omega) (HRP.out.below HB9.out.drew (by have := HB.out.size; omega) (Nat.zero_le _) (Nat.le_refl _))).mono ?_
            rintro e w3 ⟨an3, cn3, ai3, ci3, rfl, hr3, hb3⟩
            have hz : (w9.drew).heap.size = wr.heap.size + 1 := HZ9.out
            rw [hz] at hr3 hb3
            have hsz := hb3.size
            rw [hz] at hsz
            have hb4 : Below wr.heap.size wr w3 := HB9.out.drew.trans (hb3.mono (by omega))
            have hb5 : Below (wr.heap.size + 1) ((wr.alloc (.cells #[.int .u8 it.kind, .int .i64 it.n, .string it.t, .slice an' it.names.length cn', .slice ai' it.items.length ci'] 29)).drew) w3 := ⟨hb4.os, hb4.tape, hb4.output, by simp; omega, fun k hk => by rw [hb3.block k hk, HW9.out]; rfl⟩
            exact ⟨an3, cn3, ai3, ci3, rfl, hr3, hb5, by omega, (hb3.cell (show cb < _ by omega)).trans d4, (hb3.frozen (show cb < _ by omega)).trans g4, owns_below HO.out hb4⟩)
          go_wp2_with fail
          go_region_law (first | (refine step_append_lies _ (by rfl) (.tmp 28) (.tmp 31) 27 (by rfl) W.heap.size 29 i0 _ 5 80 Tryz.underlying27 hi0 hz0 hz1 hz2 rfl (by omega) vi k cs (by rfl) (HO3.out.alloc _) ⟨w3.heap.size, 0, none⟩ 1 1 (Array.toList #[.int .u8 it.kind, .int .i64 it.n, .string it.t, .slice an3 it.names.length cn3, .slice ai3 it.items.length ci3]) (by rfl) (by rfl) (World.news_of_block (cs := #[.int .u8 it.kind, .int .i64 it.n, .string it.t, .slice an3 it.names.length cn3, .slice ai3 it.items.length ci3]) (t := 29) (fr := (0, 0)) (heap_alloc_new w3 _)) (by simp [Value.oneCell']) (by omega) (by unfold maxLen; omega) (by omega) (by simp; omega) (w3.heap.size + 1) (by simp) ?_; intro g cap w4 hown4 hgrow4 hat4 hlt4; have c44 := grow_cell hgrow4 hcz3 hnb c43; have f44 := grow_frozen hgrow4 hcz3 hnb f43; have HO4 := Lib.hid hown4; have HG4 := Lib.hid hgrow4; have HA4 := Lib.hid hat4; clear hown4 hgrow4 hat4) | (go_simp; go_at_call 108; (with_reducible refine HCI.out.mono ?_); rintro e w3 ⟨an3, cn3, ai3, ci3, rfl, hr3, hb3, hz3, c43, f43, ho3⟩; have hcz3 : cb < w3.heap.size := Nat.lt_trans hcz hz3; have HO3 := Lib.hid ho3; have HR3 := Lib.hid hr3; have HB3 := Lib.hid hb3; clear ho3 hr3 hb3))
          all_goals
            have HST := Lib.hid (row_step (j := 4) hlt HTC.out HRW.out HO.out HRR.out HB3.out HR3.out HG4.out HA4.out HO4.out)
            clear HTC HRW HO HRR HB3 HR3 HG4 HA4 HO4 HO3 HCI
            go_wp2
            go_roundw
            case rel =>
              obtain ⟨z1, z2, z3, z4⟩ := HST.out
              refine ⟨k + 1, _, _, its ++ [it], by omega, by go_num, z1, z2.congr fun i hi => ?_, z3, z4, HWS.out it (.inl rfl)⟩
              rcases i with _ | _ | _ | _ | _ | i <;> first | rfl | omega
            case measure => simp [intOf]; omega
        · have hns := HBS.out rfl
          have HCI := Lib.hid (show Calls Tryz.prog 108 #[.agg #[.int .u8 0, .int .i64 0, .string { data := #[] }, .slice none 0 0, .slice none 0 0]] ((((((w9.setCell ⟨wr.heap.size, 0, none⟩ (.int .u8 0)).setCell ⟨wr.heap.size, 1, none⟩ (.int .i64 0)).setCell ⟨wr.heap.size, 2, none⟩ (.string { data := #[] })).setCell ⟨wr.heap.size, 3, none⟩ (.slice none 0 0)).setCell ⟨wr.heap.size, 4, none⟩ (.slice none 0 0)).drew) (fun e w3 => ∃ an3 cn3 ai3 ci3, e = .returned (.agg #[.int .u8 zeroJ.kind, .int .i64 zeroJ.n, .string zeroJ.t, .slice an3 zeroJ.names.length cn3, .slice ai3 zeroJ.items.length ci3]) ∧ Rep w3 (wr.heap.size + 1) w3.heap.size zeroJ (.agg #[.int .u8 zeroJ.kind, .int .i64 zeroJ.n, .string zeroJ.t, .slice an3 zeroJ.names.length cn3, .slice ai3 zeroJ.items.length ci3]) ∧ Below (wr.heap.size + 1) ((wr.alloc (.cells #[.int .u8 0, .int .i64 0, .string { data := #[] }, .slice none 0 0, .slice none 0 0] 29)).drew) w3 ∧ wr.heap.size < w3.heap.size ∧ w3.cell? ⟨cb, 4, none⟩ = some vi ∧ w3.frozen? ⟨cb, 4, none⟩ = false ∧ w3.ownsRow W.heap.size 29 5 vi k cs) by
            obtain ⟨w8, hw8⟩ : ∃ w8, w8 = (((((w9.setCell ⟨wr.heap.size, 0, none⟩ (.int .u8 0)).setCell ⟨wr.heap.size, 1, none⟩ (.int .i64 0)).setCell ⟨wr.heap.size, 2, none⟩ (.string { data := #[] })).setCell ⟨wr.heap.size, 3, none⟩ (.slice none 0 0)).setCell ⟨wr.heap.size, 4, none⟩ (.slice none 0 0)) := ⟨_, rfl⟩
            rw [← hw8]
            have hk8 : ∀ k, k ≠ wr.heap.size → w8.heap[k]? = w9.heap[k]? := fun k hk => by rw [hw8]; exact heap5W _ _ _ _ _ hk
            have hz8 : w8.heap.size = wr.heap.size + 1 := by rw [hw8, size5W]; exact HZ9.out
            have hx8 : w8.heap[wr.heap.size]? = some (.cells #[.int .u8 0, .int .i64 0, .string { data := #[] }, .slice none 0 0, .slice none 0 0] 29 (0, 0)) := by rw [hw8]; exact zero_set HX9.out
            have hb8 : Below wr.heap.size wr w8 := ⟨by rw [hw8]; exact HB9.out.os, by rw [hw8]; exact HB9.out.tape, by rw [hw8]; exact HB9.out.output, by omega, fun k hk => (hk8 k (by omega)).trans (HB9.out.block k hk)⟩
            refine (valueDuplicate 4294967296 zeroJ zeroAggW _ hi (by decide) (by omega) (by have := HB.out.size; show hi ≤ w8.heap.size; omega) (rep_zeroJW _ _ _)).mono ?_
            rintro e w3 ⟨an3, cn3, ai3, ci3, rfl, hr3, hb3⟩
            have hz : (w8.drew).heap.size = wr.heap.size + 1 := hz8
            rw [hz] at hr3 hb3
            have hsz := hb3.size
            rw [hz] at hsz
            have hb4 : Below wr.heap.size wr w3 := hb8.drew.trans (hb3.mono (by omega))
            have hb5 : Below (wr.heap.size + 1) ((wr.alloc (.cells #[.int .u8 0, .int .i64 0, .string { data := #[] }, .slice none 0 0, .slice none 0 0] 29)).drew) w3 := ⟨hb4.os, hb4.tape, hb4.output, by simp; omega, fun k hk => by
              rw [hb3.block k hk]
              by_cases e : k = wr.heap.size
              · subst e; exact hx8.trans (heap_alloc_new wr _).symm
              · exact (hb8.block k (by omega)).trans (Below.heap_alloc _ _ _ (by omega)).symm⟩
            exact ⟨an3, cn3, ai3, ci3, rfl, hr3, hb5, by omega, (hb4.cell hcz).trans ((HB9.out.cell hcz).symm.trans d4), (hb4.frozen hcz).trans ((HB9.out.frozen hcz).symm.trans g4), owns_below HO.out hb4⟩)
          obtain ⟨it0, hit0⟩ : ∃ it0, it0 = it := ⟨_, rfl⟩
          go_wp2_with fail
          go_region_law (first | (refine step_append_lies _ (by rfl) (.tmp 28) (.tmp 31) 27 (by rfl) W.heap.size 29 i0 _ 5 80 Tryz.underlying27 hi0 hz0 hz1 hz2 rfl (by omega) vi k cs (by rfl) (HO3.out.alloc _) ⟨w3.heap.size, 0, none⟩ 1 1 (Array.toList #[.int .u8 zeroJ.kind, .int .i64 zeroJ.n, .string zeroJ.t, .slice an3 zeroJ.names.length cn3, .slice ai3 zeroJ.items.length ci3]) (by rfl) (by rfl) (World.news_of_block (cs := #[.int .u8 zeroJ.kind, .int .i64 zeroJ.n, .string zeroJ.t, .slice an3 zeroJ.names.length cn3, .slice ai3 zeroJ.items.length ci3]) (t := 29) (fr := (0, 0)) (heap_alloc_new w3 _)) (by simp [Value.oneCell']) (by omega) (by unfold maxLen; omega) (by omega) (by simp; omega) (w3.heap.size + 1) (by simp) ?_; intro g cap w4 hown4 hgrow4 hat4 hlt4; have c44 := grow_cell hgrow4 hcz3 hnb c43; have f44 := grow_frozen hgrow4 hcz3 hnb f43; have HO4 := Lib.hid hown4; have HG4 := Lib.hid hgrow4; have HA4 := Lib.hid hat4; clear hown4 hgrow4 hat4) | (go_simp; go_at_call 108; (with_reducible refine HCI.out.mono ?_); rintro e w3 ⟨an3, cn3, ai3, ci3, rfl, hr3, hb3, hz3, c43, f43, ho3⟩; have hcz3 : cb < w3.heap.size := Nat.lt_trans hcz hz3; have HO3 := Lib.hid ho3; have HR3 := Lib.hid hr3; have HB3 := Lib.hid hb3; clear ho3 hr3 hb3))
          all_goals
            have HST := Lib.hid (row_step (it := zeroJ) (j := 4) hlt HTC.out HRW.out HO.out HRR.out HB3.out HR3.out HG4.out HA4.out HO4.out)
            clear HTC HRW HO HRR HB3 HR3 HG4 HA4 HO4 HO3 HCI
            go_wp2
            go_roundw
            case rel =>
              obtain ⟨z1, z2, z3, z4⟩ := HST.out
              refine ⟨k + 1, _, _, its ++ [zeroJ], by omega, by go_num, z1, z2.congr fun i hi => ?_, z3, z4, HWS.out zeroJ (.inr ⟨rfl, hns⟩)⟩
              rcases i with _ | _ | _ | _ | _ | i <;> first | rfl | omega
            case measure => simp [intOf]; omega
      · obtain rfl : k = ni := by omega
        have hil : k = its.length := HWL.out.1.symm
        obtain ⟨a5, c5, rfl, hc5, hv5⟩ := owns_vals hown hrr hil
        rw [← hil] at hc5
        have HV5 := Lib.hid hv5
        have hres := (htch.row HM.out.res (by omega))
        have r0 := hrow.cell (i := 0) (by decide); have r1 := hrow.cell (i := 1) (by decide); have r2 := hrow.cell (i := 2) (by decide); have r3 := hrow.cell (i := 3) (by decide); have r4 := hrow.cell (i := 4) (by decide)
        have t0 := hres.cell (i := 0) (by decide); have t1 := hres.cell (i := 1) (by decide); have t2 := hres.cell (i := 2) (by decide); have t3 := hres.cell (i := 3) (by decide); have t4 := hres.cell (i := 4) (by decide)
        have s0 := hres.frozen 0; have s1 := hres.frozen 1; have s2 := hres.frozen 2; have s3 := hres.frozen 3; have s4 := hres.frozen 4
        simp only [pick5] at r0 r1 r2 r3 r4 t0 t1 t2 t3 t4
        rw [← hil] at r4
        have HIL := Lib.hid hil
        clear hil
        have HT := Lib.hid htch
        clear hrow hres hown hrr hv5 htch
        go_wp2
        obtain ⟨z1, z2, z3, z4⟩ := dup_doneW HM.out HT.out HV5.out rfl
        refine bodyPost_ret (results_cell_row Tryz.results77 _ _ (w.heap.size + 1) 29 _ (0, 0) _ rfl z4 Tryz.underlying29 rfl (by kernel_rfl)) rfl ⟨.mk v.kind v.n v.t v.names its, a1, c1, a5, c5, ⟨rfl, rfl, rfl, rfl, by show its.length = _; rw [HWL.out.1, HNI.out], HWL.out.2⟩, ?_, ?_, z1⟩
        · show _ = Ending.returned (.agg #[_, _, _, .slice a1 v.names.length c1, .slice a5 its.length c5])
          rw [← HNN.out, ← HIL.out] <;> rfl
        · have hrep := Rep.mk (v := .mk v.kind v.n v.t v.names its) (cn := c1) (ci := c5) (by show v.names.length ≤ _; rw [← HNN.out]; exact HM.out.cap) (by show its.length ≤ _; rw [← HIL.out]; exact hc5) z2 z3
          exact hrep

end Go.Proofs.YtcahpjejpimdhaaGreatDoor
