/- Plain: hashes, pins and snapshots that may be: their parts, and how much their objects hold. No program in sight. pick.ObjectOf of members in any row, whose names, once sorted, rise. The contracts of record.hashesObject and record.HashesValue: the object of hashes that may be. Printed by genhash.py. The contracts of record.HashesValue, and of snap.PinValue of a pin that may be, hashes and all. Printed by genpinval2.py. Texts of plain bytes may be, plain. No program in sight. The references' functions on values (legateref08). Plain: the reference's rule of values (part, Count, Depth) is the program's. The hashes of an object, plain: which they are, or why there are none. No program in sight. What pin an object is, hashes and all, plain. No program in sight. -/
import Derived.Test.YtgghgcilpfdbjaaGreatDoorSl16
import Derived.Test.YtgghgcilpfdbjaaGreatDoorSl09
import Derived.Test.YtgghgcilpfdbjaaGreatDoorSl23
import Derived.Test.YtgghgcilpfdbjaaGreatDoorSl25
import Derived.Test.YtgghgcilpfdbjaaGreatDoorSl08
import Derived.Test.YtgghgcilpfdbjaaGreatDoorSl02
import Derived.Outline
import Derived.OwnWalk
import Derived.Test.YtgghgcilpfdbjaaGreatDoorSl17
import Derived.Test.YtgghgcilpfdbjaaGreatDoorSl24
import Derived.Test.YtgghgcilpfdbjaaGreatDoorSl07
import Derived.Laws.RangeString
import Derived.Test.YtgghgcilpfdbjaaGreatDoorSl03
import Derived.Test.YtgghgcilpfdbjaaGreatDoorSl00
import Derived.Test.YtgghgcilpfdbjaaGreatDoorSl15

namespace Go.Proofs.YtgghgcilpfdbjaaGreatDoor
open Go.RowKit

abbrev NJ := ByteArray × JV
def hashN (l : List Key2) : List NJ := l.map fun k => (k.1, txtJ k.2)
theorem hashN_1 (l : List Key2) : (hashN l).map (·.1) = l.map (·.1) := by simp [hashN]
theorem hashN_2 (l : List Key2) : (hashN l).map (·.2) = l.map fun k => txtJ k.2 := by simp [hashN]
theorem hashN_len (l : List Key2) : (hashN l).length = l.length := by simp [hashN]
theorem mayHashes_parts {l : List Key2} (h : mayHashes l = true) : (1 ≤ l.length ∧ l.length ≤ 4) ∧ (∀ k ∈ l, roleOk k.1.data.toList = true ∧ pubOk k.2.data.toList = true) ∧ rises (l.map (·.1)) = true := by
  unfold mayHashes at h
  simp only [Bool.and_eq_true, decide_eq_true_eq] at h
  refine ⟨h.1.1, fun k hk => ?_, h.2⟩
  have := List.all_eq_true.1 h.1.2 k hk
  unfold hashOk at this
  simpa using this
theorem pub_size {b : ByteArray} (h : pubOk b.data.toList = true) : b.size ≤ 128 := by
  unfold pubOk at h
  simp only [Bool.and_eq_true, decide_eq_true_eq] at h
  have := h.1.2.1
  simpa using this
theorem role_size2 {b : ByteArray} (h : roleOk b.data.toList = true) : b.size ≤ 64 := by
  unfold roleOk at h
  simp only [Bool.and_eq_true, decide_eq_true_eq] at h
  have := h.1.1.2
  simpa using this

theorem sum_map_le {α : Type} (f : α → ByteArray) (b : Nat) : ∀ l : List α, (∀ x ∈ l, (f x).size ≤ b) → bytesSum (l.map f) ≤ l.length * (b + 1)
  | [], _ => by simp [bytesSum]
  | x :: r, h => by
    have := sum_map_le f b r fun y hy => h y (List.mem_cons_of_mem _ hy)
    have h0 := h x (List.mem_cons_self ..)
    simp only [List.map_cons, bytesSum, List.length_cons]
    rw [Nat.succ_mul]
    omega
theorem wts_map_le {α : Type} (f : α → JV) (b : Nat) : ∀ l : List α, (∀ x ∈ l, (f x).wt ≤ b) → JV.wts (l.map f) ≤ l.length * b
  | [], _ => by simp [JV.wts]
  | x :: r, h => by
    have := wts_map_le f b r fun y hy => h y (List.mem_cons_of_mem _ hy)
    have h0 := h x (List.mem_cons_self ..)
    simp only [List.map_cons, JV.wts, List.length_cons]
    rw [Nat.succ_mul]
    omega
theorem hashJ_wt {l : List Key2} (h : mayHashes l = true) : (hashJ l).wt ≤ 1000 := by
  obtain ⟨hl, hok, _⟩ := mayHashes_parts h
  have a := sum_map_le (fun k : Key2 => k.1) 64 l fun k hk => role_size2 (hok k hk).1
  have b := wts_map_le (fun k : Key2 => txtJ k.2) 129 l fun k hk => by
    have := pub_size (hok k hk).2
    simp [txtJ, JV.wt, JV.wts, bytesSum]; omega
  have c : l.length * (64 + 1) ≤ 4 * 65 := Nat.mul_le_mul_right _ hl.2
  have d : l.length * 129 ≤ 4 * 129 := Nat.mul_le_mul_right _ hl.2
  unfold hashJ
  simp only [JV.wt]
  have : ({ data := #[] } : ByteArray).size = 0 := rfl
  omega
theorem numJ_wt (n : Int) : (numJ n).wt = 1 := by simp [numJ, JV.wt, JV.wts, bytesSum, ByteArray.size]
theorem mayPin_parts {p : PinV} (h : mayPin p = true) : (roleOf p.name).isSome = true ∧ (1 ≤ p.ver ∧ p.ver ≤ 1099511627776) ∧ (-1 ≤ p.len ∧ p.len ≤ 1099511627776) ∧ (p.hs = [] ∨ mayHashes p.hs = true) := by
  unfold mayPin at h
  simp only [Bool.and_eq_true, Bool.or_eq_true, decide_eq_true_eq] at h
  exact ⟨h.1.1.1, h.1.1.2, h.1.2, h.2.imp List.eq_nil_of_length_eq_zero id⟩
theorem pinJ_wt {p : PinV} (h : mayPin p = true) : (pinJ p).wt ≤ 2000 := by
  obtain ⟨_, _, _, hh⟩ := mayPin_parts h
  have e1 : hasN.size = 6 := rfl
  have e2 : lenN.size = 6 := rfl
  have e3 : verN.size = 7 := rfl
  have e4 : ({ data := #[] } : ByteArray).size = 0 := rfl
  have e5 : p.hs = [] ∨ ((hashJ p.hs).wt ≤ 1000 ∧ p.hs.isEmpty = false) := by
    rcases hh with h | h
    · exact .inl h
    · refine .inr ⟨hashJ_wt h, ?_⟩
      have := (mayHashes_parts h).1.1
      cases hp : p.hs with
      | nil => rw [hp] at this; simp at this
      | cons _ _ => rfl
  unfold pinJ pinM
  rcases e5 with e | ⟨e, e'⟩
  · rw [e]
    by_cases h1 : p.len = -1 <;> simp [h1, JV.wt, JV.wts, bytesSum, numJ_wt] <;> omega
  · rw [e']
    by_cases h1 : p.len = -1 <;> simp [h1, JV.wt, JV.wts, bytesSum, numJ_wt] <;> omega
theorem file_size {f : ByteArray} (h : (roleOf f).isSome = true) : f.size ≤ 69 := by
  obtain ⟨r, hr⟩ := Option.isSome_iff_exists.1 h
  obtain ⟨h1, h2⟩ := role_name hr
  have h3 := congrArg List.length h2
  unfold roleOk at h1
  simp only [Bool.and_eq_true, decide_eq_true_eq] at h1
  simp only [List.length_append, Array.length_toList, json, List.length_cons, List.length_nil] at h3
  show f.data.size ≤ 69
  omega
theorem metaJ_wt {l : List PinV} (h : l.all mayPin = true) (hl : l.length ≤ 256) : (metaJ l).wt ≤ 1000000 := by
  have ha := List.all_eq_true.1 h
  have a := sum_map_le (fun p : PinV => p.name) 69 l fun p hp => file_size (mayPin_parts (ha p hp)).1
  have b := wts_map_le pinJ 2000 l fun p hp => pinJ_wt (ha p hp)
  have c : l.length * (69 + 1) ≤ 256 * 70 := Nat.mul_le_mul_right _ hl
  have d : l.length * 2000 ≤ 256 * 2000 := Nat.mul_le_mul_right _ hl
  unfold metaJ
  simp only [JV.wt]
  have : ({ data := #[] } : ByteArray).size = 0 := rfl
  omega
end Go.Proofs.YtgghgcilpfdbjaaGreatDoor

namespace Go.Proofs.YtgghgcilpfdbjaaGreatDoor
open Go.RowKit Go.Shelf Go.Sort

theorem sortTo (g cap : Nat) (d d' : Array Mem) (w : World) (hH : HoldsK encM 6 w g 0 d) (hg : g < w.heap.size) (hn : d.size ≤ 4294967296) (hp : d'.toList.Perm d.toList) (hr : RisesM d') :
    Calls Tryz.prog 85 #[.slice (some ⟨g, 0, none⟩) d.size cap, .func (.func 86) #[] #[]] w fun e w' => e = .returned (.tuple #[]) ∧ HoldsK encM 6 w' g 0 d' ∧ Touch (· = g) w w' := by
  have eg : ∀ args w, (callFunc 86 args).run Tryz.prog w = .ok (.enter 86 args) w := enters_of Tryz.func86 (by kernel_rfl) rfl
  have hcon := AnyQ.slices_SortFunc sortMember 6 Tryz.isAgg74 Tryz.sizeOf74 encM encM_len encM_one cfM swoMM 86 #[] g 0 cap d w eg (fun _ _ _ _ x y => cmpMember x y _) hH hg (by omega)
  refine hcon.mono ?_
  rintro e w' ⟨rfl, e', n, os, hpe, hs, rfl⟩
  have hsz : d'.size = d.size := by simpa using hp.length_eq
  have hd : e' = d' := sorted_rises hr (by
    have := hpe.2.2
    have e1 : e'.extract 0 d.size = e' := by rw [← hpe.1]; simp
    have e2 : d.extract 0 d.size = d := by simp
    rw [e1, e2] at this
    exact this.trans hp.symm) (fun i j hij hj => by
    have := hs i j (Nat.zero_le _) hij (by omega)
    rwa [lt_blM] at this)
  subst hd
  exact ⟨rfl, holdsK_grow encM 6 _ _ _ _ _ (by simp [putRowK, Go.Sort.ahead]; exact hg) (holdsK_putRowK encM 6 _ _ _ _ _ (holdsK_ahead encM 6 _ _ _ _ _ hH) hpe.1), touch_sortWorld⟩
theorem pickObjectOfP (d d' : Array Mem) (its : List JV) (blk off cap : Nat) (w : World) (lo hi : Nat) (hH : HoldsK encM 6 w blk off d) (hblk : blk < w.heap.size) (hn : d.size ≤ 4294967296) (hp : d'.toList.Perm d.toList) (hr : RisesM d')
    (hl : d'.size = its.length) (hm : ∀ i (h : i < its.length), Rep w lo hi its[i] d'[i]!.val ∧ its[i].wt ≤ 4294967296 ∧ ∀ k (h' : k < its[i].items.length), Seen lo its[i].items[k])
    (hhi : hi ≤ w.heap.size) :
    Calls Tryz.prog 42 #[.slice (some ⟨blk, off, none⟩) d.size cap] w (ObjPost (d'.toList.map (·.name)) its w) :=
  pickObjectOfS d d' its blk off cap w lo hi hH hblk hn (by simpa using hp.length_eq) (fun g cap1 w1 hH1 hg1 => sortTo g cap1 d d' w1 hH1 hg1 hn hp hr) hl hm (fun i h e => by
    have := hr i (i + 1) h (by omega)
    rw [getElem!_pos d' i (by omega), getElem!_pos d' (i + 1) h] at e
    rw [e, bl_irrefl] at this; cases this) hhi

/-- Members in a row of the call's own, by their names and values. -/
def MembG (W0 : Nat) (w : World) (v : Value) (N : List NJ) : Prop :=
  ∃ ms, MemsAt W0 w v ms (N.map (·.2)) ∧ ms.map (·.name) = N.map (·.1)
theorem MembG.below {W0 : Nat} {w w' : World} {v : Value} {N : List NJ} (h : MembG W0 w v N) (hb : Below w.heap.size w w') : MembG W0 w' v N := by
  obtain ⟨ms, h1, h2⟩ := h
  exact ⟨ms, h1.below hb, h2⟩
theorem MembG.len {W0 : Nat} {w : World} {v : Value} {N : List NJ} (h : MembG W0 w v N) : ∃ ms, MemsAt W0 w v ms (N.map (·.2)) ∧ ms.map (·.name) = N.map (·.1) ∧ ms.length = N.length := by
  obtain ⟨ms, h1, h2⟩ := h
  exact ⟨ms, h1, h2, by have := congrArg List.length h2; simpa using this⟩
theorem perm_lift {α β : Type} (f : α → β) : ∀ {M L : List β}, M.Perm L → ∀ Z : List α, Z.map f = L → ∃ Z' : List α, Z'.Perm Z ∧ Z'.map f = M := by
  intro M L h
  induction h with
  | nil => intro Z hZ; exact ⟨Z, .refl _, by simpa using hZ⟩
  | @cons x l1 l2 h ih =>
    intro Z hZ
    cases Z with
    | nil => simp at hZ
    | cons z zs =>
      simp only [List.map_cons, List.cons.injEq] at hZ
      obtain ⟨Z', h1, h2⟩ := ih zs hZ.2
      exact ⟨z :: Z', h1.cons z, by simp [h2, hZ.1]⟩
  | @swap x y l =>
    intro Z hZ
    cases Z with
    | nil => simp at hZ
    | cons z zs =>
      cases zs with
      | nil => simp at hZ
      | cons z2 zs =>
        simp only [List.map_cons, List.cons.injEq] at hZ
        exact ⟨z2 :: z :: zs, .swap _ _ _, by simp [hZ]⟩
  | @trans l1 l2 l3 h1 h2 ih1 ih2 =>
    intro Z hZ
    obtain ⟨Z2, a, b⟩ := ih2 Z hZ
    obtain ⟨Z1, c, d⟩ := ih1 Z2 b
    exact ⟨Z1, c.trans a, d⟩
theorem rises_mem {ms : List Mem} {ns : List ByteArray} (h : rises ns = true) (hn : ms.map (·.name) = ns) : RisesM ms.toArray := by
  subst hn
  intro i j hj hij
  have hj' : j < ms.length := by simpa using hj
  have hs := rises_lts _ h i j (by simp; omega) (by simp; omega) hij
  simp only [List.getElem_toArray]
  unfold bl
  simpa using hs
/-- The object of members: its names are the sorted ones. -/
theorem objOfG {W0 : Nat} {w : World} {v : Value} {N : List NJ} (M : List NJ) (hM : MembG W0 w v N) (hg : ∃ g cap, v = .slice (some ⟨g, 0, none⟩) N.length cap) (hp : M.Perm N) (hr : rises (M.map (·.1)) = true) (hl : N.length ≤ 4294967296) (hw : ∀ p ∈ M, p.2.wt ≤ 4294967296) (h0 : 0 < W0) :
    Calls Tryz.prog 42 #[v] w (ObjPost (M.map (·.1)) (M.map (·.2)) w) := by
  obtain ⟨ms, hms, hn, hlen⟩ := hM.len
  obtain ⟨g, cap, rfl⟩ := hg
  have hzl : (N.zip ms).length = N.length := by simp [hlen]
  obtain ⟨Z, hZp, hZm⟩ := perm_lift (fun z : NJ × Mem => z.1) hp (N.zip ms) (by rw [List.map_fst_zip]; omega)
  have hin : ∀ z ∈ Z, z.2.name = z.1.1 ∧ Rep w W0 w.heap.size z.1.2 z.2.val := fun z hz => by
    obtain ⟨i, hi, rfl⟩ := List.getElem_of_mem (hZp.mem_iff.1 hz)
    have hi' : i < N.length := by omega
    rw [List.getElem_zip]
    have e1 := List.getElem_of_eq hn (i := i) (by simp; omega)
    simp only [List.getElem_map] at e1
    obtain ⟨lo, hi2, h1, h2, _, hr⟩ := hms.reps i (by simp; omega)
    simp only [List.getElem_map] at hr
    exact ⟨e1, Rep.carry h1 h2 (fun _ _ _ => rfl) _ _ hr⟩
  have hlZ : Z.length = N.length := by rw [hZp.length_eq, hzl]
  have hlM : M.length = Z.length := by rw [← hZm, List.length_map]
  have hown := hms.own
  rw [← hlen] at hown
  have hH : g < w.heap.size ∧ HoldsK encM 6 w g 0 ms.toArray := by
    rcases Nat.eq_zero_or_pos ms.length with h | h
    · rcases hown.2 with ⟨hv, _⟩ | ⟨g', cap', cur, hv, hg, hh, hc, hm, hs, ht⟩
      · cases hv
      · cases hv
        refine ⟨heap_lt hh, fun j hj => ?_⟩
        simp [h] at hj
    · obtain ⟨g', cap', hv, hlt, hH⟩ := holds_own hown h
      cases hv
      exact ⟨hlt, hH⟩
  have hnm : (Z.map (·.2)).map (·.name) = M.map (·.1) := by
    rw [List.map_map, ← hZm, List.map_map]
    exact List.map_congr_left fun z hz => (hin z hz).1
  have hms2 : ((N.zip ms).map (·.2)) = ms := by rw [List.map_snd_zip]; omega
  have := pickObjectOfP ms.toArray (Z.map (·.2)).toArray (M.map (·.2)) g 0 cap w W0 w.heap.size hH.2 hH.1 (by simp; omega) (by
      have := hZp.map (·.2)
      rw [hms2] at this
      simpa using this) (rises_mem hr hnm) (by simp [hlM]) (fun i hi => ?_) (Nat.le_refl _)
  · rw [show ((Z.map (·.2)).toArray.toList.map (·.name)) = M.map (·.1) from hnm] at this
    rw [show ms.toArray.size = N.length by simp [hlen]] at this
    exact this
  · have hi' : i < Z.length := by have := hi; simp at this; omega
    have hiM : i < M.length := by omega
    have eM : M[i] = Z[i].1 := by
      have := List.getElem_of_eq hZm (i := i) (by simpa using hi')
      simpa using this.symm
    obtain ⟨_, hr⟩ := hin Z[i] (List.getElem_mem hi')
    refine ⟨?_, ?_, fun k _ => .inl h0⟩
    · rw [getElem!_pos _ i (by simpa using hi')]
      simp only [List.getElem_toArray, List.getElem_map]
      rw [eM]
      exact hr
    · rw [List.getElem_map]
      exact hw _ (List.getElem_mem hiM)
end Go.Proofs.YtgghgcilpfdbjaaGreatDoor

namespace Go.Proofs.YtgghgcilpfdbjaaGreatDoor
open Go.RowKit Go.Shelf Go.Sort

theorem txtJ_wt (t : ByteArray) (h : t.size ≤ 4294967000) : (txtJ t).wt ≤ 4294967296 := by simp [txtJ, JV.wt, JV.wts, bytesSum]; omega
/-- A value of the call's own, told as one. -/
def ObjVPost (v : JV) (w : World) (e : Ending) (w' : World) : Prop :=
  ∃ an cn ai ci, e = .returned (.agg #[.int .u8 5, .int .i64 0, .string { data := #[] }, .slice an v.names.length cn, .slice ai v.items.length ci]) ∧
    Rep w' w.heap.size w'.heap.size v (.agg #[.int .u8 5, .int .i64 0, .string { data := #[] }, .slice an v.names.length cn, .slice ai v.items.length ci]) ∧ Below w.heap.size w w'
def ObjTPost (v : JV) (w : World) (e : Ending) (w' : World) : Prop :=
  ∃ an cn ai ci, e = .returned (.tuple #[.agg #[.int .u8 5, .int .i64 0, .string { data := #[] }, .slice an v.names.length cn, .slice ai v.items.length ci], .int .i64 0]) ∧
    Rep w' w.heap.size w'.heap.size v (.agg #[.int .u8 5, .int .i64 0, .string { data := #[] }, .slice an v.names.length cn, .slice ai v.items.length ci]) ∧ Below w.heap.size w w'

set_option maxHeartbeats 4000000 in
set_option maxRecDepth 100000 in
theorem recHashesObject (l : List Key2) (a : Option Addr) (c : Nat) (w : World) (hK : KeysAt w 0 w.heap.size a l) (hm : mayHashes l = true) :
    Calls Tryz.prog 99 #[.slice a l.length c] w (ObjVPost (hashJ l) w) := by
  obtain ⟨hl, hok, hri⟩ := mayHashes_parts hm
  obtain ⟨W2, hW2⟩ : ∃ W2, W2 = w.alloc (.cells #[.int .u8 0, .int .i64 0, .string { data := #[] }, .slice none 0 0, .slice none 0 0] 30) := ⟨_, rfl⟩
  have hz2 : W2.heap.size = w.heap.size + 1 := by rw [hW2]; simp
  have hb2 : Below w.heap.size w W2 := by rw [hW2]; exact (Below.refl _ _).alloc (Nat.le_refl _) _
  have hr0 : W2.rowIs w.heap.size 30 5 (pick5 (.int .u8 0) (.int .i64 0) (.string { data := #[] }) (.slice none 0 0) (.slice none 0 0)) := by
    rw [hW2]; exact rowIs_box5 w (.int .u8 0) (.int .i64 0) (.string { data := #[] }) (.slice none 0 0) (.slice none 0 0) 30
  have HKA := Lib.hid (hK.below hb2 (Nat.le_refl _) (Nat.le_refl _) hb2.size)
  have HR0 := Lib.hid hr0
  have HB2 := Lib.hid hb2
  have HW := Lib.hid hW2
  have HOK := Lib.hid hok
  have HRI := Lib.hid hri
  have HZ2 := Lib.hid hz2
  have hlw : 0 < W2.heap.size := by omega
  clear hW2 hb2 hr0 hm hK hok hri hz2
  go_enter Tryz.func99, Tryz.ntmps99
  go_upto_region 1 with fail
  rw [← HW.out]
  obtain ⟨i1, hi1, hy0, hy1, hy2⟩ := info_parts infoMember
  have h3z : W2.heap.size ≤ W2.heap.size := Nat.le_refl _
  go_upto_region 3 with (at_make; refine wpList_make_own _ rfl (.const (.int .i64 0)) (.tmp 9) 70 rfl W2.heap.size 74 i1 _ 6 Tryz.underlying70 hi1 hy0 hy1 .i64 .i64 _ l.length rfl rfl rfl (by rw [hy2]; omega) (by unfold maxLen; omega) h3z ?_; intro w4 hown4 hgrow4; have HO4 := Lib.hid hown4; have HB4 := Lib.hid (below_grown (v := .slice none 0 0) (Below.refl W2.heap.size W2) h3z hgrow4 (fun b hb => by cases hb)); clear hown4 hgrow4)
  go_loopw [3, 5, 13] (fun s3 _ i wr => ∃ k : Nat, k ≤ l.length ∧ i = .int .i64 k ∧ (∃ g cap, s3 = .slice (some ⟨g, 0, none⟩) k cap) ∧ MembG W2.heap.size wr s3 (hashN (l.take k)) ∧ Below W2.heap.size W2 wr) (fun _ _ i _ => l.length - (intOf i).toNat)
  case atStart => exact ⟨0, by omega, rfl, ⟨_, _, rfl⟩, ⟨[], ⟨by simpa [flatM] using HO4.out, rfl, fun i h => by simp [hashN] at h⟩, rfl⟩, HB4.out⟩
  case round =>
    obtain ⟨k, hk, rfl, hsl, hMB, hb⟩ := hrel
    have HB := Lib.hid hb
    have HMB := Lib.hid hMB
    clear HO4 HB4 h3z
    obtain ⟨g0, cap0, rfl⟩ := hsl
    by_cases hlt : k < l.length
    · obtain ⟨b1, o1, ha1, _, hbl1, e0, e1⟩ := (HKA.out.below hb (Nat.le_refl _) (Nat.le_refl _) hb.size).at k hlt
      subst ha1
      have HTK := Lib.hid (show hashN (l.take (k + 1)) = hashN (l.take k) ++ [(l[k].1, txtJ l[k].2)] by rw [List.take_succ_eq_append_getElem hlt]; unfold hashN; rw [List.map_append]; rfl)
      obtain ⟨p, hp⟩ : ∃ p, p = l[k] := ⟨_, rfl⟩
      rw [← hp] at HTK e0 e1
      obtain ⟨s0, s1⟩ := p
      dsimp only at e0 e1 HTK
      clear hMB hb hp
      obtain ⟨ms, hms, hnm, hml⟩ := HMB.out.len
      have HMS := Lib.hid hms
      have HNM := Lib.hid hnm
      have HML := Lib.hid (show ms.length = k by rw [hml, hashN_len, List.length_take]; omega)
      clear hms hnm hml
      go_upto_region 5 with fail
      obtain ⟨W6, hW6⟩ : ∃ W6, W6 = wr.alloc (.cells #[.string s0, .string s1] 62) := ⟨_, rfl⟩
      have hb6 : Below wr.heap.size wr W6 := by rw [hW6]; exact (Below.refl _ _).alloc (Nat.le_refl _) _
      have hx6 : W6.heap[wr.heap.size]? = some (.cells #[.string s0, .string s1] 62 (0, 0)) := by rw [hW6]; exact heap_alloc_new wr _
      rw [← hW6]
      have HC6 := Lib.hid (show ∀ w' : World, Below W6.heap.size W6 w' → w'.cell? ⟨wr.heap.size, 0, none⟩ = some (.string s0) ∧ w'.cell? ⟨wr.heap.size, 1, none⟩ = some (.string s1) from fun w' h => by
        have x := (h.block _ (heap_lt hx6)).trans hx6
        exact ⟨box_cell x rfl, box_cell x rfl⟩)
      have HB6 := Lib.hid (HB.out.trans (hb6.mono HB.out.size))
      have HM6 := Lib.hid (HMS.out.below hb6)
      clear hW6 hx6 hb6 e0 e1
      obtain ⟨V, hV⟩ : ∃ V : List MP, V = [.con (.slice (some ⟨g0, 0, none⟩) k cap0), .con (.pointer (some ⟨wr.heap.size, 0, none⟩)), .con (.string s0), .con (.pointer (some ⟨wr.heap.size, 1, none⟩)), .con (.string s1), .con (.agg #[.int .u8 3, .int .i64 0, .string s1, .slice none 0 0, .slice none 0 0]), .con (.agg #[.string s0, .int .u8 3, .int .i64 0, .string s1, .slice none 0 0, .slice none 0 0]), .row W6.heap.size 1 74 #[.string s0, .int .u8 3, .int .i64 0, .string s1, .slice none 0 0, .slice none 0 0]] := ⟨_, rfl⟩
      have HV := Lib.hid hV
      clear hV
      refine wp_region_inv 8 (fun d a' w' => ∃ x17 x18 x19 x20 x21 x22 x23 x24, a' = ⟨#[Value.slice (some { block := b1, off := o1 }) l.length c, undef, Value.pointer (some { block := w.heap.size, off := 0 }), Value.slice (some { block := g0, off := 0 }) k cap0, undef, Value.pointer (some { block := wr.heap.size, off := 0 }), undef, undef, Value.slice (some { block := b1, off := o1 }) l.length c, Value.int IntKind.i64 (l.length : Int), Value.slice (some { block := W2.heap.size, off := 0 }) 0 l.length, Value.slice (some { block := b1, off := o1 }) l.length c, Value.int IntKind.i64 (l.length : Int), Value.int IntKind.i64 (k : Int), Value.bool true, Value.pointer (some { block := b1, off := o1 + k * 2 }), Value.agg #[Value.string s0, Value.string s1], x17, x18, x19, x20, x21, x22, x23, x24, u25, u26, undef, undef, undef, undef, undef, undef], []⟩ ∧ RegI W6 V d w' [x17, x18, x19, x20, x21, x22, x23, x24]) (by kernel_rfl) (by kernel_rfl) ?first ?step ?last
      case first => exact ⟨_, _, _, _, _, _, _, _, rfl, RegI.first _ _ _ (by rw [HV.out]; rfl)⟩
      case step =>
        rintro d a' w' ⟨x17, x18, x19, x20, x21, x22, x23, x24, rfl, h⟩ q hq hn hw
        rcases q with _ | _ | _ | _ | _ | _ | _ | _ | q
        · refine wpOp_step rfl fun K hK => ?_
          go_simp
          exact hK _ _ ⟨_, x18, x19, x20, x21, x22, x23, x24, rfl, h.same 0 _ (.con (.slice (some ⟨g0, 0, none⟩) k cap0)) (by rw [HV.out]; rfl) rfl⟩
        · refine wpOp_step rfl fun K hK => ?_
          go_simp
          exact hK _ _ ⟨x17, _, x19, x20, x21, x22, x23, x24, rfl, h.same 1 _ (.con (.pointer (some ⟨wr.heap.size, 0, none⟩))) (by rw [HV.out]; rfl) rfl⟩
        · obtain rfl : x18 = .pointer (some ⟨wr.heap.size, 0, none⟩) := h.get 1 (hw _ rfl ⟨1, .data⟩ (by simp) rfl) (.con (.pointer (some ⟨wr.heap.size, 0, none⟩))) (by rw [HV.out]; rfl) _ rfl
          obtain ⟨q0, q1⟩ := HC6.out w' h.1
          refine wpOp_step rfl fun K hK => ?_
          go_simp
          exact hK _ _ ⟨x17, _, _, x20, x21, x22, x23, x24, rfl, h.same 2 _ (.con (.string s0)) (by rw [HV.out]; rfl) rfl⟩
        · refine wpOp_step rfl fun K hK => ?_
          go_simp
          exact hK _ _ ⟨x17, x18, x19, _, x21, x22, x23, x24, rfl, h.same 3 _ (.con (.pointer (some ⟨wr.heap.size, 1, none⟩))) (by rw [HV.out]; rfl) rfl⟩
        · obtain rfl : x20 = .pointer (some ⟨wr.heap.size, 1, none⟩) := h.get 3 (hw _ rfl ⟨3, .data⟩ (by simp) rfl) (.con (.pointer (some ⟨wr.heap.size, 1, none⟩))) (by rw [HV.out]; rfl) _ rfl
          obtain ⟨q0, q1⟩ := HC6.out w' h.1
          refine wpOp_step rfl fun K hK => ?_
          go_simp
          exact hK _ _ ⟨x17, x18, x19, _, _, x22, x23, x24, rfl, h.same 4 _ (.con (.string s1)) (by rw [HV.out]; rfl) rfl⟩
        · obtain rfl : x21 = .string s1 := h.get 4 (hw _ rfl ⟨4, .data⟩ (by simp) rfl) (.con (.string s1)) (by rw [HV.out]; rfl) _ rfl
          obtain ⟨q0, q1⟩ := HC6.out w' h.1
          refine wpOp_step rfl fun K hK => ?_
          go_simp
          refine (pickTextB s1 w').mono ?_
          rintro e w2 ⟨rfl, hb2⟩
          exact hK _ _ ⟨x17, x18, x19, x20, _, _, x23, x24, rfl, h.did hb2 5 _ (.con (.agg #[.int .u8 3, .int .i64 0, .string s1, .slice none 0 0, .slice none 0 0])) (by rw [HV.out]; rfl) rfl⟩
        · obtain rfl : x19 = .string s0 := h.get 2 (hw _ rfl ⟨2, .data⟩ (by simp) rfl) (.con (.string s0)) (by rw [HV.out]; rfl) _ rfl
          obtain rfl : x22 = .agg #[.int .u8 3, .int .i64 0, .string s1, .slice none 0 0, .slice none 0 0] := h.get 5 (hw _ rfl ⟨5, .data⟩ (by simp) rfl) (.con (.agg #[.int .u8 3, .int .i64 0, .string s1, .slice none 0 0, .slice none 0 0])) (by rw [HV.out]; rfl) _ rfl
          refine wpOp_step rfl fun K hK => ?_
          go_simp
          exact hK _ _ ⟨x17, x18, _, x20, x21, _, _, x24, rfl, h.same 6 _ (.con (.agg #[.string s0, .int .u8 3, .int .i64 0, .string s1, .slice none 0 0, .slice none 0 0])) (by rw [HV.out]; rfl) rfl⟩
        · obtain rfl : x23 = .agg #[.string s0, .int .u8 3, .int .i64 0, .string s1, .slice none 0 0, .slice none 0 0] := h.get 6 (hw _ rfl ⟨6, .data⟩ (by simp) rfl) (.con (.agg #[.string s0, .int .u8 3, .int .i64 0, .string s1, .slice none 0 0, .slice none 0 0])) (by rw [HV.out]; rfl) _ rfl
          refine wpOp_step rfl fun K hK => ?_
          go_simp
          exact hK _ _ ⟨x17, x18, x19, x20, x21, x22, _, _, rfl, h.new _ 7 _ (.row W6.heap.size 1 74 #[.string s0, .int .u8 3, .int .i64 0, .string s1, .slice none 0 0, .slice none 0 0]) (by rw [HV.out]; rfl) (IsRow.made _ h.1.size)⟩
        · omega
      case last =>
        rintro d a' w' hall ⟨x17, x18, x19, x20, x21, x22, x23, x24, rfl, h⟩
        have hle := h.1
        obtain rfl : x17 = .slice (some ⟨g0, 0, none⟩) k cap0 := h.get 0 (hall _ (by omega)) (.con (.slice (some ⟨g0, 0, none⟩) k cap0)) (by rw [HV.out]; rfl) _ rfl
        obtain ⟨b24, k24, rfl, m24⟩ := h.get 7 (hall _ (by omega)) (.row W6.heap.size 1 74 #[.string s0, .int .u8 3, .int .i64 0, .string s1, .slice none 0 0, .slice none 0 0]) (by rw [HV.out]; rfl) _ rfl
        have HLE := Lib.hid hle
        clear h hall hle HV
        have HBX := Lib.hid (HB6.out.trans (HLE.out.mono HB6.out.size))
        have HMX := Lib.hid (HM6.out.below HLE.out)
        have hwz : W2.heap.size ≤ w'.heap.size := HBX.out.size
        have HOX := Lib.hid (show w'.ownsRow W2.heap.size 74 6 (.slice (some ⟨g0, 0, none⟩) k cap0) k (flatM ms) from by have := HMX.out.own; rwa [HML.out] at this)
        refine wpList_append_lies _ rfl (.tmp 17) (.tmp 24) 70 rfl W2.heap.size 74 i1 _ 6 96 Tryz.underlying70 hi1 hy0 hy1 hy2 rfl (by omega) (.slice (some ⟨g0, 0, none⟩) k cap0) k (flatM ms) rfl HOX.out ⟨b24, 0, none⟩ 1 1 (encM (memT s0 s1)) rfl rfl (World.news_of_block (cs := (encM (memT s0 s1)).toArray) (t := 74) (fr := (0, 0)) m24) (encM_one _) (by omega) (by unfold maxLen; omega) (by omega) hwz (w'.heap.size) rfl ?_
        intro g2 cap3 w4 hown4 hgrow4 hat4 hlt4
        have hb4 := below_grown HBX.out hwz hgrow4 (fun b hb => (HOX.out.lt b hb).1)
        have hms4 := HMX.out.snoc (v' := .slice (some ⟨g2, 0, none⟩) (k + 1) cap3) (memT s0 s1) (txtJ s1) W2.heap.size W2.heap.size (Nat.le_refl _) hwz (fun b _ h => by omega) (rep_txt _ _ _ _) hgrow4 (by rw [HML.out]; exact hown4) (by
          rcases hat4 with h | h
          · exact .inl h.symm
          · exact .inr ⟨g2, rfl, by omega⟩)
        have HMF := Lib.hid (show MembG W2.heap.size w4 (.slice (some ⟨g2, 0, none⟩) (k + 1) cap3) (hashN (l.take (k + 1))) from ⟨ms ++ [memT s0 s1], by rw [HTK.out]; simpa using hms4, by rw [HTK.out, List.map_append, List.map_append, HNM.out]; rfl⟩)
        have HB4 := Lib.hid hb4
        clear hms4 hb4 hown4 hgrow4 hat4
        go_wp2
        exact ⟨⟨k + 1, by omega, by go_num, ⟨g2, cap3, rfl⟩, HMF.out, HB4.out⟩, by simp [intOf]; omega⟩
    · obtain rfl : k = l.length := by omega
      have HMO := Lib.hid (objOfG (hashN l) (by have := HMB.out; rwa [List.take_length] at this) ⟨g0, cap0, by rw [hashN_len]⟩ (List.Perm.refl _) (by rw [hashN_1]; exact HRI.out) (by rw [hashN_len]; omega) (fun p hp => by
        obtain ⟨q, hq, rfl⟩ := List.mem_map.1 hp
        exact txtJ_wt _ (Nat.le_trans (pub_size (HOK.out q hq).2) (by decide))) hlw)
      clear hMB hb
      go_wp2_with fail
      refine HMO.out.mono ?_
      clear HMO HMB
      rintro r w5 ⟨an, cn, ai, ci, rfl, hr5, hb5⟩
      rw [hashN_1, hashN_2] at hr5
      rw [hashN_1, hashN_2]
      simp only [List.length_map] at hr5
      rw [List.length_map, List.length_map]
      obtain ⟨W6, hW6⟩ : ∃ W6, W6 = w5.alloc (.cells #[.int .u8 5, .int .i64 0, .string { data := #[] }, .slice an l.length cn, .slice ai l.length ci] 30) := ⟨_, rfl⟩
      have hb56 : Below w5.heap.size w5 W6 := by rw [hW6]; exact (Below.refl _ _).alloc (Nat.le_refl _) _
      have hx6 : W6.heap[w5.heap.size]? = some (.cells #[.int .u8 5, .int .i64 0, .string { data := #[] }, .slice an l.length cn, .slice ai l.length ci] 30 (0, 0)) := by rw [hW6]; exact heap_alloc_new w5 _
      have hb26 : Below W2.heap.size W2 W6 := HB.out.trans ((hb5.trans (hb56.mono hb5.size)).mono HB.out.size)
      have hres := below_row hb26 HR0.out (by have := HZ2.out; omega)
      have HRS := Lib.hid hres
      have HR5 := Lib.hid hr5
      have HB56 := Lib.hid hb56
      have HZ5 := Lib.hid (show W2.heap.size ≤ wr.heap.size ∧ wr.heap.size ≤ w5.heap.size from ⟨HB.out.size, hb5.size⟩)
      have HB5 := Lib.hid (HB2.out.trans (hb26.mono (by have := HZ2.out; omega)))
      have y0 := box_cell hx6 (j := 0) rfl; have y1 := box_cell hx6 (j := 1) rfl; have y2 := box_cell hx6 (j := 2) rfl; have y3 := box_cell hx6 (j := 3) rfl; have y4 := box_cell hx6 (j := 4) rfl
      have t0 := hres.cell (i := 0) (by decide); have t1 := hres.cell (i := 1) (by decide); have t2 := hres.cell (i := 2) (by decide); have t3 := hres.cell (i := 3) (by decide); have t4 := hres.cell (i := 4) (by decide)
      have s0 := hres.frozen 0; have s1 := hres.frozen 1; have s2 := hres.frozen 2; have s3 := hres.frozen 3; have s4 := hres.frozen 4
      simp only [pick5] at t0 t1 t2 t3 t4
      clear hres hr5 hb5 hb26 hb56 hx6
      go_upto_region 8 with fail
      rw [← hW6]
      clear hW6
      go_wp2
      refine bodyPost_ret (results_cell_row Tryz.results99 _ _ w.heap.size 30 _ (0, 0) _ rfl (row5_heap (set5 _ _ _ _ _ HRS.out)) Tryz.underlying30 rfl (by kernel_rfl)) rfl ?_
      have e1 : (hashJ l).names.length = l.length := List.length_map ..
      have e2 : (hashJ l).items.length = l.length := List.length_map ..
      unfold ObjVPost
      rw [e1, e2]
      refine ⟨an, cn, ai, ci, rfl, ?_, below5 _ _ _ _ _ HB5.out (Nat.le_refl _)⟩
      have hsz := HB56.out.size
      have := HZ5.out
      have := HZ2.out
      exact Rep.carry (lo := wr.heap.size) (hi := w5.heap.size) (by omega) (by simp [World.setCell]; omega) (fun j hj hj2 => (heap5 _ _ _ _ _ (by omega)).trans (HB56.out.block j hj2)) _ _ HR5.out
end Go.Proofs.YtgghgcilpfdbjaaGreatDoor

namespace Go.Proofs.YtgghgcilpfdbjaaGreatDoor
open Go.RowKit Go.Shelf Go.Sort

theorem names_2 : rises [hasN, verN] = true := by kernel_rfl
theorem names_3 : rises [hasN, lenN, verN] = true := by kernel_rfl

set_option maxHeartbeats 4000000 in
set_option maxRecDepth 100000 in
theorem recHashesValue (l : List Key2) (a : Option Addr) (c : Nat) (w : World) (hK : KeysAt w 0 w.heap.size a l) (hm : mayHashes l = true) :
    Calls Tryz.prog 58 #[.slice a l.length c] w (ObjTPost (hashJ l) w) := by
  obtain ⟨hl, hok, _⟩ := mayHashes_parts hm
  obtain ⟨W2, hW2⟩ : ∃ W2, W2 = w.alloc (.cells #[.int .u8 0, .int .i64 0, .string { data := #[] }, .slice none 0 0, .slice none 0 0] 30) := ⟨_, rfl⟩
  have hz2 : W2.heap.size = w.heap.size + 1 := by rw [hW2]; simp
  have hb2 : Below w.heap.size w W2 := by rw [hW2]; exact (Below.refl _ _).alloc (Nat.le_refl _) _
  have hr0 : W2.rowIs w.heap.size 30 5 (pick5 (.int .u8 0) (.int .i64 0) (.string { data := #[] }) (.slice none 0 0) (.slice none 0 0)) := by
    rw [hW2]; exact rowIs_box5 w (.int .u8 0) (.int .i64 0) (.string { data := #[] }) (.slice none 0 0) (.slice none 0 0) 30
  have HKA := Lib.hid (hK.below hb2 (Nat.le_refl _) (Nat.le_refl _) hb2.size)
  have HMY := Lib.hid (recMayHashes l a c W2 HKA.out (Nat.le_trans hl.2 (by decide)) (fun k hk => ⟨Nat.le_trans (role_size2 (hok k hk).1) (by decide), Nat.le_trans (pub_size (hok k hk).2) (by decide)⟩))
  rw [hm] at HMY
  have HR0 := Lib.hid hr0
  have HB2 := Lib.hid hb2
  have HW := Lib.hid hW2
  have HM := Lib.hid hm
  have HZ2 := Lib.hid hz2
  clear hW2 hb2 hr0 hm hK hok
  go_enter Tryz.func58, Tryz.ntmps58
  go_upto_region 1 with fail
  rw [← HW.out]
  go_wp2_with fail
  refine HMY.out.mono ?_
  clear HMY
  rintro r w1 ⟨rfl, hb1⟩
  have HOB := Lib.hid (recHashesObject l a c w1 (HKA.out.below hb1 (Nat.le_refl _) (Nat.le_refl _) hb1.size) HM.out)
  have HB1 := Lib.hid hb1
  clear hb1
  go_wp2_with fail
  refine HOB.out.mono ?_
  clear HOB
  rintro r w5 ⟨an, cn, ai, ci, rfl, hr5, hb5⟩
  have hb25 : Below W2.heap.size W2 w5 := HB1.out.trans (hb5.mono HB1.out.size)
  have hres := below_row hb25 HR0.out (by omega)
  have HRS := Lib.hid hres
  have HR5 := Lib.hid hr5
  have HZ5 := Lib.hid (show w.heap.size < w1.heap.size by have := HB1.out.size; omega)
  have HB5 := Lib.hid (HB2.out.trans (hb25.mono (by omega)))
  have t0 := hres.cell (i := 0) (by decide); have t1 := hres.cell (i := 1) (by decide); have t2 := hres.cell (i := 2) (by decide); have t3 := hres.cell (i := 3) (by decide); have t4 := hres.cell (i := 4) (by decide)
  have s0 := hres.frozen 0; have s1 := hres.frozen 1; have s2 := hres.frozen 2; have s3 := hres.frozen 3; have s4 := hres.frozen 4
  simp only [pick5] at t0 t1 t2 t3 t4
  clear hres hr5 hb5 hb25
  go_wp2
  refine bodyPost_ret (results_row_tmp Tryz.results58 _ _ w.heap.size 30 _ (0, 0) _ rfl (row5_heap (set5 _ _ _ _ _ HRS.out)) Tryz.underlying30 rfl (by kernel_rfl) _ rfl) rfl ?_
  refine ⟨an, cn, ai, ci, rfl, ?_, below5 _ _ _ _ _ HB5.out (Nat.le_refl _)⟩
  exact Rep.carry (Nat.le_of_lt HZ5.out) (show w5.heap.size ≤ _ by simp [World.setCell]) (fun j hj _ => heap5 _ _ _ _ _ (by have := HZ5.out; omega)) _ _ HR5.out

set_option maxHeartbeats 4000000 in
set_option maxRecDepth 100000 in
theorem snapPinValueH (nm : ByteArray) (vr ln : Int) (hs : List Key2) (ha : Option Addr) (hc : Nat) (w : World) (hK : KeysAt w 0 w.heap.size ha hs) (hm : mayPin ⟨nm, vr, ln, hs⟩ = true) (hne : hs ≠ []) :
    Calls Tryz.prog 27 #[.agg #[.string nm, .int .i64 vr, .int .i64 ln, .slice ha hs.length hc]] w (PinValPost ⟨nm, vr, ln, hs⟩ w) := by
  obtain ⟨hf, _, _, hh⟩ := mayPin_parts hm
  dsimp only at hf hh
  have hmh : mayHashes hs = true := hh.resolve_left hne
  have hlen := (mayHashes_parts hmh).1
  have hd2 : decide ((0 : Int) < hs.length) = true := by simp; omega
  obtain ⟨W2, hW2⟩ : ∃ W2, W2 = (w.alloc (.cells #[.string nm, .int .i64 vr, .int .i64 ln, .slice ha hs.length hc] 36)).alloc (.cells #[.int .u8 0, .int .i64 0, .string { data := #[] }, .slice none 0 0, .slice none 0 0] 30) := ⟨_, rfl⟩
  have hz1 : (w.alloc (.cells #[.string nm, .int .i64 vr, .int .i64 ln, .slice ha hs.length hc] 36)).heap.size = w.heap.size + 1 := by simp
  have hz2 : W2.heap.size = w.heap.size + 2 := by rw [hW2]; simp
  have hb2 : Below w.heap.size w W2 := by rw [hW2]; exact ((Below.refl _ _).alloc (Nat.le_refl _) _).alloc (by simp) _
  have hx0 : W2.heap[w.heap.size]? = some (.cells #[.string nm, .int .i64 vr, .int .i64 ln, .slice ha hs.length hc] 36 (0, 0)) := by rw [hW2, Below.heap_alloc _ _ _ (by simp)]; exact heap_alloc_new w _
  have hr0 : W2.rowIs (w.heap.size + 1) 30 5 (pick5 (.int .u8 0) (.int .i64 0) (.string { data := #[] }) (.slice none 0 0) (.slice none 0 0)) := by
    have := rowIs_box5 (w.alloc (.cells #[.string nm, .int .i64 vr, .int .i64 ln, .slice ha hs.length hc] 36)) (.int .u8 0) (.int .i64 0) (.string { data := #[] }) (.slice none 0 0) (.slice none 0 0) 30
    rw [hz1, ← hW2] at this
    exact this
  have HMP := Lib.hid (snapMayPin nm vr ln hs ha hc W2 (hK.below hb2 (Nat.le_refl _) (Nat.le_refl _) hb2.size) (Nat.le_trans (file_size hf) (by decide)) (Nat.le_trans (mayHashes_parts hmh).1.2 (by decide)) (fun k hk => ⟨Nat.le_trans (role_size2 ((mayHashes_parts hmh).2.1 k hk).1) (by decide), Nat.le_trans (pub_size ((mayHashes_parts hmh).2.1 k hk).2) (by decide)⟩))
  rw [hm] at HMP
  have HC := Lib.hid (show ∀ w' : World, Below W2.heap.size W2 w' → w'.cell? ⟨w.heap.size, 0, none⟩ = some (.string nm) ∧ w'.cell? ⟨w.heap.size, 1, none⟩ = some (.int .i64 vr) ∧ w'.cell? ⟨w.heap.size, 2, none⟩ = some (.int .i64 ln) ∧ w'.cell? ⟨w.heap.size, 3, none⟩ = some (.slice ha hs.length hc) from fun w' h => by
    have x := (h.block _ (heap_lt hx0)).trans hx0
    exact ⟨box_cell x rfl, box_cell x rfl, box_cell x rfl, box_cell x rfl⟩)
  have HHV := Lib.hid (show ∀ w' : World, Below W2.heap.size W2 w' → Calls Tryz.prog 58 #[.slice ha hs.length hc] w' (ObjTPost (hashJ hs) w') from fun w' h => recHashesValue hs ha hc w' (hK.below (hb2.trans (h.mono hb2.size)) (Nat.le_refl _) (Nat.le_refl _) (Nat.le_trans hb2.size h.size)) hmh)
  have HR0 := Lib.hid hr0
  have HMH := Lib.hid hmh
  have HNE := Lib.hid hne
  have HB2 := Lib.hid hb2
  have HW := Lib.hid hW2
  have HZ2 := Lib.hid hz2
  have hz2' : w.heap.size < W2.heap.size := by omega
  clear hW2 hb2 hx0 hr0 hz1 hm hmh hh hf hne hK
  obtain ⟨q0, q1, q2, q3⟩ := HC.out W2 (Below.refl _ _)
  go_enter Tryz.func27, Tryz.ntmps27
  go_upto_region 1 with fail
  rw [← HW.out]
  go_wp2_with fail
  refine HMP.out.mono ?_
  clear HMP q0 q1 q2 q3
  rintro e w1 ⟨rfl, hb1⟩
  have HB1 := Lib.hid hb1
  obtain ⟨q0, q1, q2, q3⟩ := HC.out w1 HB1.out
  clear hb1
  go_wp2_with fail
  refine (pickNumOf vr w1).mono ?_
  rintro e w' ⟨rfl, rfl⟩
  clear q0 q1 q2 q3
  go_upto_region 4 with fail
  obtain ⟨W3, hW3⟩ : ∃ W3, W3 = (w1.alloc (.cells #[.int .u8 2, .int .i64 vr, .string { data := #[] }, .slice none 0 0, .slice none 0 0] 30)).alloc (.cells #[.string { data := #[118, 101, 114, 115, 105, 111, 110] }, .int .u8 2, .int .i64 vr, .string { data := #[] }, .slice none 0 0, .slice none 0 0] 74) := ⟨_, rfl⟩
  have hzz : (w1.alloc (.cells #[.int .u8 2, .int .i64 vr, .string { data := #[] }, .slice none 0 0, .slice none 0 0] 30)).heap.size = w1.heap.size + 1 := by simp
  have hb3 : Below W2.heap.size W2 W3 := by rw [hW3]; exact (HB1.out.alloc HB1.out.size _).alloc (by have := HB1.out.size; simp; omega) _
  have hx3 : W3.heap[w1.heap.size + 1]? = some (.cells (encM (memN verN vr)).toArray 74 (0, 0)) := by
    rw [hW3, ← hzz]; exact heap_alloc_new _ _
  have hM3 := MemsAt.one (W0 := W2.heap.size) (memN verN vr) (numJ vr) w1.heap.size w1.heap.size (by have := HB1.out.size; omega) (by have := HB1.out.size; omega) (by omega) (rep_num W3 w1.heap.size w1.heap.size vr) hx3
  have HB3 := Lib.hid hb3
  have HM3 := Lib.hid hM3
  rw [← hW3]
  have HZ3 := Lib.hid (show w1.heap.size + 1 < W3.heap.size from heap_lt hx3)
  generalize w1.heap.size + 1 = g0 at *
  clear hW3 hzz hb3 hx3 hM3 HB1
  obtain ⟨q0, q1, q2, q3⟩ := HC.out W3 HB3.out
  by_cases hl : ln = -1
  · have HLN := Lib.hid hl
    have hd : (ln != -1) = false := by simpa using hl
    clear hl
    go_wp2_with fail
    refine (HHV.out W3 HB3.out).mono ?_
    clear q0 q1 q2 q3
    rintro r w5 ⟨an, cn, ai, ci, rfl, hr5, hb5⟩
    have HR5 := Lib.hid hr5
    have HB5 := Lib.hid hb5
    clear hr5 hb5
    go_upto_region 10 with fail
    obtain ⟨W6, hW6⟩ : ∃ W6, W6 = w5.alloc (.cells #[.int .u8 5, .int .i64 0, .string { data := #[] }, .slice an (hashJ hs).names.length cn, .slice ai (hashJ hs).items.length ci] 30) := ⟨_, rfl⟩
    have hb56 : Below w5.heap.size w5 W6 := by rw [hW6]; exact (Below.refl _ _).alloc (Nat.le_refl _) _
    have hx6 : W6.heap[w5.heap.size]? = some (.cells #[.int .u8 5, .int .i64 0, .string { data := #[] }, .slice an (hashJ hs).names.length cn, .slice ai (hashJ hs).items.length ci] 30 (0, 0)) := by rw [hW6]; exact heap_alloc_new w5 _
    rw [← hW6]
    have hb36 : Below W3.heap.size W3 W6 := HB5.out.trans (hb56.mono HB5.out.size)
    have HB26 := Lib.hid ((HB3.out).trans (hb36.mono (HB3.out).size))
    have h26z : W2.heap.size ≤ W6.heap.size := HB26.out.size
    have y0 := box_cell hx6 (j := 0) rfl; have y1 := box_cell hx6 (j := 1) rfl; have y2 := box_cell hx6 (j := 2) rfl; have y3 := box_cell hx6 (j := 3) rfl; have y4 := box_cell hx6 (j := 4) rfl
    have HM6 := Lib.hid (HM3.out.below hb36)
    have HO6 := Lib.hid (show W6.ownsRow W2.heap.size 74 6 (.slice (some ⟨g0, 0, none⟩) 1 1) 1 (flatM [memN verN vr]) from HM6.out.own)
    have HR6 := Lib.hid (HR5.out.below (B := w5.heap.size) hb56 (Nat.le_refl _) (Nat.le_refl _) (Nat.le_refl _))
    have HZ6 := Lib.hid (show W2.heap.size ≤ W3.heap.size ∧ W3.heap.size ≤ w5.heap.size ∧ w5.heap.size ≤ W6.heap.size ∧ g0 < W3.heap.size from ⟨(HB3.out).size, HB5.out.size, hb56.size, (HM3.out.own.lt g0 rfl).2⟩)
    clear hW6 hx6 hb56 hb36
    obtain ⟨i1, hi1, hy0, hy1, hy2⟩ := info_parts infoMember
    go_wp2_with (at_builtin; refine wpList_append_lies _ rfl (.tmp 39) (.tmp 42) 70 rfl W2.heap.size 74 i1 _ 6 96 Tryz.underlying70 hi1 hy0 hy1 hy2 rfl (by omega) (.slice (some ⟨g0, 0, none⟩) 1 1) 1 (flatM [memN verN vr]) rfl (HO6.out.alloc _) ⟨W6.heap.size, 0, none⟩ 1 1 (encM (⟨hasN, 5, 0, { data := #[] }, an, (hashJ hs).names.length, cn, ai, (hashJ hs).items.length, ci⟩ : Mem)) rfl rfl (World.news_of_block (cs := #[.string { data := #[104, 97, 115, 104, 101, 115] }, .int .u8 5, .int .i64 0, .string { data := #[] }, .slice an (hashJ hs).names.length cn, .slice ai (hashJ hs).items.length ci]) (t := 74) (fr := (0, 0)) (heap_alloc_new W6 _)) (encM_one _) (by omega) (by unfold maxLen; omega) (by omega) (by simp; omega) (W6.heap.size + 1) (by simp) ?_; intro g3 cap4 w7 hown7 hgrow7 hat7 hlt7; have HO7 := Lib.hid hown7; have HG7 := Lib.hid hgrow7; have HA7 := Lib.hid hat7; clear hown7 hgrow7 hat7)
    have hga : Below W6.heap.size W6 (W6.alloc (.cells #[.string { data := #[104, 97, 115, 104, 101, 115] }, .int .u8 5, .int .i64 0, .string { data := #[] }, .slice an (hashJ hs).names.length cn, .slice ai (hashJ hs).items.length ci] 74)) := (Below.refl _ _).alloc (Nat.le_refl _) _
    have HB7 := Lib.hid (below_grown (HB26.out.trans (hga.mono HB26.out.size)) (by simp; omega) HG7.out (fun b hb => (HO6.out.lt b hb).1))
    have hz6 := HZ6.out
    have hms7 := (HM6.out.below hga).snoc (v' := .slice (some ⟨g3, 0, none⟩) (1 + 1) cap4) (⟨hasN, 5, 0, { data := #[] }, an, (hashJ hs).names.length, cn, ai, (hashJ hs).items.length, ci⟩ : Mem) (hashJ hs) W3.heap.size w5.heap.size (by omega) (by simp; omega) (fun b hb => by simp only [Value.ownBlock, Option.some.injEq] at hb; omega) (HR6.out.below hga (by omega) (Nat.le_refl _) (Nat.le_refl _)) HG7.out HO7.out (by
      rcases HA7.out with h | h
      · exact .inl h.symm
      · exact .inr ⟨g3, rfl, by simp; omega⟩)
    have HMO := Lib.hid (objOfG (v := .slice (some ⟨g3, 0, none⟩) 2 cap4) [(verN, numJ vr), (hasN, hashJ hs)].reverse (N := [(verN, numJ vr), (hasN, hashJ hs)]) ⟨_, by simpa using hms7, rfl⟩ ⟨g3, cap4, rfl⟩ (List.reverse_perm [(verN, numJ vr), (hasN, hashJ hs)]) names_2 (by simp) (fun p hp => by
      have h0 := hashJ_wt HMH.out
      simp only [List.reverse_cons, List.reverse_nil, List.nil_append, List.cons_append, List.mem_cons, List.not_mem_nil, or_false] at hp
      rcases hp with rfl | rfl
      · show (hashJ hs).wt ≤ 4294967296; omega
      · show (numJ _).wt ≤ 4294967296; rw [numJ_wt]; decide) (by omega))
    clear hms7 hga HO7 HG7 HA7 y0 y1 y2 y3 y4
    go_wp2_with fail
    refine HMO.out.mono ?_
    clear HMO
    rintro e w8 ⟨an8, cn8, ai8, ci8, rfl, hr8, hb8⟩
    have hb28 : Below W2.heap.size W2 w8 := HB7.out.trans (hb8.mono HB7.out.size)
    have hres := below_row hb28 HR0.out (by omega)
    have HRS := Lib.hid hres
    have HR8 := Lib.hid hr8
    have HZ8 := Lib.hid (show w.heap.size ≤ w7.heap.size by have := HB7.out.size; omega)
    have HB8 := Lib.hid (HB2.out.trans (hb28.mono (by omega)))
    have t0 := hres.cell (i := 0) (by decide); have t1 := hres.cell (i := 1) (by decide); have t2 := hres.cell (i := 2) (by decide); have t3 := hres.cell (i := 3) (by decide); have t4 := hres.cell (i := 4) (by decide)
    have s0 := hres.frozen 0; have s1 := hres.frozen 1; have s2 := hres.frozen 2; have s3 := hres.frozen 3; have s4 := hres.frozen 4
    simp only [pick5] at t0 t1 t2 t3 t4
    clear hres hr8 hb8 hb28
    go_wp2
    refine bodyPost_ret (results_row_tmp Tryz.results27 _ _ (w.heap.size + 1) 30 _ (0, 0) _ rfl (row5_heap (set5 _ _ _ _ _ HRS.out)) Tryz.underlying30 rfl (by kernel_rfl) _ rfl) rfl ?_
    have e : pinJ ⟨nm, vr, ln, hs⟩ = .mk 5 0 { data := #[] } (([(verN, numJ vr), (hasN, hashJ hs)].reverse).map (·.1)) (([(verN, numJ vr), (hasN, hashJ hs)].reverse).map (·.2)) := by
      have h1 : hs.isEmpty = false := by
        cases hs with
        | nil => exact absurd rfl HNE.out
        | cons _ _ => rfl
      simp [pinJ, pinM, h1, HLN.out]
    unfold PinValPost
    rw [e]
    refine ⟨an8, cn8, ai8, ci8, rfl, ?_, below5 _ _ _ _ _ HB8.out (by omega)⟩
    exact Rep.carry HZ8.out (show w8.heap.size ≤ _ by simp [World.setCell]) (fun j hj _ => heap5 _ _ _ _ _ (by have := HB2.out.size; have := HB7.out.size; omega)) _ _ HR8.out
  · have HLN := Lib.hid hl
    have hd : (ln != -1) = true := by simpa using hl
    clear hl
    go_upto_region 5 with fail
    obtain ⟨i1, hi1, hy0, hy1, hy2⟩ := info_parts infoMember
    have HOD := Lib.hid (show W3.ownsRow W2.heap.size 74 6 (.slice (some ⟨g0, 0, none⟩) 1 1) 1 (flatM [memN verN vr]) from HM3.out.own)
    have hwz : W2.heap.size ≤ W3.heap.size := HB3.out.size
    go_wp2_with (first | (go_at_call 46; refine (pickNumOf ln _).mono ?_; rintro e w' ⟨rfl, rfl⟩) | (at_builtin; refine wpList_append_lies _ rfl (.tmp 19) (.tmp 24) 70 rfl W2.heap.size 74 i1 _ 6 96 Tryz.underlying70 hi1 hy0 hy1 hy2 rfl (by omega) (.slice (some ⟨g0, 0, none⟩) 1 1) 1 (flatM [memN verN vr]) rfl ((HOD.out.alloc _).alloc _) ⟨W3.heap.size + 1, 0, none⟩ 1 1 (encM (memN lenN ln)) rfl rfl (World.news_of_block (cs := (encM (memN lenN ln)).toArray) (t := 74) (fr := (0, 0)) (heap_2nd W3 _ _)) (encM_one _) (by omega) (by unfold maxLen; omega) (by omega) (by simp; omega) (W3.heap.size + 2) (by simp) ?_; intro g2 cap3 w4 hown4 hgrow4 hat4 hlt4; have HO4 := Lib.hid hown4; have HG4 := Lib.hid hgrow4; have HA4 := Lib.hid hat4; have HB4 := Lib.hid (below_grown ((HB3.out.alloc HB3.out.size (.cells #[.int .u8 2, .int .i64 ln, .string { data := #[] }, .slice none 0 0, .slice none 0 0] 30)).alloc (by simp; omega) (.cells (encM (memN lenN ln)).toArray 74)) (by simp; omega) hgrow4 (fun b hb => (HOD.out.lt b hb).1)); obtain ⟨q0, q1, q2, q3⟩ := HC.out w4 HB4.out; clear hown4 hgrow4 hat4))
    have hga : Below W3.heap.size W3 ((W3.alloc (.cells #[.int .u8 2, .int .i64 ln, .string { data := #[] }, .slice none 0 0, .slice none 0 0] 30)).alloc (.cells (encM (memN lenN ln)).toArray 74)) := ((Below.refl _ _).alloc (Nat.le_refl _) _).alloc (by simp) _
    have hms4 := (HM3.out.below hga).snoc (v' := .slice (some ⟨g2, 0, none⟩) (1 + 1) cap3) (memN lenN ln) (numJ ln) W2.heap.size W2.heap.size (Nat.le_refl _) (by simp; omega) (fun b hb => by omega) (rep_num _ _ _ _) HG4.out HO4.out (by
      rcases HA4.out with h | h
      · exact .inl h.symm
      · exact .inr ⟨g2, rfl, by simp; omega⟩)
    have HM4 := Lib.hid (show MemsAt W2.heap.size w4 (.slice (some ⟨g2, 0, none⟩) 2 cap3) [memN verN vr, memN lenN ln] [numJ vr, numJ ln] from hms4)
    clear hms4 hga HO4 HG4 HA4
    refine (HHV.out w4 HB4.out).mono ?_
    clear q0 q1 q2 q3
    rintro r w5 ⟨an, cn, ai, ci, rfl, hr5, hb5⟩
    have HR5 := Lib.hid hr5
    have HB5 := Lib.hid hb5
    clear hr5 hb5
    go_upto_region 10 with fail
    obtain ⟨W6, hW6⟩ : ∃ W6, W6 = w5.alloc (.cells #[.int .u8 5, .int .i64 0, .string { data := #[] }, .slice an (hashJ hs).names.length cn, .slice ai (hashJ hs).items.length ci] 30) := ⟨_, rfl⟩
    have hb56 : Below w5.heap.size w5 W6 := by rw [hW6]; exact (Below.refl _ _).alloc (Nat.le_refl _) _
    have hx6 : W6.heap[w5.heap.size]? = some (.cells #[.int .u8 5, .int .i64 0, .string { data := #[] }, .slice an (hashJ hs).names.length cn, .slice ai (hashJ hs).items.length ci] 30 (0, 0)) := by rw [hW6]; exact heap_alloc_new w5 _
    rw [← hW6]
    have hb36 : Below w4.heap.size w4 W6 := HB5.out.trans (hb56.mono HB5.out.size)
    have HB26 := Lib.hid ((HB4.out).trans (hb36.mono (HB4.out).size))
    have h26z : W2.heap.size ≤ W6.heap.size := HB26.out.size
    have y0 := box_cell hx6 (j := 0) rfl; have y1 := box_cell hx6 (j := 1) rfl; have y2 := box_cell hx6 (j := 2) rfl; have y3 := box_cell hx6 (j := 3) rfl; have y4 := box_cell hx6 (j := 4) rfl
    have HM6 := Lib.hid (HM4.out.below hb36)
    have HO6 := Lib.hid (show W6.ownsRow W2.heap.size 74 6 (.slice (some ⟨g2, 0, none⟩) 2 cap3) 2 (flatM [memN verN vr, memN lenN ln]) from HM6.out.own)
    have HR6 := Lib.hid (HR5.out.below (B := w5.heap.size) hb56 (Nat.le_refl _) (Nat.le_refl _) (Nat.le_refl _))
    have HZ6 := Lib.hid (show W2.heap.size ≤ w4.heap.size ∧ w4.heap.size ≤ w5.heap.size ∧ w5.heap.size ≤ W6.heap.size ∧ g2 < w4.heap.size from ⟨(HB4.out).size, HB5.out.size, hb56.size, (HM4.out.own.lt g2 rfl).2⟩)
    clear hW6 hx6 hb56 hb36
    
    go_wp2_with (at_builtin; refine wpList_append_lies _ rfl (.tmp 39) (.tmp 42) 70 rfl W2.heap.size 74 i1 _ 6 96 Tryz.underlying70 hi1 hy0 hy1 hy2 rfl (by omega) (.slice (some ⟨g2, 0, none⟩) 2 cap3) 2 (flatM [memN verN vr, memN lenN ln]) rfl (HO6.out.alloc _) ⟨W6.heap.size, 0, none⟩ 1 1 (encM (⟨hasN, 5, 0, { data := #[] }, an, (hashJ hs).names.length, cn, ai, (hashJ hs).items.length, ci⟩ : Mem)) rfl rfl (World.news_of_block (cs := #[.string { data := #[104, 97, 115, 104, 101, 115] }, .int .u8 5, .int .i64 0, .string { data := #[] }, .slice an (hashJ hs).names.length cn, .slice ai (hashJ hs).items.length ci]) (t := 74) (fr := (0, 0)) (heap_alloc_new W6 _)) (encM_one _) (by omega) (by unfold maxLen; omega) (by omega) (by simp; omega) (W6.heap.size + 1) (by simp) ?_; intro g3 cap4 w7 hown7 hgrow7 hat7 hlt7; have HO7 := Lib.hid hown7; have HG7 := Lib.hid hgrow7; have HA7 := Lib.hid hat7; clear hown7 hgrow7 hat7)
    have hga : Below W6.heap.size W6 (W6.alloc (.cells #[.string { data := #[104, 97, 115, 104, 101, 115] }, .int .u8 5, .int .i64 0, .string { data := #[] }, .slice an (hashJ hs).names.length cn, .slice ai (hashJ hs).items.length ci] 74)) := (Below.refl _ _).alloc (Nat.le_refl _) _
    have HB7 := Lib.hid (below_grown (HB26.out.trans (hga.mono HB26.out.size)) (by simp; omega) HG7.out (fun b hb => (HO6.out.lt b hb).1))
    have hz6 := HZ6.out
    have hms7 := (HM6.out.below hga).snoc (v' := .slice (some ⟨g3, 0, none⟩) (2 + 1) cap4) (⟨hasN, 5, 0, { data := #[] }, an, (hashJ hs).names.length, cn, ai, (hashJ hs).items.length, ci⟩ : Mem) (hashJ hs) w4.heap.size w5.heap.size (by omega) (by simp; omega) (fun b hb => by simp only [Value.ownBlock, Option.some.injEq] at hb; omega) (HR6.out.below hga (by omega) (Nat.le_refl _) (Nat.le_refl _)) HG7.out HO7.out (by
      rcases HA7.out with h | h
      · exact .inl h.symm
      · exact .inr ⟨g3, rfl, by simp; omega⟩)
    have HMO := Lib.hid (objOfG (v := .slice (some ⟨g3, 0, none⟩) 3 cap4) [(verN, numJ vr), (lenN, numJ ln), (hasN, hashJ hs)].reverse (N := [(verN, numJ vr), (lenN, numJ ln), (hasN, hashJ hs)]) ⟨_, by simpa using hms7, rfl⟩ ⟨g3, cap4, rfl⟩ (List.reverse_perm [(verN, numJ vr), (lenN, numJ ln), (hasN, hashJ hs)]) names_3 (by simp) (fun p hp => by
      have h0 := hashJ_wt HMH.out
      simp only [List.reverse_cons, List.reverse_nil, List.nil_append, List.cons_append, List.mem_cons, List.not_mem_nil, or_false] at hp
      rcases hp with rfl | rfl | rfl
      · show (hashJ hs).wt ≤ 4294967296; omega
      · show (numJ _).wt ≤ 4294967296; rw [numJ_wt]; decide
      · show (numJ _).wt ≤ 4294967296; rw [numJ_wt]; decide) (by omega))
    clear hms7 hga HO7 HG7 HA7 y0 y1 y2 y3 y4
    go_wp2_with fail
    refine HMO.out.mono ?_
    clear HMO
    rintro e w8 ⟨an8, cn8, ai8, ci8, rfl, hr8, hb8⟩
    have hb28 : Below W2.heap.size W2 w8 := HB7.out.trans (hb8.mono HB7.out.size)
    have hres := below_row hb28 HR0.out (by omega)
    have HRS := Lib.hid hres
    have HR8 := Lib.hid hr8
    have HZ8 := Lib.hid (show w.heap.size ≤ w7.heap.size by have := HB7.out.size; omega)
    have HB8 := Lib.hid (HB2.out.trans (hb28.mono (by omega)))
    have t0 := hres.cell (i := 0) (by decide); have t1 := hres.cell (i := 1) (by decide); have t2 := hres.cell (i := 2) (by decide); have t3 := hres.cell (i := 3) (by decide); have t4 := hres.cell (i := 4) (by decide)
    have s0 := hres.frozen 0; have s1 := hres.frozen 1; have s2 := hres.frozen 2; have s3 := hres.frozen 3; have s4 := hres.frozen 4
    simp only [pick5] at t0 t1 t2 t3 t4
    clear hres hr8 hb8 hb28
    go_wp2
    refine bodyPost_ret (results_row_tmp Tryz.results27 _ _ (w.heap.size + 1) 30 _ (0, 0) _ rfl (row5_heap (set5 _ _ _ _ _ HRS.out)) Tryz.underlying30 rfl (by kernel_rfl) _ rfl) rfl ?_
    have e : pinJ ⟨nm, vr, ln, hs⟩ = .mk 5 0 { data := #[] } (([(verN, numJ vr), (lenN, numJ ln), (hasN, hashJ hs)].reverse).map (·.1)) (([(verN, numJ vr), (lenN, numJ ln), (hasN, hashJ hs)].reverse).map (·.2)) := by
      have h1 : hs.isEmpty = false := by
        cases hs with
        | nil => exact absurd rfl HNE.out
        | cons _ _ => rfl
      simp [pinJ, pinM, h1, HLN.out]
    unfold PinValPost
    rw [e]
    refine ⟨an8, cn8, ai8, ci8, rfl, ?_, below5 _ _ _ _ _ HB8.out (by omega)⟩
    exact Rep.carry HZ8.out (show w8.heap.size ≤ _ by simp [World.setCell]) (fun j hj _ => heap5 _ _ _ _ _ (by have := HB2.out.size; have := HB7.out.size; omega)) _ _ HR8.out

/-- What PinValue makes of each pin of a snapshot that may be. -/
theorem pins_made {l : List PinV} (h : l.all mayPin = true) : PinsMade l := by
  intro p hp ha hc w hK
  have hm := List.all_eq_true.1 h p hp
  obtain ⟨nm, vr, ln, hs⟩ := p
  by_cases he : hs = []
  · subst he
    exact snapPinValue nm vr ln ha hc w (Nat.le_trans (file_size (mayPin_parts hm).1) (by decide)) hm
  · exact snapPinValueH nm vr ln hs ha hc w hK hm he
end Go.Proofs.YtgghgcilpfdbjaaGreatDoor

namespace Go.Proofs.YtgghgcilpfdbjaaGreatDoor
open Go.RowKit

theorem utfOk_ascii (s : ByteArray) (h : ∀ k (hk : k < s.size), s[k].toNat < 128) : ∀ f pos, utfOk s f pos = true
  | 0, _ => rfl
  | f + 1, pos => by
    unfold utfOk
    split
    · next hp =>
      have hd := decode_ascii s pos hp (h pos hp)
      have : utfBad s pos = false := by
        unfold utfBad; rw [hd]
        have := h pos hp
        have e : ((s[pos].toNat, 1) : Nat × Nat).1 = s[pos].toNat := rfl
        rw [e, beq_eq_false_iff_ne.2 (by omega)]; rfl
      rw [this]
      exact utfOk_ascii s h f _
    · rfl
theorem utfV_ascii (s : ByteArray) (h : ∀ c ∈ s.data.toList, c.toNat < 128) : utfV s = true :=
  utfOk_ascii s (fun k hk => by rw [← toList_get s k hk]; exact h _ (List.getElem_mem _)) _ _

/-- A byte that stands for itself. -/
def plainC (c : UInt8) : Prop := c.toNat < 128 ∧ c.toNat ≠ 34 ∧ c.toNat ≠ 92
theorem plain_hex {c : UInt8} (h : isHex c = true) : plainC c := by
  unfold isHex at h; unfold plainC; simp at h; omega
theorem plain_name {c : UInt8} (h : nameC c = true) : plainC c := by
  unfold nameC at h; unfold plainC; simp at h; omega
theorem role_plain {l : List UInt8} (h : roleOk l = true) : (∀ c ∈ l, plainC c) ∧ 1 ≤ l.length ∧ l.length ≤ 64 := by
  unfold roleOk at h
  simp only [Bool.and_eq_true, decide_eq_true_eq] at h
  exact ⟨fun c hc => plain_name (List.all_eq_true.1 h.2 c hc), h.1.1⟩
theorem pub_plain {l : List UInt8} (h : pubOk l = true) : (∀ c ∈ l, plainC c) ∧ 2 ≤ l.length ∧ l.length ≤ 128 := by
  unfold pubOk allHex at h
  simp only [Bool.and_eq_true, decide_eq_true_eq] at h
  exact ⟨fun c hc => plain_hex (List.all_eq_true.1 h.2 c hc), h.1.1, h.1.2.1⟩
theorem txtOk_plain {s : ByteArray} (h : ∀ c ∈ s.data.toList, plainC c) (hl : s.size ≤ 4096) : txtOk s = true := by
  unfold txtOk; rw [utfV_ascii s fun c hc => (h c hc).1]; simpa using hl
theorem role_txt {s : ByteArray} (h : roleOk s.data.toList = true) : txtOk s = true := by
  have h3 := role_plain h
  rw [toList_length] at h3
  exact txtOk_plain h3.1 (by omega)
theorem pub_txt {s : ByteArray} (h : pubOk s.data.toList = true) : txtOk s = true := by
  have h3 := pub_plain h
  rw [toList_length] at h3
  exact txtOk_plain h3.1 (by omega)
end Go.Proofs.YtgghgcilpfdbjaaGreatDoor

namespace Go.Proofs.YtgghgcilpfdbjaaGreatDoor
open Go.RowKit

mutual
def JV.count : JV → Nat
  | .mk _ _ _ _ xs => 1 + JV.counts xs
def JV.counts : List JV → Nat
  | [] => 0
  | x :: r => JV.count x + JV.counts r
end
theorem JV.counts_take (l : List JV) (k : Nat) (h : k < l.length) : JV.counts (l.take (k + 1)) = JV.counts (l.take k) + JV.count l[k] := by
  induction l generalizing k with
  | nil => simp at h
  | cons x r ih =>
    cases k with
    | zero => simp [JV.counts]
    | succ k => simp only [List.take_succ_cons, JV.counts, List.getElem_cons_succ]; rw [ih k (by simpa using h)]; omega
mutual
theorem JV.count_le : ∀ v : JV, v.count ≤ v.wt
  | .mk _ _ _ _ xs => by have := JV.counts_le xs; simp [JV.count, JV.wt]; omega
theorem JV.counts_le : ∀ l : List JV, JV.counts l ≤ JV.wts l
  | [] => by simp [JV.counts]
  | x :: r => by have := JV.count_le x; have := JV.counts_le r; simp [JV.counts, JV.wts]; omega
end
theorem JV.wts_take (l : List JV) (k : Nat) : JV.wts (l.take k) ≤ JV.wts l := by
  induction l generalizing k with
  | nil => simp
  | cons x r ih => cases k with
    | zero => simp [JV.wts]
    | succ k => have := ih k; simp [JV.wts]; omega

set_option maxHeartbeats 400000 in
theorem refCount (N : Nat) : ∀ (v : JV) (x : Value) (w : World), v.wt ≤ N → N ≤ 4294967296 → Rep w 0 w.heap.size v x →
    Calls Tryz.prog 90 #[x] w fun e w' => e = .returned (.int .i64 v.count) ∧ Below w.heap.size w w' := by
  induction N with
  | zero => intro v x w h; have := v.wt_pos; omega
  | succ N ih =>
    intro v x w hN hM hR
    obtain ⟨an, cn, ai, ci, rfl, h1, h2, h3, h4⟩ := hR.parts
    obtain ⟨b1, b2, b3, b4⟩ := v.wt_bd
    have IH := Lib.hid ih; clear ih
    have H4 := Lib.hid h4; clear h4 hR h3
    go_enter Tryz.func90, Tryz.ntmps90
    go_wp2
    go_loopw [3, 4] (fun s i wr => ∃ k : Nat, k ≤ v.items.length ∧ i = .int .i64 k ∧ s = .int .i64 (1 + JV.counts (v.items.take k) : Nat) ∧ Below (w.heap.size + 1) (w.alloc (.cells #[.int .u8 v.kind, .int .i64 v.n, .string v.t, .slice an v.names.length cn, .slice ai v.items.length ci] 30)) wr) (fun _ i _ => v.items.length - (intOf i).toNat)
    case atStart => exact ⟨0, Nat.zero_le _, rfl, by simp [JV.counts], Below.refl _ _⟩
    case round =>
      obtain ⟨k, hk, rfl, rfl, hbel⟩ := hrel
      have hc4 : wr.cell? ⟨w.heap.size, 4, none⟩ = some (.slice ai v.items.length ci) := by rw [hbel.cell (by simp)]; go_simp
      have hw : Below w.heap.size w wr := ((Below.refl _ _).alloc (Nat.le_refl _) _).trans (hbel.mono (by omega))
      have hz : w.heap.size < wr.heap.size := by have := hbel.size; simp at this; omega
      have HB := Lib.hid hbel; clear hbel
      by_cases hlt : k < v.items.length
      · obtain ⟨b, off, c0, c1, c2, c3, c4, rfl, _, hb, e0, e1, e2, e3, e4, hrep⟩ := (H4.out.below hw (Nat.le_refl _) (Nat.le_refl _) hw.size).at k hlt
        have hcnt := JV.counts_le (v.items.take k)
        have hcnt2 := JV.wts_take v.items k
        have hk1 := JV.wts_get v.items k hlt
        have hk2 := JV.count_le v.items[k]
        have HS := Lib.hid (JV.counts_take v.items k hlt)
        have HW := Lib.hid hw; clear hw
        have HR := Lib.hid hrep; clear hrep
        go_wp2_with fail
        refine (IH.out v.items[k] _ _ (by omega) (by omega) HR.out).mono ?_
        rintro e w1 ⟨rfl, hb1⟩
        have HB1 := Lib.hid hb1; clear hb1
        go_wp2
        go_roundw
        case rel => exact ⟨k + 1, by omega, by go_num, by rw [HS.out]; go_num, HB.out.trans (HB1.out.mono (by omega))⟩
        case measure => simp [intOf]; omega
      · obtain rfl : k = v.items.length := by omega
        have HW := Lib.hid hw; clear hw
        go_wp2
        go_ret
        refine ⟨ret_int ?_, HW.out⟩
        rw [List.take_length]; cases v; rfl

end Go.Proofs.YtgghgcilpfdbjaaGreatDoor

namespace Go.Proofs.YtgghgcilpfdbjaaGreatDoor
open Go.RowKit

mutual
def JV.partB : JV → Bool
  | .mk k n t ns xs => properB k n t ns xs.length && JV.partsB xs
def JV.partsB : List JV → Bool
  | [] => true
  | x :: r => JV.partB x && JV.partsB r
end
mutual
def JV.depth : JV → Nat
  | .mk k _ _ _ xs => if k ≠ 4 ∧ k ≠ 5 then 0 else JV.depths xs + 1
def JV.depths : List JV → Nat
  | [] => 0
  | x :: r => max (JV.depth x) (JV.depths r)
end
theorem JV.partB_eq (v : JV) : v.partB = (properB v.kind v.n v.t v.names v.items.length && JV.partsB v.items) := by cases v; rw [JV.partB]; rfl
theorem JV.depth_eq (v : JV) : v.depth = if v.kind ≠ 4 ∧ v.kind ≠ 5 then 0 else JV.depths v.items + 1 := by cases v; rw [JV.depth]; rfl
theorem JV.count_eq (v : JV) : v.count = 1 + JV.counts v.items := by cases v; rw [JV.count]; rfl
theorem JV.depths_take (l : List JV) (k : Nat) (h : k < l.length) : JV.depths (l.take (k + 1)) = max (JV.depths (l.take k)) (JV.depth l[k]) := by
  induction l generalizing k with
  | nil => simp at h
  | cons x r ih =>
    cases k with
    | zero => simp [JV.depths]
    | succ k => simp only [List.take_succ_cons, JV.depths, List.getElem_cons_succ]; rw [ih k (by simpa using h)]; omega
theorem JV.partsB_take (l : List JV) (k : Nat) (h : k < l.length) : JV.partsB (l.take (k + 1)) = (JV.partsB (l.take k) && JV.partB l[k]) := by
  induction l generalizing k with
  | nil => simp at h
  | cons x r ih =>
    cases k with
    | zero => simp [JV.partsB]
    | succ k => simp only [List.take_succ_cons, JV.partsB, List.getElem_cons_succ]; rw [ih k (by simpa using h), Bool.and_assoc]
theorem JV.partsB_bad (l : List JV) (k : Nat) (h : k < l.length) (hb : JV.partB l[k] = false) : JV.partsB l = false := by
  induction l generalizing k with
  | nil => simp at h
  | cons x r ih =>
    cases k with
    | zero => simp only [List.getElem_cons_zero] at hb; rw [JV.partsB, hb]; rfl
    | succ k => rw [JV.partsB, ih k (by simpa using h) (by simpa using hb), Bool.and_false]
mutual
theorem JV.depth_le : ∀ v : JV, v.depth ≤ v.wt
  | .mk k _ _ _ xs => by have := JV.depths_le xs; rw [JV.depth, JV.wt]; split <;> omega
theorem JV.depths_le : ∀ l : List JV, JV.depths l ≤ JV.wts l
  | [] => by simp [JV.depths]
  | x :: r => by have := JV.depth_le x; have := JV.depths_le r; rw [JV.depths, JV.wts]; omega
end
theorem JV.proper_leaf {v : JV} (h : properB v.kind v.n v.t v.names v.items.length = true) (h4 : v.kind ≠ 4) (h5 : v.kind ≠ 5) : v.items = [] := by
  unfold properB at h
  split at h
  · simp at h; exact h.2.2.1
  split at h
  · simp at h; exact h.2.2
  split at h
  · simp at h; exact h.1.2.2
  · first | (cases h; done) | (rw [if_neg h4, if_neg h5] at h; cases h)
theorem JV.part_leaf (v : JV) (h4 : v.kind ≠ 4) (h5 : v.kind ≠ 5) : v.partB = properB v.kind v.n v.t v.names v.items.length := by
  rw [JV.partB_eq]
  cases h : properB v.kind v.n v.t v.names v.items.length
  · rfl
  · rw [JV.proper_leaf h h4 h5]; rfl

mutual
theorem JV.may_iff : ∀ (v : JV) (d : Nat) (l : Int), 0 ≤ l → ((v.may d l).1 = true ↔ v.partB = true ∧ (v.count : Int) ≤ l ∧ v.depth ≤ d) ∧ ((v.may d l).1 = true → (v.may d l).2 = l - v.count)
  | .mk k n t ns xs, d, l, hl => by
    rw [JV.may, JV.partB, JV.count, JV.depth]
    by_cases h0 : l - 1 < 0
    · rw [if_pos h0]; simp; omega
    rw [if_neg h0]
    cases hp : properB k n t ns xs.length
    · simp
    simp only [Bool.true_eq_false, if_false, Bool.true_and]
    by_cases hk : k ≠ 4 ∧ k ≠ 5
    · have hx : xs = [] := JV.proper_leaf (v := .mk k n t ns xs) hp hk.1 hk.2
      subst hx
      rw [if_pos hk, if_pos hk]
      simp [JV.partsB, JV.counts]; omega
    · rw [if_neg hk, if_neg hk]
      by_cases hd : d = 0
      · rw [if_pos hd]; simp; omega
      · rw [if_neg hd]
        obtain ⟨i1, i2⟩ := JV.mays_iff xs (d - 1) (l - 1) (by omega)
        refine ⟨?_, fun h => ?_⟩
        · rw [i1]; constructor
          · rintro ⟨a, b, c⟩; exact ⟨a, by push_cast; omega, by omega⟩
          · rintro ⟨a, b, c⟩; exact ⟨a, by push_cast at b; omega, by omega⟩
        · rw [i2 h]; push_cast; omega
theorem JV.mays_iff : ∀ (xs : List JV) (d : Nat) (l : Int), 0 ≤ l → ((JV.mays xs d l).1 = true ↔ JV.partsB xs = true ∧ (JV.counts xs : Int) ≤ l ∧ JV.depths xs ≤ d) ∧ ((JV.mays xs d l).1 = true → (JV.mays xs d l).2 = l - JV.counts xs)
  | [], d, l, hl => by simp [JV.mays, JV.partsB, JV.counts, JV.depths]; omega
  | x :: r, d, l, hl => by
    obtain ⟨a1, a2⟩ := JV.may_iff x d l hl
    rw [JV.mays, JV.partsB, JV.counts, JV.depths]
    cases h : (JV.may x d l).1
    · rw [h] at a1
      simp only [Bool.false_eq_true, if_false, false_iff, not_and, Bool.and_eq_true, false_implies, and_true] at a1 ⊢
      intro hp hc
      have := a1 hp.1 (by push_cast at hc; omega)
      omega
    · rw [if_pos rfl]
      have hb := (JV.may_bd x d l hl).2.2 h
      obtain ⟨c1, c2, c3⟩ := a1.1 h
      have e2 := a2 h
      obtain ⟨i1, i2⟩ := JV.mays_iff r d _ hb
      rw [i1, e2] 
      refine ⟨?_, fun hh => ?_⟩
      · rw [c1, Bool.true_and]; constructor
        · rintro ⟨a, b, c⟩; exact ⟨a, by push_cast; omega, by omega⟩
        · rintro ⟨a, b, c⟩; exact ⟨a, by push_cast at b; omega, by omega⟩
      · have hh' : (JV.mays r d (JV.may x d l).2).1 = true := by rw [e2]; exact i1.2 (by rw [e2]; exact hh) |> fun z => by rwa [e2] at z
        have := i2 hh'
        rw [e2] at this
        rw [this]; push_cast; omega
end
theorem JV.mayB_iff (v : JV) : v.mayB = (v.partB && decide (v.count ≤ 8192) && decide (v.depth ≤ 12)) := by
  unfold JV.mayB
  rw [Bool.eq_iff_iff, (JV.may_iff v 12 8192 (by omega)).1]
  simp only [Bool.and_eq_true, decide_eq_true_eq]
  constructor
  · rintro ⟨a, b, c⟩; exact ⟨⟨a, by omega⟩, c⟩
  · rintro ⟨⟨a, b⟩, c⟩; exact ⟨a, by omega, c⟩

end Go.Proofs.YtgghgcilpfdbjaaGreatDoor

namespace Go.Proofs.YtgghgcilpfdbjaaGreatDoor
open Go.RowKit

def hashLoop : List ByteArray → List JV → List Key2 → List Key2 × Int
  | n :: ns, x :: xs, acc => if roleOk n.data.toList = false then ([], 3) else if x.kind ≠ 3 then ([], 10) else if pubOk x.t.data.toList = false then ([], 3) else hashLoop ns xs (acc ++ [(n, x.t)])
  | _, _, acc => (acc, 0)
/-- The hashes of an object, and the error. -/
def hashesOfJ (v : JV) : List Key2 × Int :=
  if v.mayB = false then ([], 3) else if v.kind ≠ 5 then ([], 10) else if 4 < v.names.length then ([], 5) else if v.names.length = 0 then ([], 4) else hashLoop v.names v.items []
theorem hashLoop_at {ns : List ByteArray} {xs : List JV} {acc : List Key2} (k : Nat) (h1 : k < ns.length) (h2 : k < xs.length) :
    hashLoop (ns.drop k) (xs.drop k) acc = if roleOk ns[k].data.toList = false then ([], 3) else if xs[k].kind ≠ 3 then ([], 10) else if pubOk xs[k].t.data.toList = false then ([], 3) else hashLoop (ns.drop (k + 1)) (xs.drop (k + 1)) (acc ++ [(ns[k], xs[k].t)]) := by
  rw [List.drop_eq_getElem_cons h1, List.drop_eq_getElem_cons h2]; rfl
theorem hashLoop_end {ns : List ByteArray} {xs : List JV} {acc : List Key2} (k : Nat) (h1 : ns.length ≤ k) : hashLoop (ns.drop k) (xs.drop k) acc = (acc, 0) := by
  rw [List.drop_eq_nil_of_le h1]; rfl
/-- The hashes of the object of hashes are these. -/
theorem hashLoop_back : ∀ (l acc : List Key2), (∀ k ∈ l, roleOk k.1.data.toList = true ∧ pubOk k.2.data.toList = true) → hashLoop (l.map (·.1)) (l.map fun k => txtJ k.2) acc = (acc ++ l, 0)
  | [], acc, _ => by simp [hashLoop]
  | k :: r, acc, h => by
    obtain ⟨h1, h2⟩ := h k (List.mem_cons_self ..)
    simp only [List.map_cons, hashLoop]
    rw [if_neg (by rw [h1]; decide), if_neg (by simp [txtJ, JV.kind]), if_neg (by show ¬ pubOk k.2.data.toList = false; rw [h2]; decide)]
    rw [hashLoop_back r _ fun q hq => h q (List.mem_cons_of_mem _ hq)]
    show (acc ++ [(k.1, (txtJ k.2).t)] ++ r, (0 : Int)) = _
    simp [txtJ, JV.t]
theorem wts_item : ∀ (l : List JV) (k : Nat) (h : k < l.length), l[k].wt ≤ JV.wts l
  | x :: r, 0, _ => by simp only [JV.wts, List.getElem_cons_zero]; omega
  | x :: r, k + 1, h => by
    have := wts_item r k (by simpa using h)
    simp only [JV.wts, List.getElem_cons_succ]; omega
end Go.Proofs.YtgghgcilpfdbjaaGreatDoor

namespace Go.Proofs.YtgghgcilpfdbjaaGreatDoor
open Go.RowKit

def hasSt (v : JV) (st : PS) : List Key2 × PS := if pickHas v hasN st then ((hashesOfJ (pickObj v hasN 4 st).1).1, (pickObj v hasN 4 st).2.fail (hashesOfJ (pickObj v hasN 4 st).1).2) else ([], st)
def lenSt (v : JV) (st : PS) : Int × PS := if pickHas v lenN st then pickNum v lenN 0 1099511627776 st else (-1, st)
/-- The pin of a file, of a picker's value. -/
def pinOfK (f : ByteArray) (v : JV) : PinV × Int :=
  let a := pickNum v verN 1 1099511627776 ⟨[], 0⟩
  let b := lenSt v a.2
  let c := hasSt v b.2
  if pickDone v c.2 ≠ 0 then (pinZ, pickDone v c.2) else (⟨f, a.1, b.1, c.1⟩, 0)
theorem pinOfK_eq (f : ByteArray) (v : JV) : pinOfK f v = if pickDone v (hasSt v (lenSt v (pickNum v verN 1 1099511627776 ⟨[], 0⟩).2).2).2 ≠ 0 then (pinZ, pickDone v (hasSt v (lenSt v (pickNum v verN 1 1099511627776 ⟨[], 0⟩).2).2).2) else (⟨f, (pickNum v verN 1 1099511627776 ⟨[], 0⟩).1, (lenSt v (pickNum v verN 1 1099511627776 ⟨[], 0⟩).2).1, (hasSt v (lenSt v (pickNum v verN 1 1099511627776 ⟨[], 0⟩).2).2).1⟩, 0) := rfl
/-- What PinOf tells of an object of which a picker holds one that C admits. -/
def PinOfR (C : JV → Prop) (f : ByteArray) (v : JV) (r : PinV × Int) : Prop :=
  (((roleOf f).isNone || !v.mayB) = true ∧ r = (pinZ, 3)) ∨ (((roleOf f).isNone || !v.mayB) = false ∧ ∃ u, C u ∧ r = pinOfK f u)
theorem lookL_wt : ∀ {ns : List ByteArray} {xs : List JV} {y : ByteArray} {x : JV}, lookL ns xs y = some x → x.wt ≤ JV.wts xs
  | n :: ns, z :: xs, y, x, h => by
    rw [lookL] at h
    simp only [JV.wts]
    split at h
    · injection h with h; subst h; omega
    · have := lookL_wt h; omega
theorem pickObj_wt {v : JV} {y : ByteArray} {most : Nat} {st : PS} (h : v.wt ≤ 4294967296) : (pickObj v y most st).1.wt ≤ 4294967296 := by
  have hz : zeroJ.wt ≤ 4294967296 := by decide
  have h2 := v.wt_bd
  unfold pickObj
  split
  · exact hz
  · split
    · exact hz
    · rename_i it hit
      have := lookL_wt (show lookL v.names v.items y = some it from hit)
      split
      · exact hz
      · split
        · exact hz
        · show it.wt ≤ _; omega
theorem pickObj_asked {v : JV} {y : ByteArray} {most : Nat} {st : PS} : (pickObj v y most st).2.asked.length ≤ st.asked.length + 1 := by
  unfold pickObj
  split
  · simp
  split
  · simp
  split
  · simp
  split <;> simp
theorem names_wt {v : JV} (h : v.wt ≤ 4294967296) : ∀ i (hi : i < v.names.length), v.names[i].size ≤ 4294967296 := fun i hi => by
  have h1 := v.wt_eq
  have : ∀ (l : List ByteArray) (i : Nat) (hi : i < l.length), l[i].size ≤ bytesSum l := by
    intro l
    induction l with
    | nil => intro i hi; simp at hi
    | cons a r ih =>
      intro i hi
      rcases i with _ | i
      · simp [bytesSum]; omega
      · have := ih i (by simpa using hi)
        simp [bytesSum]; omega
  have := this v.names i hi
  omega
end Go.Proofs.YtgghgcilpfdbjaaGreatDoor
