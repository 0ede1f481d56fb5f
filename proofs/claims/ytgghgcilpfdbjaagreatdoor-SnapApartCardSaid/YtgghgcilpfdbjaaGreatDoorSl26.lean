/- Contracts at the example's own data, for legatelaw23.awake. -/
import Derived.Test.YtgghgcilpfdbjaaGreatDoorSl22
import Derived.Test.YtgghgcilpfdbjaaGreatDoorSl25
import Derived.Test.YtgghgcilpfdbjaaGreatDoorSl09
import Derived.Test.YtgghgcilpfdbjaaGreatDoorSl17

namespace Go.Proofs.YtgghgcilpfdbjaaGreatDoor
open Go.RowKit Go.Shelf Go.Sort

theorem encP_len (p : PinV) : (encP p).length = 4 := rfl
theorem flatP_get (l : List PinV) (i c : Nat) (hi : i < l.length) (hc : c < 4) : (l.flatMap encP)[i * 4 + c]? = some ((encP l[i])[c]'(by rw [encP_len]; exact hc)) := by
  induction l generalizing i with
  | nil => simp at hi
  | cons v r ih =>
    rw [List.flatMap_cons]
    rcases i with _ | i
    · rw [List.getElem?_append_left (by rw [encP_len]; omega)]
      simp
    · rw [List.getElem?_append_right (by rw [encP_len]; omega), encP_len]
      have := ih i (by simpa using hi)
      rw [show (i + 1) * 4 + c - 4 = i * 4 + c by omega]
      simpa using this
/-- A row of pins of the call's own, without hashes, as pins lie. -/
theorem owns_pins {W0 : Nat} {w : World} {a : Option Addr} {c : Nat} {l : List PinV} (h : w.ownsRow W0 36 4 (.slice a l.length c) l.length (l.flatMap encP)) (hz : ∀ p ∈ l, p.hs = []) : PinsAt w W0 w.heap.size a l := by
  have ho := h
  rcases h.2 with ⟨hv, h0⟩ | ⟨g, cap, cur, hv, hg, hh, hc, hm, hs, ht⟩
  · exact .inl (List.eq_nil_of_length_eq_zero h0)
  · simp only [Value.slice.injEq] at hv
    obtain ⟨rfl, -, rfl⟩ := hv
    refine .inr ⟨g, 0, rfl, hg, heap_lt hh, fun i hi => ?_⟩
    have cell : ∀ q (hq : q < 4), w.cell? ⟨g, 0 + i * 4 + q, none⟩ = some ((encP l[i])[q]'(by rw [encP_len]; exact hq)) := fun q hq => by
      have e : (⟨g, 0, none⟩ : Addr).add (i * 4 + q) = ⟨g, i * 4 + q, none⟩ := by unfold Addr.add; split <;> simp_all
      have := ho.cells (g := g) rfl _ _ (flatP_get l i q hi hq)
      rw [e] at this
      rw [show 0 + i * 4 + q = i * 4 + q by omega]; exact this
    have hn : l[i].hs = [] := hz _ (List.getElem_mem hi)
    refine ⟨cell 0 (by decide), cell 1 (by decide), cell 2 (by decide), none, 0, ?_, ?_, ?_⟩
    · rw [hn]; exact cell 3 (by decide)
    · rw [hn]; simp
    · rw [hn]; exact .inl rfl
theorem awOf0 (x : Value) (w : World) (lo : Nat) (hlo : 0 < lo) (hT : TabW w) (hR : Rep w lo w.heap.size (snapO snpN nineN exJ 1) x) :
    Calls Tryz.prog 34 #[x] w fun e w' => ∃ a c, e = .returned (.tuple #[.agg #[.int .i64 1, .int .i64 9, .slice a 1 c], .int .i64 0]) ∧ PinsAt w' w.heap.size w'.heap.size a [pinE] ∧ Below w.heap.size w w' := by
  refine (snapOf _ x w lo w.heap.size ex_wt0 hlo (Nat.le_refl _) hR ex_may0 rfl hT ex_meta0).mono ?_
  rintro e w' ⟨a, c, rfl, ho, hb⟩
  have e0 : snapOfJ (snapO snpN nineN exJ 1) = (⟨1, 9, [pinE]⟩, 0) := sn_0
  rw [e0] at ho ⊢
  exact ⟨a, c, rfl, owns_pins ho (fun p hp => by simp at hp; subst hp; rfl), hb⟩
theorem awOf (v : JV) (er : Int) (x : Value) (w : World) (lo : Nat) (hlo : 0 < lo) (hT : TabW w) (hw : v.wt ≤ 4294967296) (hm : v.mayB = true) (hk : v.kind = 5) (hM : SnapMeta v) (hz : snapOfJ v = (snapZ, er)) (hR : Rep w lo w.heap.size v x) :
    Calls Tryz.prog 34 #[x] w fun e w' => ∃ a c, e = .returned (.tuple #[.agg #[.int .i64 0, .int .i64 0, .slice a 0 c], .int .i64 er]) ∧ Below w.heap.size w w' := by
  refine (snapOf _ x w lo w.heap.size hw hlo (Nat.le_refl _) hR hm hk hT hM).mono ?_
  rintro e w' ⟨a, c, rfl, ho, hb⟩
  rw [hz] at ho ⊢
  exact ⟨a, c, rfl, hb⟩
theorem ex_made : PinsMade [pinE] := fun p hp ha hc w _ => by
  simp only [List.mem_singleton] at hp
  subst hp
  exact snapPinValue aJsN 2 7 ha hc w (by decide) sn_may.2
theorem awVal (a : Option Addr) (c : Nat) (w : World) (hP : PinsAt w 0 w.heap.size a [pinE]) (hT : TabW w) (hP10 : Pow10 w) :
    Calls Tryz.prog 15 #[.agg #[.int .i64 1, .int .i64 9, .slice a 1 c]] w fun e w' => ∃ an cn ai ci, e = .returned (.tuple #[.agg #[.int .u8 5, .int .i64 0, .string { data := #[] }, .slice an 4 cn, .slice ai 4 ci], .int .i64 0]) ∧
      Rep w' w.heap.size w'.heap.size (snapO snpN nineN exJ 1) (.agg #[.int .u8 5, .int .i64 0, .string { data := #[] }, .slice an 4 cn, .slice ai 4 ci]) ∧ Below w.heap.size w w' := by
  refine (snapValue 1 9 [pinE] a c w hP (fun p hp => by simp only [List.mem_singleton] at hp; subst hp; exact ex_fits) hT hP10 sn_may.1 ex_made (fun p hp => by simp only [List.mem_singleton] at hp; subst hp; exact ex_wtP.1) ex_wtP.2).mono ?_
  rintro e w' ⟨an, cn, ai, ci, rfl, hr, hb⟩
  have e0 : snapJ ⟨1, 9, [pinE]⟩ = snapO snpN nineN exJ 1 := sn_j
  rw [e0] at hr
  exact ⟨an, cn, ai, ci, rfl, hr, hb⟩
theorem awPinA (a : Option Addr) (c : Nat) (w : World) (hP : PinsAt w 0 w.heap.size a [pinE]) :
    Calls Tryz.prog 17 #[.agg #[.int .i64 1, .int .i64 9, .slice a 1 c], .string { data := #[97] }] w fun e w' => ∃ ha hc, e = .returned (.tuple #[.agg #[.string { data := #[97, 46, 106, 115, 111, 110] }, .int .i64 2, .int .i64 7, .slice ha 0 hc], .bool true]) ∧ Below w.heap.size w w' := by
  refine (snapPin 1 9 [pinE] { data := #[97] } a c w hP (by decide) (by decide) (fun p hp => by simp only [List.mem_singleton] at hp; subst hp; decide)).mono ?_
  rintro e w' ⟨ha, hc, rfl, hk, hb⟩
  rw [ex_pin.1] at hk ⊢
  exact ⟨ha, hc, rfl, hb⟩
theorem awPinB (a : Option Addr) (c : Nat) (w : World) (hP : PinsAt w 0 w.heap.size a [pinE]) :
    Calls Tryz.prog 17 #[.agg #[.int .i64 1, .int .i64 9, .slice a 1 c], .string { data := #[98] }] w fun e w' => ∃ ha hc, e = .returned (.tuple #[.agg #[.string { data := #[] }, .int .i64 0, .int .i64 0, .slice ha 0 hc], .bool false]) ∧ Below w.heap.size w w' := by
  refine (snapPin 1 9 [pinE] { data := #[98] } a c w hP (by decide) (by decide) (fun p hp => by simp only [List.mem_singleton] at hp; subst hp; decide)).mono ?_
  rintro e w' ⟨ha, hc, rfl, hk, hb⟩
  rw [ex_pin.2] at hk ⊢
  exact ⟨ha, hc, rfl, hb⟩
theorem awSame (a b : Option Addr) (c d : Nat) (w : World) (hA : PinsAt w 0 w.heap.size a [pinE]) (hB : PinsAt w 0 w.heap.size b [pinE]) :
    Calls Tryz.prog 24 #[.agg #[.int .i64 1, .int .i64 9, .slice a 1 c], .agg #[.int .i64 1, .int .i64 9, .slice b 1 d]] w fun r w' => r = .returned (.bool true) ∧ Below w.heap.size w w' :=
  ref23Same 1 9 [pinE] a b c d w hA hB (fun p hp => by simp only [List.mem_singleton] at hp; subst hp; exact ex_fits) (by decide)
theorem awSame0 (a b : Option Addr) (c d : Nat) (w : World) (hA : PinsAt w 0 w.heap.size a [pinE]) (hB : PinsAt w 0 w.heap.size b [pinE]) :
    Calls Tryz.prog 23 #[.agg #[.int .i64 1, .int .i64 9, .slice a 1 c], .agg #[.int .i64 1, .int .i64 9, .slice b 1 d]] w fun r w' => r = .returned (.bool true) ∧ Below w.heap.size w w' :=
  snapSame0 1 9 [pinE] a b c d w hA hB (fun p hp => by simp only [List.mem_singleton] at hp; subst hp; rfl) (by decide)
theorem awMay (a : Option Addr) (c : Nat) (w : World) (hP : PinsAt w 0 w.heap.size a [pinE]) (hT : TabW w) (hP10 : Pow10 w) :
    Calls Tryz.prog 21 #[.agg #[.int .i64 1, .int .i64 9, .slice a 1 c]] w fun r w' => r = .returned (.bool true) ∧ Below w.heap.size w w' := by
  have h := snapMay 1 9 [pinE] a c w hP (by decide) (fun p hp => by simp only [List.mem_singleton] at hp; subst hp; exact ex_fits) hT hP10
  have e : maySnap ⟨1, 9, [pinE]⟩ = true := sn_may.1
  rw [e] at h
  exact h
theorem awPins (a b : Option Addr) (c d : Nat) (w : World) :
    Calls Tryz.prog 20 #[.agg #[.string { data := #[97, 46, 106, 115, 111, 110] }, .int .i64 2, .int .i64 7, .slice a 0 c], .agg #[.string { data := #[97, 46, 106, 115, 111, 110] }, .int .i64 2, .int .i64 7, .slice b 0 d]] w fun e w' => e = .returned (.bool true) ∧ Below w.heap.size w w' :=
  ref23SamePin { data := #[97, 46, 106, 115, 111, 110] } 2 7 [] a b c d w (.inl rfl) (.inl rfl) (by decide)
theorem awMayPin (a : Option Addr) (c : Nat) (w : World) :
    Calls Tryz.prog 31 #[.agg #[.string { data := #[97, 46, 106, 115, 111, 110] }, .int .i64 2, .int .i64 7, .slice a 0 c]] w fun e w' => e = .returned (.bool true) ∧ Below w.heap.size w w' := by
  have h := snapMayPin aJsN 2 7 [] a c w (.inl rfl) (by decide) (by decide) (by simp)
  have e : mayPin ⟨aJsN, 2, 7, []⟩ = true := sn_may.2
  rw [e] at h
  exact h
theorem awRefSame (x y : Value) (w : World) (lo : Nat) (hx : Rep w lo w.heap.size (snapO snpN nineN exJ 1) x) (hy : Rep w lo w.heap.size (snapO snpN nineN exJ 1) y) :
    Calls Tryz.prog 19 #[x, y] w fun e w' => e = .returned (.bool true) ∧ Below w.heap.size w w' := by
  have h := refSame 4294967296 _ _ x y lo w.heap.size w ex_wt0 ex_wt0 (Nat.le_refl _) (Nat.le_refl _) hx hy
  rw [(JV.sameB_iff _ _).2 rfl] at h
  exact h
end Go.Proofs.YtgghgcilpfdbjaaGreatDoor
