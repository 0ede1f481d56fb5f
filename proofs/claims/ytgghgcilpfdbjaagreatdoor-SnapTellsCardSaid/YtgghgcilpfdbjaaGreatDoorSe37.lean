/- The law SnapTells: the call returns true. Printed by gentells.py. -/
import Derived.Test.YtgghgcilpfdbjaaGreatDoorSe28
import Derived.Test.YtgghgcilpfdbjaaGreatDoorSe30
import Derived.Test.YtgghgcilpfdbjaaGreatDoorSe32
import Derived.Test.YtgghgcilpfdbjaaGreatDoorSe36
import Derived.Test.YtgghgcilpfdbjaaGreatDoorSe20
import Derived.Test.YtgghgcilpfdbjaaGreatDoorSe21
import Derived.Test.YtgghgcilpfdbjaaGreatDoorSe31
import Derived.Test.YtgghgcilpfdbjaaGreatDoorSe17
import Derived.Test.YtgghgcilpfdbjaaGreatDoorSe01
import Derived.Test.YtgghgcilpfdbjaaGreatDoorSe02

namespace Go.Proofs.YtgghgcilpfdbjaaGreatDoor
open Go.RowKit Go.Shelf Go.Sort

/-- The value, and the error, that Value tells of a snapshot. -/
def valR (s : SnapV) : JV × Int := if maySnap s then (snapJ s, 0) else (zeroJ, 3)
def TellV (r : JV × Int) (w : World) (e : Ending) (w' : World) : Prop :=
  ∃ an cn ai ci, e = .returned (.tuple #[.agg #[.int .u8 r.1.kind, .int .i64 r.1.n, .string r.1.t, .slice an r.1.names.length cn, .slice ai r.1.items.length ci], .int .i64 r.2]) ∧
    Rep w' w.heap.size w'.heap.size r.1 (.agg #[.int .u8 r.1.kind, .int .i64 r.1.n, .string r.1.t, .slice an r.1.names.length cn, .slice ai r.1.items.length ci]) ∧ Below w.heap.size w w'
theorem tellV_good {s : SnapV} (h : maySnap s = true) {w : World} {e : Ending} {w' : World} (hp : SnapValPost s w e w') : TellV (valR s) w e w' := by
  unfold valR
  rw [if_pos h]
  obtain ⟨an, cn, ai, ci, h1, h2, h3⟩ := hp
  exact ⟨an, cn, ai, ci, h1, h2, h3⟩
theorem tellV_bad {s : SnapV} (h : maySnap s = false) {w : World} {e : Ending} {w' : World} (hp : e = .returned (.tuple #[.agg #[.int .u8 0, .int .i64 0, .string { data := #[] }, .slice none 0 0, .slice none 0 0], .int .i64 3]) ∧ Below w.heap.size w w') : TellV (valR s) w e w' := by
  unfold valR
  rw [if_neg (by rw [h]; decide)]
  exact ⟨none, 0, none, 0, hp.1, rep_zeroJW _ _ _, hp.2⟩
theorem valR_wt {s : SnapV} : (valR s).1.wt ≤ 4294967296 := by
  unfold valR
  split
  · rename_i h
    obtain ⟨_, he, hl, ha, _⟩ := maySnap_parts.1 h
    have h1 := metaJ_wt ha hl
    have h2 := dateL_short s.exp.toNat (by omega)
    have h3 : ((⟨(dateL s.exp.toNat).toArray⟩ : ByteArray)).size ≤ 1000 := by simpa [ByteArray.size] using h2
    show (snapJ s).wt ≤ _
    have e1 : (snapJ s).wt = 1 + 0 + bytesSum [typN, expN, metN, verN] + ((txtJ snpN).wt + ((txtJ ⟨(dateL s.exp.toNat).toArray⟩).wt + ((metaJ s.pins).wt + ((numJ s.ver).wt + 0)))) := by
      rw [JV.wt_eq]
      show 1 + 0 + bytesSum [typN, expN, metN, verN] + JV.wts [txtJ snpN, txtJ ⟨(dateL s.exp.toNat).toArray⟩, metaJ s.pins, numJ s.ver] = _
      simp only [JV.wts]
    rw [e1]
    have e2 : (txtJ snpN).wt ≤ 100 := by decide
    have e3 : (txtJ ⟨(dateL s.exp.toNat).toArray⟩).wt ≤ 2000 := by simp [txtJ, JV.wt, JV.wts, bytesSum]; omega
    have e4 : (numJ s.ver).wt ≤ 10 := by simp [numJ, JV.wt, JV.wts, bytesSum, ByteArray.size]
    have e5 : bytesSum [typN, expN, metN, verN] ≤ 100 := by decide
    omega
  · decide
theorem tells_bool {T : Type} {x y : T} {w : World} {e : Ending} {w' : World} {b : Bool} (hb : b = true ↔ x = y) (h : TellsEq x y w e w') : e = .returned (.bool b) ∧ Below w.heap.size w w' := by
  obtain ⟨b', h1, h2, h3⟩ := h
  have : b' = b := by rw [Bool.eq_iff_iff, h2, hb]
  exact ⟨by rw [h1, this], h3⟩

set_option maxHeartbeats 8000000 in
set_option maxRecDepth 100000 in
theorem lawTells (v e : Int) (l : List PinV) (a : Option Addr) (c : Nat) (vv e2 : Int) (m : List PinV) (b : Option Addr) (dd : Nat) (role : ByteArray) (w : World) (hP : PinsAt w 0 w.heap.size a l) (hl : l.length ≤ 9223372036854775807) (hf : ∀ p ∈ l, PinFits p) (hPm : PinsAt w 0 w.heap.size b m) (hlm : m.length ≤ 9223372036854775807) (hfm : ∀ p ∈ m, PinFits p) (hT : TabW w) (hP10 : Pow10 w) :
    Calls Tryz.prog 3 #[.agg #[.int .i64 v, .int .i64 e, .slice a l.length c], .agg #[.int .i64 vv, .int .i64 e2, .slice b m.length dd], .string role] w fun r w' => r = .returned (.bool true) ∧ Below w.heap.size w w' := by
  obtain ⟨W2, hW2⟩ : ∃ W2, W2 = (w.alloc (.cells #[.int .i64 v, .int .i64 e, .slice a l.length c] 24)).alloc (.cells #[.int .i64 vv, .int .i64 e2, .slice b m.length dd] 24) := ⟨_, rfl⟩
  have hb2 : Below w.heap.size w W2 := by rw [hW2]; exact ((Below.refl _ _).alloc (Nat.le_refl _) _).alloc (by simp) _
  have hz2 : W2.heap.size = w.heap.size + 2 := by rw [hW2]; simp
  have hz1 : (w.alloc (.cells #[.int .i64 v, .int .i64 e, .slice a l.length c] 24)).heap.size = w.heap.size + 1 := by simp
  have hx : W2.heap[w.heap.size]? = some (.cells #[.int .i64 v, .int .i64 e, .slice a l.length c] 24 (0, 0)) := by rw [hW2, Below.heap_alloc _ _ _ (by simp)]; exact heap_alloc_new w _
  have hy : W2.heap[w.heap.size + 1]? = some (.cells #[.int .i64 vv, .int .i64 e2, .slice b m.length dd] 24 (0, 0)) := by rw [hW2, ← hz1]; exact heap_alloc_new _ _
  obtain ⟨W3, hW3⟩ : ∃ W3, W3 = W2.alloc (.cells #[.int .i64 v, .int .i64 e, .slice a l.length c, .int .i64 vv, .int .i64 e2, .slice b m.length dd] 24) := ⟨_, rfl⟩
  have hb3 : Below W2.heap.size W2 W3 := by rw [hW3]; exact (Below.refl _ _).alloc (Nat.le_refl _) _
  have hx3 : W3.heap[W2.heap.size]? = some (.cells #[.int .i64 v, .int .i64 e, .slice a l.length c, .int .i64 vv, .int .i64 e2, .slice b m.length dd] 24 (0, 0)) := by rw [hW3]; exact heap_alloc_new W2 _
  have HPA := Lib.hid (show ∀ w' : World, Below W2.heap.size W2 w' → PinsAt w' 0 w'.heap.size a l from fun w' h => hP.below (hb2.trans (h.mono hb2.size)) (Nat.le_refl _) (Nat.zero_le _) (Nat.le_trans hb2.size h.size))
  have HPM := Lib.hid (show ∀ w' : World, Below W2.heap.size W2 w' → PinsAt w' 0 w'.heap.size b m from fun w' h => hPm.below (hb2.trans (h.mono hb2.size)) (Nat.le_refl _) (Nat.zero_le _) (Nat.le_trans hb2.size h.size))
  have HTW := Lib.hid (show ∀ w' : World, Below W2.heap.size W2 w' → TabW w' ∧ Pow10 w' from fun w' h => ⟨hT.below (hb2.trans (h.mono hb2.size)), hP10.below (hb2.trans (h.mono hb2.size))⟩)
  have HC := Lib.hid (show ∀ w' : World, Below W2.heap.size W2 w' → w'.cell? ⟨w.heap.size, 0, none⟩ = some (.int .i64 v) ∧ w'.cell? ⟨w.heap.size, 1, none⟩ = some (.int .i64 e) ∧ w'.cell? ⟨w.heap.size, 2, none⟩ = some (.slice a l.length c) from fun w' h => by
    have x := (h.block _ (heap_lt hx)).trans hx
    exact ⟨box_cell x rfl, box_cell x rfl, box_cell x rfl⟩)
  have HD := Lib.hid (show ∀ w' : World, Below W2.heap.size W2 w' → w'.cell? ⟨w.heap.size + 1, 0, none⟩ = some (.int .i64 vv) ∧ w'.cell? ⟨w.heap.size + 1, 1, none⟩ = some (.int .i64 e2) ∧ w'.cell? ⟨w.heap.size + 1, 2, none⟩ = some (.slice b m.length dd) from fun w' h => by
    have x := (h.block _ (heap_lt hy)).trans hy
    exact ⟨box_cell x rfl, box_cell x rfl, box_cell x rfl⟩)
  have HLG := Lib.hid (lawLong2 l m v e vv e2 a b c dd W2.heap.size 2 W3 (HPA.out W3 hb3) (HPM.out W3 hb3) hf hfm hl hlm hx3)
  have HAW := Lib.hid (show ∀ w' : World, Below W2.heap.size W2 w' → Calls Tryz.prog 14 #[] w' (fun e w'' => e = .returned (.bool true) ∧ Below w'.heap.size w' w'') from fun w' h => lawAwake23 w' (HTW.out w' h).1 (HTW.out w' h).2)
  have HF := Lib.hid hf
  have HFM := Lib.hid hfm
  have HB2 := Lib.hid hb2
  have HB3 := Lib.hid hb3
  have HW3 := Lib.hid hW3
  have HW2 := Lib.hid hW2
  have HZ2 := Lib.hid hz2
  clear hW2 hW3 hb2 hb3 hx hx3 hP hT hP10 hf hPm hfm hy hz1 hz2
  obtain ⟨q0, q1, q2⟩ := HC.out W2 (Below.refl _ _)
  obtain ⟨p0, p1, p2⟩ := HD.out W2 (Below.refl _ _)
  go_enter Tryz.func3, Tryz.ntmps3
  go_upto_region 1 with fail
  rw [← HW2.out]
  go_wp2_with fail
  rw [← HW3.out]
  refine HLG.out.mono ?_
  clear HLG q0 q1 q2 p0 p1 p2 HW2 HW3
  rintro r w4 ⟨bl, rfl, hsh, hb4⟩
  have HB4 := Lib.hid (HB3.out.trans (hb4.mono HB3.out.size))
  have HSH := Lib.hid hsh
  clear hsh hb4
  by_cases hlong : bl = true ∨ 1000 < role.size
  · cases bl with
    | true =>
      clear hlong
      go_wp2_with fail
      refine (HAW.out w4 HB4.out).mono ?_
      rintro r w5 ⟨rfl, hb5⟩
      have HB5 := Lib.hid (HB4.out.trans (hb5.mono HB4.out.size))
      clear hb5
      go_wp2
      go_ret
      exact ⟨rfl, HB2.out.trans (HB5.out.mono HB2.out.size)⟩
    | false =>
      have hr : 1000 < role.size := hlong.resolve_left (by decide)
      have hdr : decide ((1000 : Int) < role.size) = true := by simp; omega
      clear hlong hr
      go_wp2_with fail
      refine (HAW.out w4 HB4.out).mono ?_
      rintro r w5 ⟨rfl, hb5⟩
      have HB5 := Lib.hid (HB4.out.trans (hb5.mono HB4.out.size))
      clear hb5
      go_wp2
      go_ret
      exact ⟨rfl, HB2.out.trans (HB5.out.mono HB2.out.size)⟩
  · obtain rfl : bl = false := by cases bl with | true => exact absurd (.inl rfl) hlong | false => rfl
    have hrl : role.size ≤ 1000 := Nat.le_of_not_lt fun h => hlong (.inr h)
    have hdr : decide ((1000 : Int) < role.size) = false := by simp; omega
    have HRL := Lib.hid hrl
    obtain ⟨⟨hl6, hps⟩, -⟩ := HSH.out rfl
    have HPS := Lib.hid (show ∀ p ∈ l, p.hs.length ≤ 4294967296 from fun p hp => Nat.le_trans (hps p hp).2.1 (by decide))
    clear hlong hrl hps HSH HB3
    obtain ⟨q0, q1, q2⟩ := HC.out w4 HB4.out
    obtain ⟨r0, hr0⟩ : ∃ r0, r0 = valR ⟨v, e, l⟩ := ⟨_, rfl⟩
    have HSV := Lib.hid (show ∀ w' : World, Below W2.heap.size W2 w' → Calls Tryz.prog 15 #[.agg #[.int .i64 v, .int .i64 e, .slice a l.length c]] w' (TellV r0 w') ∧ Calls Tryz.prog 16 #[.agg #[.int .i64 v, .int .i64 e, .slice a l.length c]] w' (TellV r0 w') from fun w' h => by
      rw [hr0]
      cases hm : maySnap ⟨v, e, l⟩ with
      | true =>
        have hall : l.all mayPin = true := (maySnap_parts.1 hm).2.2.2.1
        have hl256 : l.length ≤ 256 := (maySnap_parts.1 hm).2.2.1
        exact ⟨(snapValue v e l a c w' (HPA.out w' h) HF.out (HTW.out w' h).1 (HTW.out w' h).2 hm (pins_made hall) (fun p hp => Nat.le_trans (pinJ_wt (List.all_eq_true.1 hall p hp)) (by decide)) (Nat.le_trans (metaJ_wt hall hl256) (by decide))).mono fun _ _ hp => tellV_good hm hp,
          (ref23Value v e l a c w' (HPA.out w' h) HF.out hm).mono fun _ _ hp => tellV_good hm hp⟩
      | false => exact ⟨(snapValueBad v e l a c w' (HPA.out w' h) hl HF.out (HTW.out w' h).1 (HTW.out w' h).2 hm).mono fun _ _ hp => tellV_bad hm hp, (ref23ValueBad v e l a c w' (HPA.out w' h) hl HF.out hm).mono fun _ _ hp => tellV_bad hm hp⟩)
    have hwt : r0.1.wt ≤ 4294967296 := by rw [hr0]; exact valR_wt
    obtain ⟨J, KE⟩ := r0
    have HWT := Lib.hid hwt
    clear hwt hr0
    go_wp2_with fail
    refine (HSV.out w4 HB4.out).1.mono ?_
    clear q0 q1 q2
    rintro r w5 ⟨fan, fcn, fai, fci, rfl, hr5, hb5⟩
    dsimp only at hr5 ⊢
    obtain ⟨W6, hW6⟩ : ∃ W6, W6 = w5.alloc (.cells #[.int .u8 J.kind, .int .i64 J.n, .string J.t, .slice fan J.names.length fcn, .slice fai J.items.length fci] 30) := ⟨_, rfl⟩
    have hb56 : Below w5.heap.size w5 W6 := by rw [hW6]; exact (Below.refl _ _).alloc (Nat.le_refl _) _
    have hx6 : W6.heap[w5.heap.size]? = some (.cells #[.int .u8 J.kind, .int .i64 J.n, .string J.t, .slice fan J.names.length fcn, .slice fai J.items.length fci] 30 (0, 0)) := by rw [hW6]; exact heap_alloc_new w5 _
    have HB6 := Lib.hid (HB4.out.trans ((hb5.trans (hb56.mono hb5.size)).mono HB4.out.size))
    have HR6 := Lib.hid (hr5.below (B := w5.heap.size) hb56 (Nat.le_refl _) (Nat.zero_le _) (Nat.le_of_lt (heap_lt hx6)))
    have HX6 := Lib.hid hx6
    have HW6 := Lib.hid hW6
    clear hr5 hb5 hb56 hx6 hW6
    obtain ⟨q0, q1, q2⟩ := HC.out W6 HB6.out
    go_upto_region 4 with fail
    rw [← HW6.out]
    go_wp2_with fail
    refine (HSV.out W6 HB6.out).2.mono ?_
    clear q0 q1 q2 HW6
    rintro r w7 ⟨gan, gcn, gai, gci, rfl, hr7, hb7⟩
    dsimp only at hr7 ⊢
    obtain ⟨W8, hW8⟩ : ∃ W8, W8 = w7.alloc (.cells #[.int .u8 J.kind, .int .i64 J.n, .string J.t, .slice gan J.names.length gcn, .slice gai J.items.length gci] 30) := ⟨_, rfl⟩
    have hb78 : Below w7.heap.size w7 W8 := by rw [hW8]; exact (Below.refl _ _).alloc (Nat.le_refl _) _
    have hx8 : W8.heap[w7.heap.size]? = some (.cells #[.int .u8 J.kind, .int .i64 J.n, .string J.t, .slice gan J.names.length gcn, .slice gai J.items.length gci] 30 (0, 0)) := by rw [hW8]; exact heap_alloc_new w7 _
    have HB68 := Lib.hid (hb7.trans (hb78.mono hb7.size))
    have HB8 := Lib.hid (HB6.out.trans (HB68.out.mono HB6.out.size))
    have HR8 := Lib.hid (hr7.below (B := w7.heap.size) hb78 (Nat.le_refl _) (Nat.zero_le _) (Nat.le_of_lt (heap_lt hx8)))
    have HX8 := Lib.hid hx8
    have HW8 := Lib.hid hW8
    clear hr7 hb7 hb78 hx8 hW8
    obtain ⟨q0, q1, q2⟩ := HC.out W8 HB8.out
    have HPN := Lib.hid (snapPin v e l role a c W8 (HPA.out W8 HB8.out) hl (Nat.le_trans HRL.out (by decide)) HPS.out)
    have HPR := Lib.hid (show ∀ w' : World, Below W2.heap.size W2 w' → Calls Tryz.prog 18 #[.agg #[.int .i64 v, .int .i64 e, .slice a l.length c], .string role] w' (PinPost l role w') from fun w' h => ref23Pin v e l role a c w' (HPA.out w' h) hl (Nat.le_trans HRL.out (by decide)))
    unfold PinPost at HPN HPR
    have hfp : ((pinOf l role).getD pinZ).hs.length ≤ 9223372036854775807 := by
      cases hp : pinOf l role with
      | none => exact Nat.zero_le _
      | some p =>
        have hin : p ∈ l := by
          unfold pinOf at hp
          split at hp
          · exact List.mem_of_find?_eq_some hp
          · cases hp
        exact Nat.le_trans (HPS.out p hin) (by decide)
    generalize (pinOf l role).getD pinZ = P at HPN HPR hfp
    generalize (pinOf l role).isSome = is at HPN HPR
    have HFP := Lib.hid hfp
    clear hfp
    go_upto_region 5 with fail
    rw [← HW8.out]
    go_wp2_with fail
    refine HPN.out.mono ?_
    clear q0 q1 q2 HW8 HPN
    rintro r w9 ⟨fha, fhc, rfl, hk9, hb9⟩
    obtain ⟨W10, hW10⟩ : ∃ W10, W10 = w9.alloc (.cells #[.string P.name, .int .i64 P.ver, .int .i64 P.len, .slice fha P.hs.length fhc] 36) := ⟨_, rfl⟩
    have hb910 : Below w9.heap.size w9 W10 := by rw [hW10]; exact (Below.refl _ _).alloc (Nat.le_refl _) _
    have hx10 : W10.heap[w9.heap.size]? = some (.cells #[.string P.name, .int .i64 P.ver, .int .i64 P.len, .slice fha P.hs.length fhc] 36 (0, 0)) := by rw [hW10]; exact heap_alloc_new w9 _
    have HB810 := Lib.hid (hb9.trans (hb910.mono hb9.size))
    have HB10 := Lib.hid (HB8.out.trans (HB810.out.mono HB8.out.size))
    have HK10 := Lib.hid (hk9.below hb910 (Nat.le_refl _) (Nat.le_refl _) hb910.size)
    have HX10 := Lib.hid hx10
    have HW10 := Lib.hid hW10
    clear hk9 hb9 hb910 hx10 hW10
    obtain ⟨q0, q1, q2⟩ := HC.out W10 HB10.out
    go_upto_region 6 with fail
    rw [← HW10.out]
    go_wp2_with fail
    refine (HPR.out W10 HB10.out).mono ?_
    clear q0 q1 q2 HW10 HPR
    rintro r w11 ⟨gha, ghc, rfl, hk11, hb11⟩
    obtain ⟨W12, hW12⟩ : ∃ W12, W12 = w11.alloc (.cells #[.string P.name, .int .i64 P.ver, .int .i64 P.len, .slice gha P.hs.length ghc] 36) := ⟨_, rfl⟩
    have hb1112 : Below w11.heap.size w11 W12 := by rw [hW12]; exact (Below.refl _ _).alloc (Nat.le_refl _) _
    have hx12 : W12.heap[w11.heap.size]? = some (.cells #[.string P.name, .int .i64 P.ver, .int .i64 P.len, .slice gha P.hs.length ghc] 36 (0, 0)) := by rw [hW12]; exact heap_alloc_new w11 _
    have HB1012 := Lib.hid (hb11.trans (hb1112.mono hb11.size))
    have HB12 := Lib.hid (HB10.out.trans (HB1012.out.mono HB10.out.size))
    have HK12 := Lib.hid (hk11.below hb1112 (Nat.le_refl _) (Nat.le_refl _) hb1112.size)
    have HX12 := Lib.hid hx12
    have HW12 := Lib.hid hW12
    clear hk11 hb11 hb1112 hx12 hW12
    have HCC := Lib.hid (show ∀ w' : World, Below W12.heap.size W12 w' → ((w'.cell? ⟨w.heap.size, 0, none⟩ = some (.int .i64 v) ∧ w'.cell? ⟨w.heap.size, 1, none⟩ = some (.int .i64 e) ∧ w'.cell? ⟨w.heap.size, 2, none⟩ = some (.slice a l.length c)) ∧ w'.cell? ⟨w.heap.size + 1, 0, none⟩ = some (.int .i64 vv) ∧ w'.cell? ⟨w.heap.size + 1, 1, none⟩ = some (.int .i64 e2) ∧ w'.cell? ⟨w.heap.size + 1, 2, none⟩ = some (.slice b m.length dd)) ∧ w'.heap[w5.heap.size]? = some (.cells #[.int .u8 J.kind, .int .i64 J.n, .string J.t, .slice fan J.names.length fcn, .slice fai J.items.length fci] 30 (0, 0)) ∧ w'.heap[w7.heap.size]? = some (.cells #[.int .u8 J.kind, .int .i64 J.n, .string J.t, .slice gan J.names.length gcn, .slice gai J.items.length gci] 30 (0, 0)) ∧ w'.heap[w9.heap.size]? = some (.cells #[.string P.name, .int .i64 P.ver, .int .i64 P.len, .slice fha P.hs.length fhc] 36 (0, 0)) ∧ w'.heap[w11.heap.size]? = some (.cells #[.string P.name, .int .i64 P.ver, .int .i64 P.len, .slice gha P.hs.length ghc] 36 (0, 0)) from fun w' h => by
      have hb := HB12.out.trans (h.mono HB12.out.size)
      have h10 := HB1012.out.trans (h.mono HB1012.out.size)
      have h8 := HB810.out.trans (h10.mono HB810.out.size)
      have h6 := HB68.out.trans (h8.mono HB68.out.size)
      exact ⟨⟨HC.out w' hb, HD.out w' hb⟩, (h6.block _ (heap_lt HX6.out)).trans HX6.out, (h8.block _ (heap_lt HX8.out)).trans HX8.out, (h10.block _ (heap_lt HX10.out)).trans HX10.out, (h.block _ (heap_lt HX12.out)).trans HX12.out⟩)
    have HBA := Lib.hid (show ∀ w' : World, Below W12.heap.size W12 w' → Below W2.heap.size W2 w' from fun w' h => HB12.out.trans (h.mono HB12.out.size))
    have HS1 := Lib.hid (show ∀ w' : World, Below W12.heap.size W12 w' → Calls Tryz.prog 19 #[.agg #[.int .u8 J.kind, .int .i64 J.n, .string J.t, .slice fan J.names.length fcn, .slice fai J.items.length fci], .agg #[.int .u8 J.kind, .int .i64 J.n, .string J.t, .slice gan J.names.length gcn, .slice gai J.items.length gci]] w' (fun e w'' => e = .returned (.bool true) ∧ Below w'.heap.size w' w'') from fun w' h => by
      have h10 := HB1012.out.trans (h.mono HB1012.out.size)
      have h8 := HB810.out.trans (h10.mono HB810.out.size)
      have h6 := HB68.out.trans (h8.mono HB68.out.size)
      have := refSame 4294967296 J J _ _ 0 w'.heap.size w' HWT.out HWT.out (Nat.le_refl _) (Nat.le_refl _) (HR6.out.below h6 (Nat.le_refl _) (Nat.le_refl 0) h6.size) (HR8.out.below h8 (Nat.le_refl _) (Nat.le_refl 0) h8.size)
      rw [(JV.sameB_iff J J).2 rfl] at this
      exact this)
    have HS2 := Lib.hid (show ∀ w' : World, Below W12.heap.size W12 w' → Calls Tryz.prog 20 #[.agg #[.string P.name, .int .i64 P.ver, .int .i64 P.len, .slice fha P.hs.length fhc], .agg #[.string P.name, .int .i64 P.ver, .int .i64 P.len, .slice gha P.hs.length ghc]] w' (fun e w'' => e = .returned (.bool true) ∧ Below w'.heap.size w' w'') from fun w' h => by
      have h10 := HB1012.out.trans (h.mono HB1012.out.size)
      exact (ref23SamePinG P.name P.ver P.len P.hs P.name P.ver P.len P.hs fha gha fhc ghc w' (HK10.out.below h10 (Nat.le_refl _) (Nat.le_refl _) h10.size) (HK12.out.below h (Nat.le_refl _) (Nat.le_refl _) h.size) HFP.out HFP.out).mono fun _ _ ht => tells_bool (by simp) ht)
    obtain ⟨mb, hmb⟩ : ∃ mb, mb = maySnap ⟨v, e, l⟩ := ⟨_, rfl⟩
    have HS3 := Lib.hid (show ∀ w' : World, Below W12.heap.size W12 w' → Calls Tryz.prog 21 #[.agg #[.int .i64 v, .int .i64 e, .slice a l.length c]] w' (fun e w'' => e = .returned (.bool mb) ∧ Below w'.heap.size w' w'') from fun w' h => by
      rw [hmb]; exact snapMay v e l a c w' (HPA.out w' (HBA.out w' h)) hl HF.out (HTW.out w' (HBA.out w' h)).1 (HTW.out w' (HBA.out w' h)).2)
    have HS4 := Lib.hid (show ∀ w' : World, Below W12.heap.size W12 w' → Calls Tryz.prog 22 #[.agg #[.int .i64 v, .int .i64 e, .slice a l.length c]] w' (fun e w'' => e = .returned (.bool mb) ∧ Below w'.heap.size w' w'') from fun w' h => by
      rw [hmb]; exact ref23May v e l a c w' (HPA.out w' (HBA.out w' h)) hl HF.out)
    obtain ⟨eb, heb⟩ : ∃ eb : Bool, eb = true ↔ SnapV.mk v e l = SnapV.mk vv e2 m := by
      by_cases h : SnapV.mk v e l = SnapV.mk vv e2 m
      · exact ⟨true, by simp [h]⟩
      · exact ⟨false, by simp [h]⟩
    have HS5 := Lib.hid (show ∀ w' : World, Below W12.heap.size W12 w' → Calls Tryz.prog 23 #[.agg #[.int .i64 v, .int .i64 e, .slice a l.length c], .agg #[.int .i64 vv, .int .i64 e2, .slice b m.length dd]] w' (fun e w'' => e = .returned (.bool eb) ∧ Below w'.heap.size w' w'') from fun w' h =>
      (snapSame v e l vv e2 m a b c dd w' (HPA.out w' (HBA.out w' h)) (HPM.out w' (HBA.out w' h)) HF.out HFM.out hl hlm).mono fun _ _ ht => tells_bool heb ht)
    have HS6 := Lib.hid (show ∀ w' : World, Below W12.heap.size W12 w' → Calls Tryz.prog 24 #[.agg #[.int .i64 v, .int .i64 e, .slice a l.length c], .agg #[.int .i64 vv, .int .i64 e2, .slice b m.length dd]] w' (fun e w'' => e = .returned (.bool eb) ∧ Below w'.heap.size w' w'') from fun w' h =>
      (ref23SameG v e l vv e2 m a b c dd w' (HPA.out w' (HBA.out w' h)) (HPM.out w' (HBA.out w' h)) HF.out HFM.out hl hlm).mono fun _ _ ht => tells_bool heb ht)
    have HS7 := Lib.hid (show ∀ w' : World, Below W12.heap.size W12 w' → Calls Tryz.prog 14 #[] w' (fun e w'' => e = .returned (.bool true) ∧ Below w'.heap.size w' w'') from fun w' h => HAW.out w' (HBA.out w' h))
    have d1 : (KE == KE) = true := by simp
    have d2 : (is == is) = true := by simp
    have d3 : (mb == mb) = true := by simp
    have d4 : (eb == eb) = true := by simp
    clear hmb heb
    go_upto_region 7 with fail
    rw [← HW12.out]
    clear HW12
    obtain ⟨V, hV⟩ : ∃ V : List MP, V = [.con (.int .i64 KE), .con (.int .i64 KE), .con (.bool true), .con (.bool true), .con (.agg #[.int .u8 J.kind, .int .i64 J.n, .string J.t, .slice fan J.names.length fcn, .slice fai J.items.length fci]), .con (.agg #[.int .u8 J.kind, .int .i64 J.n, .string J.t, .slice gan J.names.length gcn, .slice gai J.items.length gci]), .con (.bool true), .con (.bool true), .con (.bool true), .con (.bool is), .con (.bool is), .con (.bool true), .con (.bool true), .con (.bool true), .con (.agg #[.string P.name, .int .i64 P.ver, .int .i64 P.len, .slice fha P.hs.length fhc]), .con (.agg #[.string P.name, .int .i64 P.ver, .int .i64 P.len, .slice gha P.hs.length ghc]), .con (.bool true), .con (.bool true), .con (.bool true), .con (.agg #[.int .i64 v, .int .i64 e, .slice a l.length c]), .con (.bool mb), .con (.agg #[.int .i64 v, .int .i64 e, .slice a l.length c]), .con (.bool mb), .con (.bool true), .con (.bool true), .con (.bool true), .con (.agg #[.int .i64 v, .int .i64 e, .slice a l.length c]), .con (.agg #[.int .i64 vv, .int .i64 e2, .slice b m.length dd]), .con (.bool eb), .con (.agg #[.int .i64 v, .int .i64 e, .slice a l.length c]), .con (.agg #[.int .i64 vv, .int .i64 e2, .slice b m.length dd]), .con (.bool eb), .con (.bool true), .con (.bool true), .con (.bool true), .con (.bool true), .con (.bool true)] := ⟨_, rfl⟩
    have HV := Lib.hid hV
    clear hV
    refine wp_region_inv 37 (fun d a' w' => ∃ x47 x48 x49 x50 x51 x52 x53 x54 x55 x56 x57 x58 x59 x60 x61 x62 x63 x64 x65 x66 x67 x68 x69 x70 x71 x72 x73 x74 x75 x76 x77 x78 x79 x80 x81 x82 x83, a' = ⟨#[Value.agg #[Value.int IntKind.i64 v, Value.int IntKind.i64 e, Value.slice a l.length c], Value.agg #[Value.int IntKind.i64 vv, Value.int IntKind.i64 e2, Value.slice b m.length dd], Value.string role, Value.pointer (some { block := w.heap.size, off := 0 }), Value.pointer (some { block := w.heap.size + 1, off := 0 }), undef, Value.bool false, Value.pointer (some { block := w5.heap.size, off := 0 }), Value.int IntKind.i64 KE, Value.pointer (some { block := w7.heap.size, off := 0 }), Value.int IntKind.i64 KE, Value.pointer (some { block := w9.heap.size, off := 0 }), Value.bool is, Value.pointer (some { block := w11.heap.size, off := 0 }), Value.bool is, Value.agg #[Value.int IntKind.i64 v, Value.int IntKind.i64 e, Value.slice a l.length c], Value.agg #[Value.int IntKind.i64 vv, Value.int IntKind.i64 e2, Value.slice b m.length dd], Value.slice (some { block := W2.heap.size, off := 0 }) 2 2, Value.bool false, Value.bool false, Value.string role, Value.int IntKind.i64 (role.size : Int), Value.bool false, Value.bool false, undef, Value.tuple #[Value.agg #[Value.int IntKind.u8 J.kind, Value.int IntKind.i64 J.n, Value.string J.t, Value.slice fan J.names.length fcn, Value.slice fai J.items.length fci], Value.int IntKind.i64 KE], Value.agg #[Value.int IntKind.i64 v, Value.int IntKind.i64 e, Value.slice a l.length c], Value.tuple #[Value.agg #[Value.int IntKind.u8 J.kind, Value.int IntKind.i64 J.n, Value.string J.t, Value.slice fan J.names.length fcn, Value.slice fai J.items.length fci], Value.int IntKind.i64 KE], Value.agg #[Value.int IntKind.u8 J.kind, Value.int IntKind.i64 J.n, Value.string J.t, Value.slice fan J.names.length fcn, Value.slice fai J.items.length fci], Value.int IntKind.i64 KE, Value.tuple #[Value.agg #[Value.int IntKind.u8 J.kind, Value.int IntKind.i64 J.n, Value.string J.t, Value.slice gan J.names.length gcn, Value.slice gai J.items.length gci], Value.int IntKind.i64 KE], Value.agg #[Value.int IntKind.i64 v, Value.int IntKind.i64 e, Value.slice a l.length c], Value.tuple #[Value.agg #[Value.int IntKind.u8 J.kind, Value.int IntKind.i64 J.n, Value.string J.t, Value.slice gan J.names.length gcn, Value.slice gai J.items.length gci], Value.int IntKind.i64 KE], Value.agg #[Value.int IntKind.u8 J.kind, Value.int IntKind.i64 J.n, Value.string J.t, Value.slice gan J.names.length gcn, Value.slice gai J.items.length gci], Value.int IntKind.i64 KE, Value.tuple #[Value.agg #[Value.string P.name, Value.int IntKind.i64 P.ver, Value.int IntKind.i64 P.len, Value.slice fha P.hs.length fhc], Value.bool is], Value.agg #[Value.int IntKind.i64 v, Value.int IntKind.i64 e, Value.slice a l.length c], Value.string role, Value.tuple #[Value.agg #[Value.string P.name, Value.int IntKind.i64 P.ver, Value.int IntKind.i64 P.len, Value.slice fha P.hs.length fhc], Value.bool is], Value.agg #[Value.string P.name, Value.int IntKind.i64 P.ver, Value.int IntKind.i64 P.len, Value.slice fha P.hs.length fhc], Value.bool is, Value.tuple #[Value.agg #[Value.string P.name, Value.int IntKind.i64 P.ver, Value.int IntKind.i64 P.len, Value.slice gha P.hs.length ghc], Value.bool is], Value.agg #[Value.int IntKind.i64 v, Value.int IntKind.i64 e, Value.slice a l.length c], Value.string role, Value.tuple #[Value.agg #[Value.string P.name, Value.int IntKind.i64 P.ver, Value.int IntKind.i64 P.len, Value.slice gha P.hs.length ghc], Value.bool is], Value.agg #[Value.string P.name, Value.int IntKind.i64 P.ver, Value.int IntKind.i64 P.len, Value.slice gha P.hs.length ghc], Value.bool is, x47, x48, x49, x50, x51, x52, x53, x54, x55, x56, x57, x58, x59, x60, x61, x62, x63, x64, x65, x66, x67, x68, x69, x70, x71, x72, x73, x74, x75, x76, x77, x78, x79, x80, x81, x82, x83], []⟩ ∧ RegI W12 V d w' [x47, x48, x49, x50, x51, x52, x53, x54, x55, x56, x57, x58, x59, x60, x61, x62, x63, x64, x65, x66, x67, x68, x69, x70, x71, x72, x73, x74, x75, x76, x77, x78, x79, x80, x81, x82, x83]) (by kernel_rfl) (by kernel_rfl) ?first ?step ?last
    case first => exact ⟨_, _, _, _, _, _, _, _, _, _, _, _, _, _, _, _, _, _, _, _, _, _, _, _, _, _, _, _, _, _, _, _, _, _, _, _, _, rfl, RegI.first _ _ _ (by rw [HV.out]; rfl)⟩
    case step =>
      rintro d a' w' ⟨x47, x48, x49, x50, x51, x52, x53, x54, x55, x56, x57, x58, x59, x60, x61, x62, x63, x64, x65, x66, x67, x68, x69, x70, x71, x72, x73, x74, x75, x76, x77, x78, x79, x80, x81, x82, x83, rfl, h⟩ q hq hn hw
      rcases q with _ | _ | _ | _ | _ | _ | _ | _ | _ | _ | _ | _ | _ | _ | _ | _ | _ | _ | _ | _ | _ | _ | _ | _ | _ | _ | _ | _ | _ | _ | _ | _ | _ | _ | _ | _ | _ | q
      · refine wpOp_step rfl fun K hK => ?_
        go_simp
        exact hK _ _ ⟨_, x48, x49, x50, x51, x52, x53, x54, x55, x56, x57, x58, x59, x60, x61, x62, x63, x64, x65, x66, x67, x68, x69, x70, x71, x72, x73, x74, x75, x76, x77, x78, x79, x80, x81, x82, x83, rfl, h.same 0 _ (.con (.int .i64 KE)) (by rw [HV.out]; rfl) rfl⟩
      · refine wpOp_step rfl fun K hK => ?_
        go_simp
        exact hK _ _ ⟨x47, _, x49, x50, x51, x52, x53, x54, x55, x56, x57, x58, x59, x60, x61, x62, x63, x64, x65, x66, x67, x68, x69, x70, x71, x72, x73, x74, x75, x76, x77, x78, x79, x80, x81, x82, x83, rfl, h.same 1 _ (.con (.int .i64 KE)) (by rw [HV.out]; rfl) rfl⟩
      · obtain rfl : x47 = .int .i64 KE := h.get 0 (hw _ rfl ⟨0, .data⟩ (by simp) rfl) (.con (.int .i64 KE)) (by rw [HV.out]; rfl) _ rfl
        obtain rfl : x48 = .int .i64 KE := h.get 1 (hw _ rfl ⟨1, .data⟩ (by simp) rfl) (.con (.int .i64 KE)) (by rw [HV.out]; rfl) _ rfl
        refine wpOp_step rfl fun K hK => ?_
        go_simp
        exact hK _ _ ⟨_, _, _, x50, x51, x52, x53, x54, x55, x56, x57, x58, x59, x60, x61, x62, x63, x64, x65, x66, x67, x68, x69, x70, x71, x72, x73, x74, x75, x76, x77, x78, x79, x80, x81, x82, x83, rfl, h.same 2 _ (.con (.bool true)) (by rw [HV.out]; rfl) rfl⟩
      · obtain rfl : x49 = .bool true := h.get 2 (hw _ rfl ⟨2, .data⟩ (by simp) rfl) (.con (.bool true)) (by rw [HV.out]; rfl) _ rfl
        refine wpOp_step rfl fun K hK => ?_
        go_simp
        exact hK _ _ ⟨x47, x48, _, _, x51, x52, x53, x54, x55, x56, x57, x58, x59, x60, x61, x62, x63, x64, x65, x66, x67, x68, x69, x70, x71, x72, x73, x74, x75, x76, x77, x78, x79, x80, x81, x82, x83, rfl, h.same 3 _ (.con (.bool true)) (by rw [HV.out]; rfl) rfl⟩
      · obtain rfl : x50 = .bool true := h.get 3 (hw _ rfl ⟨3, .guard⟩ (by simp) rfl) (.con (.bool true)) (by rw [HV.out]; rfl) _ rfl
        obtain ⟨⟨⟨q0, q1, q2⟩, p0, p1, p2⟩, z1, z2, z3, z4⟩ := HCC.out w' h.1; have a0 := box_cell z1 (j := 0) rfl; have a1 := box_cell z1 (j := 1) rfl; have a2 := box_cell z1 (j := 2) rfl; have a3 := box_cell z1 (j := 3) rfl; have a4 := box_cell z1 (j := 4) rfl; clear q0 q1 q2 p0 p1 p2 z1 z2 z3 z4
        refine wpOp_step rfl fun K hK => ?_
        go_simp
        exact hK _ _ ⟨x47, x48, x49, _, _, x52, x53, x54, x55, x56, x57, x58, x59, x60, x61, x62, x63, x64, x65, x66, x67, x68, x69, x70, x71, x72, x73, x74, x75, x76, x77, x78, x79, x80, x81, x82, x83, rfl, h.same 4 _ (.con (.agg #[.int .u8 J.kind, .int .i64 J.n, .string J.t, .slice fan J.names.length fcn, .slice fai J.items.length fci])) (by rw [HV.out]; rfl) rfl⟩
      · obtain rfl : x50 = .bool true := h.get 3 (hw _ rfl ⟨3, .guard⟩ (by simp) rfl) (.con (.bool true)) (by rw [HV.out]; rfl) _ rfl
        obtain ⟨⟨⟨q0, q1, q2⟩, p0, p1, p2⟩, z1, z2, z3, z4⟩ := HCC.out w' h.1; have a0 := box_cell z2 (j := 0) rfl; have a1 := box_cell z2 (j := 1) rfl; have a2 := box_cell z2 (j := 2) rfl; have a3 := box_cell z2 (j := 3) rfl; have a4 := box_cell z2 (j := 4) rfl; clear q0 q1 q2 p0 p1 p2 z1 z2 z3 z4
        refine wpOp_step rfl fun K hK => ?_
        go_simp
        exact hK _ _ ⟨x47, x48, x49, _, x51, _, x53, x54, x55, x56, x57, x58, x59, x60, x61, x62, x63, x64, x65, x66, x67, x68, x69, x70, x71, x72, x73, x74, x75, x76, x77, x78, x79, x80, x81, x82, x83, rfl, h.same 5 _ (.con (.agg #[.int .u8 J.kind, .int .i64 J.n, .string J.t, .slice gan J.names.length gcn, .slice gai J.items.length gci])) (by rw [HV.out]; rfl) rfl⟩
      · obtain rfl : x50 = .bool true := h.get 3 (hw _ rfl ⟨3, .chain⟩ (by simp) rfl) (.con (.bool true)) (by rw [HV.out]; rfl) _ rfl
        obtain rfl : x51 = .agg #[.int .u8 J.kind, .int .i64 J.n, .string J.t, .slice fan J.names.length fcn, .slice fai J.items.length fci] := h.get 4 (hw _ rfl ⟨4, .data⟩ (by simp) rfl) (.con (.agg #[.int .u8 J.kind, .int .i64 J.n, .string J.t, .slice fan J.names.length fcn, .slice fai J.items.length fci])) (by rw [HV.out]; rfl) _ rfl
        obtain rfl : x52 = .agg #[.int .u8 J.kind, .int .i64 J.n, .string J.t, .slice gan J.names.length gcn, .slice gai J.items.length gci] := h.get 5 (hw _ rfl ⟨5, .data⟩ (by simp) rfl) (.con (.agg #[.int .u8 J.kind, .int .i64 J.n, .string J.t, .slice gan J.names.length gcn, .slice gai J.items.length gci])) (by rw [HV.out]; rfl) _ rfl
        skip
        refine wpOp_step rfl fun K hK => ?_
        go_simp
        refine (HS1.out w' h.1).mono ?_
        rintro e w2 ⟨rfl, hb2⟩
        exact hK _ _ ⟨x47, x48, x49, _, _, _, _, x54, x55, x56, x57, x58, x59, x60, x61, x62, x63, x64, x65, x66, x67, x68, x69, x70, x71, x72, x73, x74, x75, x76, x77, x78, x79, x80, x81, x82, x83, rfl, h.did hb2 6 _ (.con (.bool true)) (by rw [HV.out]; rfl) rfl⟩
      · obtain rfl : x50 = .bool true := h.get 3 (hw _ rfl ⟨3, .data⟩ (by simp) rfl) (.con (.bool true)) (by rw [HV.out]; rfl) _ rfl
        obtain rfl : x53 = .bool true := h.get 6 (hw _ rfl ⟨6, .data⟩ (by simp) rfl) (.con (.bool true)) (by rw [HV.out]; rfl) _ rfl
        refine wpOp_step rfl fun K hK => ?_
        go_simp
        exact hK _ _ ⟨x47, x48, x49, _, x51, x52, _, _, x55, x56, x57, x58, x59, x60, x61, x62, x63, x64, x65, x66, x67, x68, x69, x70, x71, x72, x73, x74, x75, x76, x77, x78, x79, x80, x81, x82, x83, rfl, h.same 7 _ (.con (.bool true)) (by rw [HV.out]; rfl) rfl⟩
      · obtain rfl : x54 = .bool true := h.get 7 (hw _ rfl ⟨7, .data⟩ (by simp) rfl) (.con (.bool true)) (by rw [HV.out]; rfl) _ rfl
        refine wpOp_step rfl fun K hK => ?_
        go_simp
        exact hK _ _ ⟨x47, x48, x49, x50, x51, x52, x53, _, _, x56, x57, x58, x59, x60, x61, x62, x63, x64, x65, x66, x67, x68, x69, x70, x71, x72, x73, x74, x75, x76, x77, x78, x79, x80, x81, x82, x83, rfl, h.same 8 _ (.con (.bool true)) (by rw [HV.out]; rfl) rfl⟩
      · obtain rfl : x55 = .bool true := h.get 8 (hw _ rfl ⟨8, .guard⟩ (by simp) rfl) (.con (.bool true)) (by rw [HV.out]; rfl) _ rfl
        refine wpOp_step rfl fun K hK => ?_
        go_simp
        exact hK _ _ ⟨x47, x48, x49, x50, x51, x52, x53, x54, _, _, x57, x58, x59, x60, x61, x62, x63, x64, x65, x66, x67, x68, x69, x70, x71, x72, x73, x74, x75, x76, x77, x78, x79, x80, x81, x82, x83, rfl, h.same 9 _ (.con (.bool is)) (by rw [HV.out]; rfl) rfl⟩
      · obtain rfl : x55 = .bool true := h.get 8 (hw _ rfl ⟨8, .guard⟩ (by simp) rfl) (.con (.bool true)) (by rw [HV.out]; rfl) _ rfl
        refine wpOp_step rfl fun K hK => ?_
        go_simp
        exact hK _ _ ⟨x47, x48, x49, x50, x51, x52, x53, x54, _, x56, _, x58, x59, x60, x61, x62, x63, x64, x65, x66, x67, x68, x69, x70, x71, x72, x73, x74, x75, x76, x77, x78, x79, x80, x81, x82, x83, rfl, h.same 10 _ (.con (.bool is)) (by rw [HV.out]; rfl) rfl⟩
      · obtain rfl : x55 = .bool true := h.get 8 (hw _ rfl ⟨8, .guard⟩ (by simp) rfl) (.con (.bool true)) (by rw [HV.out]; rfl) _ rfl
        obtain rfl : x56 = .bool is := h.get 9 (hw _ rfl ⟨9, .data⟩ (by simp) rfl) (.con (.bool is)) (by rw [HV.out]; rfl) _ rfl
        obtain rfl : x57 = .bool is := h.get 10 (hw _ rfl ⟨10, .data⟩ (by simp) rfl) (.con (.bool is)) (by rw [HV.out]; rfl) _ rfl
        refine wpOp_step rfl fun K hK => ?_
        go_simp
        exact hK _ _ ⟨x47, x48, x49, x50, x51, x52, x53, x54, _, _, _, _, x59, x60, x61, x62, x63, x64, x65, x66, x67, x68, x69, x70, x71, x72, x73, x74, x75, x76, x77, x78, x79, x80, x81, x82, x83, rfl, h.same 11 _ (.con (.bool true)) (by rw [HV.out]; rfl) rfl⟩
      · obtain rfl : x55 = .bool true := h.get 8 (hw _ rfl ⟨8, .data⟩ (by simp) rfl) (.con (.bool true)) (by rw [HV.out]; rfl) _ rfl
        obtain rfl : x58 = .bool true := h.get 11 (hw _ rfl ⟨11, .data⟩ (by simp) rfl) (.con (.bool true)) (by rw [HV.out]; rfl) _ rfl
        refine wpOp_step rfl fun K hK => ?_
        go_simp
        exact hK _ _ ⟨x47, x48, x49, x50, x51, x52, x53, x54, _, x56, x57, _, _, x60, x61, x62, x63, x64, x65, x66, x67, x68, x69, x70, x71, x72, x73, x74, x75, x76, x77, x78, x79, x80, x81, x82, x83, rfl, h.same 12 _ (.con (.bool true)) (by rw [HV.out]; rfl) rfl⟩
      · obtain rfl : x59 = .bool true := h.get 12 (hw _ rfl ⟨12, .data⟩ (by simp) rfl) (.con (.bool true)) (by rw [HV.out]; rfl) _ rfl
        refine wpOp_step rfl fun K hK => ?_
        go_simp
        exact hK _ _ ⟨x47, x48, x49, x50, x51, x52, x53, x54, x55, x56, x57, x58, _, _, x61, x62, x63, x64, x65, x66, x67, x68, x69, x70, x71, x72, x73, x74, x75, x76, x77, x78, x79, x80, x81, x82, x83, rfl, h.same 13 _ (.con (.bool true)) (by rw [HV.out]; rfl) rfl⟩
      · obtain rfl : x60 = .bool true := h.get 13 (hw _ rfl ⟨13, .guard⟩ (by simp) rfl) (.con (.bool true)) (by rw [HV.out]; rfl) _ rfl
        obtain ⟨⟨⟨q0, q1, q2⟩, p0, p1, p2⟩, z1, z2, z3, z4⟩ := HCC.out w' h.1; have a0 := box_cell z3 (j := 0) rfl; have a1 := box_cell z3 (j := 1) rfl; have a2 := box_cell z3 (j := 2) rfl; have a3 := box_cell z3 (j := 3) rfl; clear q0 q1 q2 p0 p1 p2 z1 z2 z3 z4
        refine wpOp_step rfl fun K hK => ?_
        go_simp
        exact hK _ _ ⟨x47, x48, x49, x50, x51, x52, x53, x54, x55, x56, x57, x58, x59, _, _, x62, x63, x64, x65, x66, x67, x68, x69, x70, x71, x72, x73, x74, x75, x76, x77, x78, x79, x80, x81, x82, x83, rfl, h.same 14 _ (.con (.agg #[.string P.name, .int .i64 P.ver, .int .i64 P.len, .slice fha P.hs.length fhc])) (by rw [HV.out]; rfl) rfl⟩
      · obtain rfl : x60 = .bool true := h.get 13 (hw _ rfl ⟨13, .guard⟩ (by simp) rfl) (.con (.bool true)) (by rw [HV.out]; rfl) _ rfl
        obtain ⟨⟨⟨q0, q1, q2⟩, p0, p1, p2⟩, z1, z2, z3, z4⟩ := HCC.out w' h.1; have a0 := box_cell z4 (j := 0) rfl; have a1 := box_cell z4 (j := 1) rfl; have a2 := box_cell z4 (j := 2) rfl; have a3 := box_cell z4 (j := 3) rfl; clear q0 q1 q2 p0 p1 p2 z1 z2 z3 z4
        refine wpOp_step rfl fun K hK => ?_
        go_simp
        exact hK _ _ ⟨x47, x48, x49, x50, x51, x52, x53, x54, x55, x56, x57, x58, x59, _, x61, _, x63, x64, x65, x66, x67, x68, x69, x70, x71, x72, x73, x74, x75, x76, x77, x78, x79, x80, x81, x82, x83, rfl, h.same 15 _ (.con (.agg #[.string P.name, .int .i64 P.ver, .int .i64 P.len, .slice gha P.hs.length ghc])) (by rw [HV.out]; rfl) rfl⟩
      · obtain rfl : x60 = .bool true := h.get 13 (hw _ rfl ⟨13, .chain⟩ (by simp) rfl) (.con (.bool true)) (by rw [HV.out]; rfl) _ rfl
        obtain rfl : x61 = .agg #[.string P.name, .int .i64 P.ver, .int .i64 P.len, .slice fha P.hs.length fhc] := h.get 14 (hw _ rfl ⟨14, .data⟩ (by simp) rfl) (.con (.agg #[.string P.name, .int .i64 P.ver, .int .i64 P.len, .slice fha P.hs.length fhc])) (by rw [HV.out]; rfl) _ rfl
        obtain rfl : x62 = .agg #[.string P.name, .int .i64 P.ver, .int .i64 P.len, .slice gha P.hs.length ghc] := h.get 15 (hw _ rfl ⟨15, .data⟩ (by simp) rfl) (.con (.agg #[.string P.name, .int .i64 P.ver, .int .i64 P.len, .slice gha P.hs.length ghc])) (by rw [HV.out]; rfl) _ rfl
        skip
        refine wpOp_step rfl fun K hK => ?_
        go_simp
        refine (HS2.out w' h.1).mono ?_
        rintro e w2 ⟨rfl, hb2⟩
        exact hK _ _ ⟨x47, x48, x49, x50, x51, x52, x53, x54, x55, x56, x57, x58, x59, _, _, _, _, x64, x65, x66, x67, x68, x69, x70, x71, x72, x73, x74, x75, x76, x77, x78, x79, x80, x81, x82, x83, rfl, h.did hb2 16 _ (.con (.bool true)) (by rw [HV.out]; rfl) rfl⟩
      · obtain rfl : x60 = .bool true := h.get 13 (hw _ rfl ⟨13, .data⟩ (by simp) rfl) (.con (.bool true)) (by rw [HV.out]; rfl) _ rfl
        obtain rfl : x63 = .bool true := h.get 16 (hw _ rfl ⟨16, .data⟩ (by simp) rfl) (.con (.bool true)) (by rw [HV.out]; rfl) _ rfl
        refine wpOp_step rfl fun K hK => ?_
        go_simp
        exact hK _ _ ⟨x47, x48, x49, x50, x51, x52, x53, x54, x55, x56, x57, x58, x59, _, x61, x62, _, _, x65, x66, x67, x68, x69, x70, x71, x72, x73, x74, x75, x76, x77, x78, x79, x80, x81, x82, x83, rfl, h.same 17 _ (.con (.bool true)) (by rw [HV.out]; rfl) rfl⟩
      · obtain rfl : x64 = .bool true := h.get 17 (hw _ rfl ⟨17, .data⟩ (by simp) rfl) (.con (.bool true)) (by rw [HV.out]; rfl) _ rfl
        refine wpOp_step rfl fun K hK => ?_
        go_simp
        exact hK _ _ ⟨x47, x48, x49, x50, x51, x52, x53, x54, x55, x56, x57, x58, x59, x60, x61, x62, x63, _, _, x66, x67, x68, x69, x70, x71, x72, x73, x74, x75, x76, x77, x78, x79, x80, x81, x82, x83, rfl, h.same 18 _ (.con (.bool true)) (by rw [HV.out]; rfl) rfl⟩
      · obtain rfl : x65 = .bool true := h.get 18 (hw _ rfl ⟨18, .guard⟩ (by simp) rfl) (.con (.bool true)) (by rw [HV.out]; rfl) _ rfl
        obtain ⟨⟨⟨q0, q1, q2⟩, p0, p1, p2⟩, z1, z2, z3, z4⟩ := HCC.out w' h.1; clear p0 p1 p2 z1 z2 z3 z4
        refine wpOp_step rfl fun K hK => ?_
        go_simp
        exact hK _ _ ⟨x47, x48, x49, x50, x51, x52, x53, x54, x55, x56, x57, x58, x59, x60, x61, x62, x63, x64, _, _, x67, x68, x69, x70, x71, x72, x73, x74, x75, x76, x77, x78, x79, x80, x81, x82, x83, rfl, h.same 19 _ (.con (.agg #[.int .i64 v, .int .i64 e, .slice a l.length c])) (by rw [HV.out]; rfl) rfl⟩
      · obtain rfl : x65 = .bool true := h.get 18 (hw _ rfl ⟨18, .chain⟩ (by simp) rfl) (.con (.bool true)) (by rw [HV.out]; rfl) _ rfl
        obtain rfl : x66 = .agg #[.int .i64 v, .int .i64 e, .slice a l.length c] := h.get 19 (hw _ rfl ⟨19, .data⟩ (by simp) rfl) (.con (.agg #[.int .i64 v, .int .i64 e, .slice a l.length c])) (by rw [HV.out]; rfl) _ rfl
        skip
        refine wpOp_step rfl fun K hK => ?_
        go_simp
        refine (HS3.out w' h.1).mono ?_
        rintro e w2 ⟨rfl, hb2⟩
        exact hK _ _ ⟨x47, x48, x49, x50, x51, x52, x53, x54, x55, x56, x57, x58, x59, x60, x61, x62, x63, x64, _, _, _, x68, x69, x70, x71, x72, x73, x74, x75, x76, x77, x78, x79, x80, x81, x82, x83, rfl, h.did hb2 20 _ (.con (.bool mb)) (by rw [HV.out]; rfl) rfl⟩
      · obtain rfl : x65 = .bool true := h.get 18 (hw _ rfl ⟨18, .guard⟩ (by simp) rfl) (.con (.bool true)) (by rw [HV.out]; rfl) _ rfl
        obtain ⟨⟨⟨q0, q1, q2⟩, p0, p1, p2⟩, z1, z2, z3, z4⟩ := HCC.out w' h.1; clear p0 p1 p2 z1 z2 z3 z4
        refine wpOp_step rfl fun K hK => ?_
        go_simp
        exact hK _ _ ⟨x47, x48, x49, x50, x51, x52, x53, x54, x55, x56, x57, x58, x59, x60, x61, x62, x63, x64, _, x66, x67, _, x69, x70, x71, x72, x73, x74, x75, x76, x77, x78, x79, x80, x81, x82, x83, rfl, h.same 21 _ (.con (.agg #[.int .i64 v, .int .i64 e, .slice a l.length c])) (by rw [HV.out]; rfl) rfl⟩
      · obtain rfl : x65 = .bool true := h.get 18 (hw _ rfl ⟨18, .guard⟩ (by simp) rfl) (.con (.bool true)) (by rw [HV.out]; rfl) _ rfl
        obtain rfl : x68 = .agg #[.int .i64 v, .int .i64 e, .slice a l.length c] := h.get 21 (hw _ rfl ⟨21, .data⟩ (by simp) rfl) (.con (.agg #[.int .i64 v, .int .i64 e, .slice a l.length c])) (by rw [HV.out]; rfl) _ rfl
        skip
        refine wpOp_step rfl fun K hK => ?_
        go_simp
        refine (HS4.out w' h.1).mono ?_
        rintro e w2 ⟨rfl, hb2⟩
        exact hK _ _ ⟨x47, x48, x49, x50, x51, x52, x53, x54, x55, x56, x57, x58, x59, x60, x61, x62, x63, x64, _, x66, x67, _, _, x70, x71, x72, x73, x74, x75, x76, x77, x78, x79, x80, x81, x82, x83, rfl, h.did hb2 22 _ (.con (.bool mb)) (by rw [HV.out]; rfl) rfl⟩
      · obtain rfl : x65 = .bool true := h.get 18 (hw _ rfl ⟨18, .guard⟩ (by simp) rfl) (.con (.bool true)) (by rw [HV.out]; rfl) _ rfl
        obtain rfl : x67 = .bool mb := h.get 20 (hw _ rfl ⟨20, .data⟩ (by simp) rfl) (.con (.bool mb)) (by rw [HV.out]; rfl) _ rfl
        obtain rfl : x69 = .bool mb := h.get 22 (hw _ rfl ⟨22, .data⟩ (by simp) rfl) (.con (.bool mb)) (by rw [HV.out]; rfl) _ rfl
        refine wpOp_step rfl fun K hK => ?_
        go_simp
        exact hK _ _ ⟨x47, x48, x49, x50, x51, x52, x53, x54, x55, x56, x57, x58, x59, x60, x61, x62, x63, x64, _, x66, _, x68, _, _, x71, x72, x73, x74, x75, x76, x77, x78, x79, x80, x81, x82, x83, rfl, h.same 23 _ (.con (.bool true)) (by rw [HV.out]; rfl) rfl⟩
      · obtain rfl : x65 = .bool true := h.get 18 (hw _ rfl ⟨18, .data⟩ (by simp) rfl) (.con (.bool true)) (by rw [HV.out]; rfl) _ rfl
        obtain rfl : x70 = .bool true := h.get 23 (hw _ rfl ⟨23, .data⟩ (by simp) rfl) (.con (.bool true)) (by rw [HV.out]; rfl) _ rfl
        refine wpOp_step rfl fun K hK => ?_
        go_simp
        exact hK _ _ ⟨x47, x48, x49, x50, x51, x52, x53, x54, x55, x56, x57, x58, x59, x60, x61, x62, x63, x64, _, x66, x67, x68, x69, _, _, x72, x73, x74, x75, x76, x77, x78, x79, x80, x81, x82, x83, rfl, h.same 24 _ (.con (.bool true)) (by rw [HV.out]; rfl) rfl⟩
      · obtain rfl : x71 = .bool true := h.get 24 (hw _ rfl ⟨24, .data⟩ (by simp) rfl) (.con (.bool true)) (by rw [HV.out]; rfl) _ rfl
        refine wpOp_step rfl fun K hK => ?_
        go_simp
        exact hK _ _ ⟨x47, x48, x49, x50, x51, x52, x53, x54, x55, x56, x57, x58, x59, x60, x61, x62, x63, x64, x65, x66, x67, x68, x69, x70, _, _, x73, x74, x75, x76, x77, x78, x79, x80, x81, x82, x83, rfl, h.same 25 _ (.con (.bool true)) (by rw [HV.out]; rfl) rfl⟩
      · obtain rfl : x72 = .bool true := h.get 25 (hw _ rfl ⟨25, .guard⟩ (by simp) rfl) (.con (.bool true)) (by rw [HV.out]; rfl) _ rfl
        obtain ⟨⟨⟨q0, q1, q2⟩, p0, p1, p2⟩, z1, z2, z3, z4⟩ := HCC.out w' h.1; clear p0 p1 p2 z1 z2 z3 z4
        refine wpOp_step rfl fun K hK => ?_
        go_simp
        exact hK _ _ ⟨x47, x48, x49, x50, x51, x52, x53, x54, x55, x56, x57, x58, x59, x60, x61, x62, x63, x64, x65, x66, x67, x68, x69, x70, x71, _, _, x74, x75, x76, x77, x78, x79, x80, x81, x82, x83, rfl, h.same 26 _ (.con (.agg #[.int .i64 v, .int .i64 e, .slice a l.length c])) (by rw [HV.out]; rfl) rfl⟩
      · obtain rfl : x72 = .bool true := h.get 25 (hw _ rfl ⟨25, .guard⟩ (by simp) rfl) (.con (.bool true)) (by rw [HV.out]; rfl) _ rfl
        obtain ⟨⟨⟨q0, q1, q2⟩, p0, p1, p2⟩, z1, z2, z3, z4⟩ := HCC.out w' h.1; clear q0 q1 q2 z1 z2 z3 z4
        refine wpOp_step rfl fun K hK => ?_
        go_simp
        exact hK _ _ ⟨x47, x48, x49, x50, x51, x52, x53, x54, x55, x56, x57, x58, x59, x60, x61, x62, x63, x64, x65, x66, x67, x68, x69, x70, x71, _, x73, _, x75, x76, x77, x78, x79, x80, x81, x82, x83, rfl, h.same 27 _ (.con (.agg #[.int .i64 vv, .int .i64 e2, .slice b m.length dd])) (by rw [HV.out]; rfl) rfl⟩
      · obtain rfl : x72 = .bool true := h.get 25 (hw _ rfl ⟨25, .chain⟩ (by simp) rfl) (.con (.bool true)) (by rw [HV.out]; rfl) _ rfl
        obtain rfl : x73 = .agg #[.int .i64 v, .int .i64 e, .slice a l.length c] := h.get 26 (hw _ rfl ⟨26, .data⟩ (by simp) rfl) (.con (.agg #[.int .i64 v, .int .i64 e, .slice a l.length c])) (by rw [HV.out]; rfl) _ rfl
        obtain rfl : x74 = .agg #[.int .i64 vv, .int .i64 e2, .slice b m.length dd] := h.get 27 (hw _ rfl ⟨27, .data⟩ (by simp) rfl) (.con (.agg #[.int .i64 vv, .int .i64 e2, .slice b m.length dd])) (by rw [HV.out]; rfl) _ rfl
        skip
        refine wpOp_step rfl fun K hK => ?_
        go_simp
        refine (HS5.out w' h.1).mono ?_
        rintro e w2 ⟨rfl, hb2⟩
        exact hK _ _ ⟨x47, x48, x49, x50, x51, x52, x53, x54, x55, x56, x57, x58, x59, x60, x61, x62, x63, x64, x65, x66, x67, x68, x69, x70, x71, _, _, _, _, x76, x77, x78, x79, x80, x81, x82, x83, rfl, h.did hb2 28 _ (.con (.bool eb)) (by rw [HV.out]; rfl) rfl⟩
      · obtain rfl : x72 = .bool true := h.get 25 (hw _ rfl ⟨25, .guard⟩ (by simp) rfl) (.con (.bool true)) (by rw [HV.out]; rfl) _ rfl
        obtain ⟨⟨⟨q0, q1, q2⟩, p0, p1, p2⟩, z1, z2, z3, z4⟩ := HCC.out w' h.1; clear p0 p1 p2 z1 z2 z3 z4
        refine wpOp_step rfl fun K hK => ?_
        go_simp
        exact hK _ _ ⟨x47, x48, x49, x50, x51, x52, x53, x54, x55, x56, x57, x58, x59, x60, x61, x62, x63, x64, x65, x66, x67, x68, x69, x70, x71, _, x73, x74, x75, _, x77, x78, x79, x80, x81, x82, x83, rfl, h.same 29 _ (.con (.agg #[.int .i64 v, .int .i64 e, .slice a l.length c])) (by rw [HV.out]; rfl) rfl⟩
      · obtain rfl : x72 = .bool true := h.get 25 (hw _ rfl ⟨25, .guard⟩ (by simp) rfl) (.con (.bool true)) (by rw [HV.out]; rfl) _ rfl
        obtain ⟨⟨⟨q0, q1, q2⟩, p0, p1, p2⟩, z1, z2, z3, z4⟩ := HCC.out w' h.1; clear q0 q1 q2 z1 z2 z3 z4
        refine wpOp_step rfl fun K hK => ?_
        go_simp
        exact hK _ _ ⟨x47, x48, x49, x50, x51, x52, x53, x54, x55, x56, x57, x58, x59, x60, x61, x62, x63, x64, x65, x66, x67, x68, x69, x70, x71, _, x73, x74, x75, x76, _, x78, x79, x80, x81, x82, x83, rfl, h.same 30 _ (.con (.agg #[.int .i64 vv, .int .i64 e2, .slice b m.length dd])) (by rw [HV.out]; rfl) rfl⟩
      · obtain rfl : x72 = .bool true := h.get 25 (hw _ rfl ⟨25, .guard⟩ (by simp) rfl) (.con (.bool true)) (by rw [HV.out]; rfl) _ rfl
        obtain rfl : x76 = .agg #[.int .i64 v, .int .i64 e, .slice a l.length c] := h.get 29 (hw _ rfl ⟨29, .data⟩ (by simp) rfl) (.con (.agg #[.int .i64 v, .int .i64 e, .slice a l.length c])) (by rw [HV.out]; rfl) _ rfl
        obtain rfl : x77 = .agg #[.int .i64 vv, .int .i64 e2, .slice b m.length dd] := h.get 30 (hw _ rfl ⟨30, .data⟩ (by simp) rfl) (.con (.agg #[.int .i64 vv, .int .i64 e2, .slice b m.length dd])) (by rw [HV.out]; rfl) _ rfl
        skip
        refine wpOp_step rfl fun K hK => ?_
        go_simp
        refine (HS6.out w' h.1).mono ?_
        rintro e w2 ⟨rfl, hb2⟩
        exact hK _ _ ⟨x47, x48, x49, x50, x51, x52, x53, x54, x55, x56, x57, x58, x59, x60, x61, x62, x63, x64, x65, x66, x67, x68, x69, x70, x71, _, x73, x74, x75, _, _, _, x79, x80, x81, x82, x83, rfl, h.did hb2 31 _ (.con (.bool eb)) (by rw [HV.out]; rfl) rfl⟩
      · obtain rfl : x72 = .bool true := h.get 25 (hw _ rfl ⟨25, .guard⟩ (by simp) rfl) (.con (.bool true)) (by rw [HV.out]; rfl) _ rfl
        obtain rfl : x75 = .bool eb := h.get 28 (hw _ rfl ⟨28, .data⟩ (by simp) rfl) (.con (.bool eb)) (by rw [HV.out]; rfl) _ rfl
        obtain rfl : x78 = .bool eb := h.get 31 (hw _ rfl ⟨31, .data⟩ (by simp) rfl) (.con (.bool eb)) (by rw [HV.out]; rfl) _ rfl
        refine wpOp_step rfl fun K hK => ?_
        go_simp
        exact hK _ _ ⟨x47, x48, x49, x50, x51, x52, x53, x54, x55, x56, x57, x58, x59, x60, x61, x62, x63, x64, x65, x66, x67, x68, x69, x70, x71, _, x73, x74, _, x76, x77, _, _, x80, x81, x82, x83, rfl, h.same 32 _ (.con (.bool true)) (by rw [HV.out]; rfl) rfl⟩
      · obtain rfl : x72 = .bool true := h.get 25 (hw _ rfl ⟨25, .data⟩ (by simp) rfl) (.con (.bool true)) (by rw [HV.out]; rfl) _ rfl
        obtain rfl : x79 = .bool true := h.get 32 (hw _ rfl ⟨32, .data⟩ (by simp) rfl) (.con (.bool true)) (by rw [HV.out]; rfl) _ rfl
        refine wpOp_step rfl fun K hK => ?_
        go_simp
        exact hK _ _ ⟨x47, x48, x49, x50, x51, x52, x53, x54, x55, x56, x57, x58, x59, x60, x61, x62, x63, x64, x65, x66, x67, x68, x69, x70, x71, _, x73, x74, x75, x76, x77, x78, _, _, x81, x82, x83, rfl, h.same 33 _ (.con (.bool true)) (by rw [HV.out]; rfl) rfl⟩
      · obtain rfl : x80 = .bool true := h.get 33 (hw _ rfl ⟨33, .data⟩ (by simp) rfl) (.con (.bool true)) (by rw [HV.out]; rfl) _ rfl
        refine wpOp_step rfl fun K hK => ?_
        go_simp
        exact hK _ _ ⟨x47, x48, x49, x50, x51, x52, x53, x54, x55, x56, x57, x58, x59, x60, x61, x62, x63, x64, x65, x66, x67, x68, x69, x70, x71, x72, x73, x74, x75, x76, x77, x78, x79, _, _, x82, x83, rfl, h.same 34 _ (.con (.bool true)) (by rw [HV.out]; rfl) rfl⟩
      · obtain rfl : x81 = .bool true := h.get 34 (hw _ rfl ⟨34, .chain⟩ (by simp) rfl) (.con (.bool true)) (by rw [HV.out]; rfl) _ rfl
        skip
        refine wpOp_step rfl fun K hK => ?_
        go_simp
        refine (HS7.out w' h.1).mono ?_
        rintro e w2 ⟨rfl, hb2⟩
        exact hK _ _ ⟨x47, x48, x49, x50, x51, x52, x53, x54, x55, x56, x57, x58, x59, x60, x61, x62, x63, x64, x65, x66, x67, x68, x69, x70, x71, x72, x73, x74, x75, x76, x77, x78, x79, x80, _, _, x83, rfl, h.did hb2 35 _ (.con (.bool true)) (by rw [HV.out]; rfl) rfl⟩
      · obtain rfl : x81 = .bool true := h.get 34 (hw _ rfl ⟨34, .data⟩ (by simp) rfl) (.con (.bool true)) (by rw [HV.out]; rfl) _ rfl
        obtain rfl : x82 = .bool true := h.get 35 (hw _ rfl ⟨35, .data⟩ (by simp) rfl) (.con (.bool true)) (by rw [HV.out]; rfl) _ rfl
        refine wpOp_step rfl fun K hK => ?_
        go_simp
        exact hK _ _ ⟨x47, x48, x49, x50, x51, x52, x53, x54, x55, x56, x57, x58, x59, x60, x61, x62, x63, x64, x65, x66, x67, x68, x69, x70, x71, x72, x73, x74, x75, x76, x77, x78, x79, x80, _, _, _, rfl, h.same 36 _ (.con (.bool true)) (by rw [HV.out]; rfl) rfl⟩
      · omega
    case last =>
      rintro d a' w' hall ⟨x47, x48, x49, x50, x51, x52, x53, x54, x55, x56, x57, x58, x59, x60, x61, x62, x63, x64, x65, x66, x67, x68, x69, x70, x71, x72, x73, x74, x75, x76, x77, x78, x79, x80, x81, x82, x83, rfl, h⟩
      have hle := h.1
      obtain rfl : x83 = .bool true := h.get 36 (hall _ (by omega)) (.con (.bool true)) (by rw [HV.out]; rfl) _ rfl
      have HLE := Lib.hid hle
      clear h hall hle HV
      have HBE := Lib.hid (HB2.out.trans ((HBA.out w' HLE.out).mono HB2.out.size))
      go_wp2
      go_ret
      exact ⟨rfl, HBE.out⟩
end Go.Proofs.YtgghgcilpfdbjaaGreatDoor
