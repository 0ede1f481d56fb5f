/- canon.Encode's writing closure at an object; and whole. The contract of canon.Encode. The contract of num.Show, where the library's table of powers is laid. Four blocks laid behind a world, and an object of two texts out of its two rows. No program in sight. Small joins: blocks and cells that stay; a value in a row of one. No program in sight. append of a slice that may be empty, onto a row that the call owns: a law for the walk, in and out of drawn regions. No program in sight. Rows of pairs of texts that a call builds. No program in sight. An invariant, slot by slot, for regions that the model runs in a drawn order (over XRegInv): what each operation that is done has left in its slot. No program in sight. A row of pairs that is appended to twice in a region whose order is drawn (JudgeMore): what holds while its parts are read. No program in sight. -/
import Derived.Test.YtaekmmnpdbmoeaaGreatDoorJh12
import Derived.StillTailTactics
import Derived.Laws.EntriesVeiled
import Derived.Test.YtaekmmnpdbmoeaaGreatDoorJh02
import Derived.Lib.AppendIntMem
import Derived.Test.YtaekmmnpdbmoeaaGreatDoorJh09
import Derived.Deep.AppendLies
import Derived.Laws.AppendOwnNone
import Derived.Test.YtaekmmnpdbmoeaaGreatDoorJh01

namespace Go.Proofs.YtaekmmnpdbmoeaaGreatDoor
open Go.RowKit

set_option maxHeartbeats 400000 in
set_option maxRecDepth 100000 in
theorem enc_obj (nm : Bool) (N : Nat) (ih : EncTo nm N) (B b tb fb : Nat) (bs : List Value) (v : JV) (x : Value) (w : World) (hN : v.wt ≤ N + 1) (hA : EncArgs nm B b tb fb bs v x w) (hk : v.kind = 5) :
    Calls Tryz.prog 82 #[x, .pointer (some ⟨b, 0, none⟩), .pointer (some ⟨tb, 0, none⟩), .pointer (some ⟨fb, 0, none⟩)] w (EncPost B b bs v w) := by
  obtain ⟨hf, hR, hB, hE, hl, hS⟩ := hA
  have hbw : b < w.heap.size := by
    rcases hB with h | h
    · exact h.lt
    · exact h.lt
  obtain ⟨an, cn, ai, ci, rfl, h1, h2, h3, h4⟩ := hR.parts
  obtain ⟨b1, b2, b3, b4⟩ := v.wt_bd
  have hpos := v.wt_pos
  have hle := hE.le
  have hfs := (JV.form_eq hf).2
  obtain ⟨hnl, htx⟩ : v.names.length = v.items.length ∧ ∀ i (h : i < v.names.length), txtOk v.names[i] = true := by
    rcases (JV.form_eq hf).1 with e | ⟨e, _⟩ | ⟨e, _⟩ | e | ⟨_, e⟩ <;> first | (exact e) | omega
  have hwe := v.wt_eq
  have HWE := Lib.hid hwe
  have HNL := Lib.hid hnl
  have HTX := Lib.hid htx
  have H3 := Lib.hid h3
  obtain ⟨ni, hni⟩ : ∃ ni, ni = v.items.length := ⟨_, rfl⟩
  rw [hnl, ← hni]
  have HEQ := Lib.hid (show v.enc = 123 :: (JV.encO true v.names v.items ++ [125]) by rw [v.enc_eq, hk]; rfl)
  have H4 := Lib.hid h4
  have HFS := Lib.hid hfs
  have HE := Lib.hid hE
  have HS := Lib.hid hS
  have HNI := Lib.hid hni
  have IH := Lib.hid ih
  have HBL := Lib.hid (JV.encO_length v.names v.items true (JV.forms_true _ hfs))
  have hnb : ni ≤ 4611686018427387904 := by omega
  clear h3 h4 hR hf hE hS h1 h2 ih hfs hni hnl htx hwe
  have HB := Lib.hid (buiF_below hB ((Below.refl w.heap.size w).alloc (Nat.le_refl _) (.cells #[.int .u8 v.kind, .int .i64 v.n, .string v.t, .slice an ni cn, .slice ai ni ci] 44)))
  have HBW := Lib.hid (show Below B w (w.alloc (.cells #[.int .u8 v.kind, .int .i64 v.n, .string v.t, .slice an ni cn, .slice ai ni ci] 44)) from (Below.refl _ _).alloc hle _)
  have HKW := Lib.hid (show Kept b w (w.alloc (.cells #[.int .u8 v.kind, .int .i64 v.n, .string v.t, .slice an ni cn, .slice ai ni ci] 44)) from (Lib.OthersKept.refl _ _ w).alloc _)
  have HBX := Lib.hid (heap_alloc_new w (.cells #[.int .u8 v.kind, .int .i64 v.n, .string v.t, .slice an ni cn, .slice ai ni ci] 44))
  clear hB
  rw [hk] at HB HBW HKW HBX ⊢
  clear hk
  go_enter Tryz.func82, Tryz.ntmps82
  go_wp2_with fail
  refine (writeByte B b bs _ _ HB.out (by omega) (by simp; omega)).mono ?_
  rintro e w1 ⟨rfl, hu1, hb1, hk1⟩
  have HU1 := Lib.hid hu1; have HB1 := Lib.hid (HBW.out.trans hb1); have HK1 := Lib.hid (HKW.out.trans hk1)
  have HX1 := Lib.hid (kept_box hk1 HBX.out (by omega))
  clear hu1 hb1 hk1 HB HBW HKW HBX
  have c4 : w1.cell? ⟨w.heap.size, 4, none⟩ = some (.slice ai ni ci) := box_cell HX1.out rfl
  go_wp2
  clear c4
  go_loopw [7, 8, 55] (fun _ _ i wr => ∃ k : Nat, k ≤ ni ∧ i = .int .i64 k ∧ BuiU B b (bs ++ Lib.byteCells (123 :: JV.encO true (v.names.take k) (v.items.take k))) wr ∧ Below B w wr ∧ Kept b w1 wr) (fun _ _ i _ => ni - (intOf i).toNat)
  case atStart => exact ⟨0, Nat.zero_le _, rfl, by simpa [JV.encO, Lib.byteCells] using HU1.out, HB1.out, Lib.OthersKept.refl _ _ _⟩
  case round =>
    obtain ⟨k, hk, rfl, hbu, hbe, hke⟩ := hrel
    have hz := hbe.size
    have HBU := Lib.hid hbu
    have HBE := Lib.hid hbe
    have HKE := Lib.hid hke
    clear hbu hbe hke
    have hel := JV.encO_length (v.names.take k) (v.items.take k) true (JV.forms_take _ _ (JV.forms_true _ HFS.out))
    have hbl := HBL.out
    have hwe := HWE.out
    by_cases hlt : k < ni
    · have hlt' : k < v.items.length := by rw [← HNI.out]; exact hlt
      have hltn : k < v.names.length := by rw [HNL.out]; exact hlt'
      obtain ⟨b', off, an', cn', ai', ci', rfl, _, hb', y0, y1, y2, y3, y4, hrep⟩ := H4.out.get k hlt'
      obtain ⟨nb, noff, rfl, _, hnb', yn⟩ := H3.out.at k hltn
      rw [← HBE.out.cell hb'] at y0 y1 y2 y3 y4
      have hws := JV.wts_snoc v.items k hlt'
      have hwn := bytesSum_snoc v.names k hltn
      have HTK := Lib.hid (JV.encO_take v.names v.items k hlt' hltn)
      have HFK := Lib.hid (JV.forms_get v.items k hlt' HFS.out)
      have HTN := Lib.hid (HTX.out k hltn)
      have hqn := quoteL_length v.names[k]
      generalize v.items[k] = it at *
      generalize v.names[k] = nk at *
      have HWE' := Lib.hid hwe
      have hwl : 30 * bytesSum (v.names.take k) + 30 * JV.wts (v.items.take k) + 30 * (nk.size + 1) + 30 * it.wt + 30 ≤ 30 * v.wt := by omega
      clear hwe hws hwn hbl
      have HREC := Lib.hid (show ∀ (w' : World) (bs' : List Value), BuiF B b bs' w' → Below B w w' → Kept b w w' → bs'.length + 30 * it.wt ≤ 140737488300000 → Calls Tryz.prog 82 #[.agg #[.int .u8 it.kind, .int .i64 it.n, .string it.t, .slice an' it.names.length cn', .slice ai' it.items.length ci'], .pointer (some ⟨b, 0, none⟩), .pointer (some ⟨tb, 0, none⟩), .pointer (some ⟨fb, 0, none⟩)] w' (EncPost B b bs' it w') from
        fun w' bs' k1 k2 k3 k4 => IH.out B b tb fb bs' it _ w' (by have := HWE'.out; omega) ⟨HFK.out, hrep.below k2 (Nat.le_refl _) (Nat.le_refl _) (Nat.le_refl _), k1, HE.out.kept k3 k2.size, k4, fun h => show_below (HS.out h) k2⟩)
      have HBX := Lib.hid (heap_alloc_new wr (.cells #[.int .u8 it.kind, .int .i64 it.n, .string it.t, .slice an' it.names.length cn', .slice ai' it.items.length ci'] 44))
      have HB2 := Lib.hid (buiF_below (.inr HBU.out) ((Below.refl wr.heap.size wr).alloc (Nat.le_refl _) (.cells #[.int .u8 it.kind, .int .i64 it.n, .string it.t, .slice an' it.names.length cn', .slice ai' it.items.length ci'] 44)))
      have HW2 := Lib.hid (show Below B w (wr.alloc (.cells #[.int .u8 it.kind, .int .i64 it.n, .string it.t, .slice an' it.names.length cn', .slice ai' it.items.length ci'] 44)) from HBE.out.alloc (by omega) _)
      have HK2 := Lib.hid (show Kept b w1 (wr.alloc (.cells #[.int .u8 it.kind, .int .i64 it.n, .string it.t, .slice an' it.names.length cn', .slice ai' it.items.length ci'] 44)) from HKE.out.alloc _)
      clear hrep HBU HBE HKE HFK
      -- what each later world gives
      have HALL := Lib.hid (show ∀ (w' : World), Below B w w' → Kept b w1 w' → w'.cell? ⟨tb, 0, none⟩ = some (.func (.func 79) #[] #[.pointer (some ⟨b, 0, none⟩)]) ∧ w'.cell? ⟨fb, 0, none⟩ = some (.func (.func 82) #[] #[.pointer (some ⟨b, 0, none⟩), .pointer (some ⟨tb, 0, none⟩), .pointer (some ⟨fb, 0, none⟩)]) ∧ w'.cell? ⟨w.heap.size, 3, none⟩ = some (.slice (some ⟨nb, noff, none⟩) ni cn) ∧ w'.cell? ⟨nb, noff + k, none⟩ = some (.string nk) from
        fun w' k1 k2 => ⟨box_cell (HE.out.kept (HK1.out.trans k2) k1.size).ht rfl, box_cell (HE.out.kept (HK1.out.trans k2) k1.size).hf rfl, box_cell (kept_box k2 HX1.out (by omega)) rfl, by rw [k1.cell hnb']; exact yn⟩)
      clear yn
      rcases Nat.eq_zero_or_pos k with hk0 | hk0
      case' inl =>
        have hd : decide (0 < k) = false := by simp; omega
        have hd' : ¬ 0 < k := by omega
        rw [decide_eq_true hk0, show sep true = [] from rfl, List.nil_append] at HTK
        clear hk0
        go_wp2_with fail
        have HU3 := HB2
        have HW3 := HW2
        have HK3 := HK2
        have HX3 := HBX
        clear HB2 HW2 HK2 HBX
        generalize (wr.alloc (.cells #[.int .u8 it.kind, .int .i64 it.n, .string it.t, .slice an' it.names.length cn', .slice ai' it.items.length ci'] 44)) = w3 at HU3 HW3 HK3 HX3 ⊢
      case' inr =>
        rw [decide_eq_false (by omega), show sep false = [44] from rfl] at HTK
        go_wp2_with fail
        refine (writeByte B b _ _ _ HB2.out (by simp [Lib.byteCells]; omega) (by simp; omega)).mono ?_
        rintro e w3 ⟨rfl, hu3, hb3, hk3⟩
        have HX3 := Lib.hid (kept_box hk3 HBX.out (by omega))
        have HU3 := Lib.hid (show BuiF B b _ w3 from .inr hu3)
        have HW3 := Lib.hid (HW2.out.trans hb3)
        have HK3 := Lib.hid (HK2.out.trans hk3)
        clear hu3 hb3 hk3 HB2 HW2 HK2 HBX
        go_wp2_with fail
      all_goals
        clear y0 y1 y2 y3 y4
        obtain ⟨q0, q1, q2, q3⟩ := HALL.out w3 HW3.out HK3.out
        have g1 : 0 ≤ (k : Int) := by omega
        have g2 : (k : Int) < (ni : Int) := by omega
        have hz3 := HW3.out.size
        go_still_tail 6, (by kernel_rfl)
        go_wp2_with fail
      all_goals
        refine (encText B b _ nk w3.drew (show BuiF B b _ w3.drew from HU3.out) HTN.out (by simp [Lib.byteCells]; omega) (by simp; omega)).mono ?_
        rintro e w4 ⟨rfl, hu4, hb4, hk4⟩
        have HX4 := Lib.hid (kept_box hk4 (show w3.drew.heap[wr.heap.size]? = _ from HX3.out) (by omega))
        have HU4 := Lib.hid hu4
        have HW4 := Lib.hid (HW3.out.drew.trans hb4)
        have HK4 := Lib.hid (HK3.out.drew.trans hk4)
        have hz4 := HW4.out.size
        clear hu4 hb4 hk4 HU3 HW3 HK3 HX3 q0 q1 q2 q3 hz3
        go_wp2_with fail
        refine (writeByte B b _ _ _ (.inr HU4.out) (by simp [Lib.byteCells]; omega) (by omega)).mono ?_
        rintro e w5 ⟨rfl, hu5, hb5, hk5⟩
        have hx5 := kept_box hk5 HX4.out (by omega)
        have HU5 := Lib.hid hu5
        have HW5 := Lib.hid (HW4.out.trans hb5)
        have HK5 := Lib.hid (HK4.out.trans hk5)
        have c0 : w5.cell? ⟨wr.heap.size, 0, none⟩ = some (.int .u8 it.kind) := box_cell hx5 rfl
        have c1 : w5.cell? ⟨wr.heap.size, 1, none⟩ = some (.int .i64 it.n) := box_cell hx5 rfl
        have c2 : w5.cell? ⟨wr.heap.size, 2, none⟩ = some (.string it.t) := box_cell hx5 rfl
        have c3 : w5.cell? ⟨wr.heap.size, 3, none⟩ = some (.slice an' it.names.length cn') := box_cell hx5 rfl
        have c4 : w5.cell? ⟨wr.heap.size, 4, none⟩ = some (.slice ai' it.items.length ci') := box_cell hx5 rfl
        obtain ⟨-, q1, -, -⟩ := HALL.out w5 HW5.out HK5.out
        clear hu5 hb5 hk5 hx5 HU4 HW4 HK4 HX4 hz4
        go_wp2_with fail
        refine (HREC.out _ _ (.inr HU5.out) HW5.out (HK1.out.trans HK5.out) (by simp [Lib.byteCells]; omega)).mono ?_
        rintro e w6 ⟨rfl, hu6, hb6, hk6⟩
        have HU6 := Lib.hid hu6
        have HB6 := Lib.hid (HW5.out.trans hb6)
        have HK6 := Lib.hid (HK5.out.trans hk6)
        clear hu6 hb6 hk6 HREC HU5 HW5 HK5 q1 c0 c1 c2 c3 c4 HALL
        go_wp2
        go_roundw
        case rel => exact ⟨k + 1, by omega, by go_num, by rw [HTK.out]; simpa [Lib.byteCells] using HU6.out, HB6.out, HK6.out⟩
        case measure => simp [intOf]; omega
    · have HF := Lib.hid (show v.items.take k = v.items from List.take_of_length_le (by rw [← HNI.out]; omega))
      have HF2 := Lib.hid (show v.names.take k = v.names from List.take_of_length_le (by rw [HNL.out, ← HNI.out]; omega))
      rw [HF.out, HF2.out] at HBU
      go_wp2_with fail
      refine (writeByte B b _ _ _ (.inr HBU.out) (by simp [Lib.byteCells]; omega) (by omega)).mono ?_
      rintro e w3 ⟨rfl, hu3, hb3, hk3⟩
      have HU3 := Lib.hid hu3
      have HB3 := Lib.hid (HBE.out.trans hb3)
      have HK3 := Lib.hid (HK1.out.trans (HKE.out.trans hk3))
      clear hu3 hb3 hk3
      go_wp2
      go_end0
      exact ⟨rfl, by rw [HEQ.out]; simpa [Lib.byteCells] using HU3.out, HB3.out, HK3.out⟩

/-- The writing closure, at whatever value. -/
theorem encAll (nm : Bool) : ∀ N, EncTo nm N
  | 0 => fun B b tb fb bs v x w hN _ => by have := v.wt_pos; omega
  | N + 1 => fun B b tb fb bs v x w hN hA => by
    rcases (JV.form_eq hA.1).1 with e | ⟨e, _⟩ | ⟨e, _⟩ | e | ⟨e, _⟩
    · exact enc_leaf nm B b tb fb bs v x w hA (.inl e)
    · exact enc_leaf nm B b tb fb bs v x w hA (.inr (.inl e))
    · exact enc_leaf nm B b tb fb bs v x w hA (.inr (.inr e))
    · exact enc_list nm N (encAll nm N) B b tb fb bs v x w hN hA e
    · exact enc_obj nm N (encAll nm N) B b tb fb bs v x w hN hA e

end Go.Proofs.YtaekmmnpdbmoeaaGreatDoor

namespace Go.Proofs.YtaekmmnpdbmoeaaGreatDoor
open Go.RowKit

def CanonPost (v : JV) (w : World) (e : Ending) (w' : World) : Prop := e = .returned (.tuple #[.string ⟨(if v.mayB then v.enc else []).toArray⟩, .int .i64 (if v.mayB then 0 else 3)]) ∧ Below w.heap.size w w'

theorem itoa_ne (n : Int) : Lib.itoa n ≠ [] := by
  unfold Lib.itoa
  split
  · simp
  · rw [Lib.decDigits]; split <;> simp

set_option maxHeartbeats 400000 in
set_option maxRecDepth 100000 in
theorem canonEncode (nm : Bool) (v : JV) (x : Value) (w : World) (hv : v.wt ≤ 4294967296) (hR : Rep w 0 w.heap.size v x) (hf : v.mayB = true → v.form nm) (hS : nm = true → ShowAt w.heap.size w) :
    Calls Tryz.prog 55 #[x] w (CanonPost v w) := by
  obtain ⟨an, cn, ai, ci, hx, h1, h2, h3, h4⟩ := hR.parts
  have HR := Lib.hid hR
  clear hR h3 h4 h1 h2
  have HF := Lib.hid hf
  have HS := Lib.hid hS
  clear hf hS
  subst hx
  have HW0 := Lib.hid (show Below w.heap.size w (w.alloc (.cells #[.int .u8 v.kind, .int .i64 v.n, .string v.t, .slice an v.names.length cn, .slice ai v.items.length ci] 44)) from (Below.refl _ _).alloc (Nat.le_refl _) _)
  have HBX := Lib.hid (heap_alloc_new w (.cells #[.int .u8 v.kind, .int .i64 v.n, .string v.t, .slice an v.names.length cn, .slice ai v.items.length ci] 44))
  have HM := Lib.hid (valueMay v _ (w.alloc (.cells #[.int .u8 v.kind, .int .i64 v.n, .string v.t, .slice an v.names.length cn, .slice ai v.items.length ci] 44)) hv (HR.out.below HW0.out (Nat.le_refl _) (Nat.le_refl _) HW0.out.size))
  cases hm : v.mayB
  · rw [hm] at HM
    go_enter Tryz.func55, Tryz.ntmps55
    go_wp2_with fail
    refine HM.out.mono ?_
    rintro e w1 ⟨rfl, hb1⟩
    have HB1 := Lib.hid (HW0.out.trans (hb1.mono (by simp)))
    clear hb1
    go_wp2
    go_ret2
    exact ⟨by rw [hm]; rfl, HB1.out⟩
  · rw [hm] at HM
    have HMB := Lib.hid hm
    clear hm
    go_enter Tryz.func55, Tryz.ntmps55
    go_wp2_with fail
    refine HM.out.mono ?_
    clear HM
    rintro e w1 ⟨rfl, hb1⟩
    have hz1 : w.heap.size + 1 ≤ w1.heap.size := by have := hb1.size; simp at this; omega
    have hx1 : w1.heap[w.heap.size]? = some (.cells #[.int .u8 v.kind, .int .i64 v.n, .string v.t, .slice an v.names.length cn, .slice ai v.items.length ci] 44 (0, 0)) := by
      rw [hb1.block _ (by simp)]; exact HBX.out
    have HB1 := Lib.hid (HW0.out.trans (hb1.mono (by simp)))
    have HB3 := Lib.hid (show Below w1.heap.size w1 (((w1.alloc (.cells #[.pointer none, .slice none 0 0] 118)).alloc (.cells #[.func (.func 79) #[] #[.pointer (some ⟨w1.heap.size, 0, none⟩)]] 123)).alloc (.cells #[.func (.func 82) #[] #[.pointer (some ⟨w1.heap.size, 0, none⟩), .pointer (some ⟨w1.heap.size + 1, 0, none⟩), .pointer (some ⟨w1.heap.size + 1 + 1, 0, none⟩)]] 124)) from (((Below.refl _ _).alloc (Nat.le_refl _) _).alloc (by simp) _).alloc (by simp; omega) _)
    have hx3 : (((w1.alloc (.cells #[.pointer none, .slice none 0 0] 118)).alloc (.cells #[.func (.func 79) #[] #[.pointer (some ⟨w1.heap.size, 0, none⟩)]] 123)).alloc (.cells #[.func (.func 82) #[] #[.pointer (some ⟨w1.heap.size, 0, none⟩), .pointer (some ⟨w1.heap.size + 1, 0, none⟩), .pointer (some ⟨w1.heap.size + 1 + 1, 0, none⟩)]] 124)).heap[w.heap.size]? = some (.cells #[.int .u8 v.kind, .int .i64 v.n, .string v.t, .slice an v.names.length cn, .slice ai v.items.length ci] 44 (0, 0)) := by rw [HB3.out.block _ (by omega)]; exact hx1
    have c0 : (((w1.alloc (.cells #[.pointer none, .slice none 0 0] 118)).alloc (.cells #[.func (.func 79) #[] #[.pointer (some ⟨w1.heap.size, 0, none⟩)]] 123)).alloc (.cells #[.func (.func 82) #[] #[.pointer (some ⟨w1.heap.size, 0, none⟩), .pointer (some ⟨w1.heap.size + 1, 0, none⟩), .pointer (some ⟨w1.heap.size + 1 + 1, 0, none⟩)]] 124)).cell? ⟨w.heap.size, 0, none⟩ = some (.int .u8 v.kind) := box_cell hx3 rfl
    have c1 : (((w1.alloc (.cells #[.pointer none, .slice none 0 0] 118)).alloc (.cells #[.func (.func 79) #[] #[.pointer (some ⟨w1.heap.size, 0, none⟩)]] 123)).alloc (.cells #[.func (.func 82) #[] #[.pointer (some ⟨w1.heap.size, 0, none⟩), .pointer (some ⟨w1.heap.size + 1, 0, none⟩), .pointer (some ⟨w1.heap.size + 1 + 1, 0, none⟩)]] 124)).cell? ⟨w.heap.size, 1, none⟩ = some (.int .i64 v.n) := box_cell hx3 rfl
    have c2 : (((w1.alloc (.cells #[.pointer none, .slice none 0 0] 118)).alloc (.cells #[.func (.func 79) #[] #[.pointer (some ⟨w1.heap.size, 0, none⟩)]] 123)).alloc (.cells #[.func (.func 82) #[] #[.pointer (some ⟨w1.heap.size, 0, none⟩), .pointer (some ⟨w1.heap.size + 1, 0, none⟩), .pointer (some ⟨w1.heap.size + 1 + 1, 0, none⟩)]] 124)).cell? ⟨w.heap.size, 2, none⟩ = some (.string v.t) := box_cell hx3 rfl
    have c3 : (((w1.alloc (.cells #[.pointer none, .slice none 0 0] 118)).alloc (.cells #[.func (.func 79) #[] #[.pointer (some ⟨w1.heap.size, 0, none⟩)]] 123)).alloc (.cells #[.func (.func 82) #[] #[.pointer (some ⟨w1.heap.size, 0, none⟩), .pointer (some ⟨w1.heap.size + 1, 0, none⟩), .pointer (some ⟨w1.heap.size + 1 + 1, 0, none⟩)]] 124)).cell? ⟨w.heap.size, 3, none⟩ = some (.slice an v.names.length cn) := box_cell hx3 rfl
    have c4 : (((w1.alloc (.cells #[.pointer none, .slice none 0 0] 118)).alloc (.cells #[.func (.func 79) #[] #[.pointer (some ⟨w1.heap.size, 0, none⟩)]] 123)).alloc (.cells #[.func (.func 82) #[] #[.pointer (some ⟨w1.heap.size, 0, none⟩), .pointer (some ⟨w1.heap.size + 1, 0, none⟩), .pointer (some ⟨w1.heap.size + 1 + 1, 0, none⟩)]] 124)).cell? ⟨w.heap.size, 4, none⟩ = some (.slice ai v.items.length ci) := box_cell hx3 rfl
    have HEV := Lib.hid (show EncEnv w1.heap.size w1.heap.size (w1.heap.size + 1) (w1.heap.size + 1 + 1) (((w1.alloc (.cells #[.pointer none, .slice none 0 0] 118)).alloc (.cells #[.func (.func 79) #[] #[.pointer (some ⟨w1.heap.size, 0, none⟩)]] 123)).alloc (.cells #[.func (.func 82) #[] #[.pointer (some ⟨w1.heap.size, 0, none⟩), .pointer (some ⟨w1.heap.size + 1, 0, none⟩), .pointer (some ⟨w1.heap.size + 1 + 1, 0, none⟩)]] 124)) from
      ⟨by
        have e : ((w1.alloc (.cells #[.pointer none, .slice none 0 0] 118)).heap.size) = w1.heap.size + 1 := by simp
        rw [Below.heap_alloc _ _ _ (by simp), ← e]; exact heap_alloc_new _ _, by
        have e : (((w1.alloc (.cells #[.pointer none, .slice none 0 0] 118)).alloc (.cells #[.func (.func 79) #[] #[.pointer (some ⟨w1.heap.size, 0, none⟩)]] 123)).heap.size) = w1.heap.size + 1 + 1 := by simp
        have := heap_alloc_new ((w1.alloc (.cells #[.pointer none, .slice none 0 0] 118)).alloc (.cells #[.func (.func 79) #[] #[.pointer (some ⟨w1.heap.size, 0, none⟩)]] 123)) (.cells #[.func (.func 82) #[] #[.pointer (some ⟨w1.heap.size, 0, none⟩), .pointer (some ⟨w1.heap.size + 1, 0, none⟩), .pointer (some ⟨w1.heap.size + 1 + 1, 0, none⟩)]] 124)
        rw [e] at this; exact this, ⟨by omega, by omega⟩, by simp; omega⟩)
    have HBU := Lib.hid (show BuiF w1.heap.size w1.heap.size [] (((w1.alloc (.cells #[.pointer none, .slice none 0 0] 118)).alloc (.cells #[.func (.func 79) #[] #[.pointer (some ⟨w1.heap.size, 0, none⟩)]] 123)).alloc (.cells #[.func (.func 82) #[] #[.pointer (some ⟨w1.heap.size, 0, none⟩), .pointer (some ⟨w1.heap.size + 1, 0, none⟩), .pointer (some ⟨w1.heap.size + 1 + 1, 0, none⟩)]] 124)) from buiF_below (buiF_below (Lib.IsBuilderF.of (Lib.fresh_isBuilder _ _ w1)) ((Below.refl _ _).alloc (Nat.le_refl _) _)) ((Below.refl _ _).alloc (Nat.le_refl _) _))
    have HEN := Lib.hid (encAll nm _ w1.heap.size w1.heap.size (w1.heap.size + 1) (w1.heap.size + 1 + 1) [] v _ (((w1.alloc (.cells #[.pointer none, .slice none 0 0] 118)).alloc (.cells #[.func (.func 79) #[] #[.pointer (some ⟨w1.heap.size, 0, none⟩)]] 123)).alloc (.cells #[.func (.func 82) #[] #[.pointer (some ⟨w1.heap.size, 0, none⟩), .pointer (some ⟨w1.heap.size + 1, 0, none⟩), .pointer (some ⟨w1.heap.size + 1 + 1, 0, none⟩)]] 124)) (Nat.le_refl _) ⟨HF.out HMB.out, HR.out.below (HB1.out.trans (HB3.out.mono (by omega))) (Nat.le_refl _) (Nat.le_refl _) (by omega), HBU.out, HEV.out, by simp; omega, fun h n w' hn hb => HS.out h n w' hn ((HB1.out.trans (HB3.out.mono (by omega))).trans (hb.mono (by omega)))⟩)
    have hlt : w.heap.size < w1.heap.size := hz1
    clear hb1 hx1 hx3 HEV HBU
    go_wp2_with fail
    refine HEN.out.mono ?_
    clear HEN c0 c1 c2 c3 c4
    rintro e w4 ⟨rfl, hu4, hb4, hk4⟩
    rw [List.nil_append] at hu4
    have hne : v.enc ≠ [] := by
      rw [v.enc_eq]
      have hf := (JV.form_eq (HF.out HMB.out)).1
      rcases hf with e | ⟨e, _⟩ | ⟨e, _⟩ | e | ⟨e, _⟩ <;> rw [e]
      · by_cases h : v.n = 1 <;> simp [h]
      · exact itoa_ne v.n
      · simp [quoteL]
      · simp
      · simp
    have HU4 := Lib.hid hu4
    have HW4 := Lib.hid (HB1.out.trans ((HB3.out.trans hb4).mono (by omega)))
    have HNE := Lib.hid hne
    clear hu4 hb4 hk4 hne
    go_wp2_with fail
    refine (builderString w1.heap.size w1.heap.size v.enc _ (.inr HU4.out) HNE.out).mono ?_
    rintro e w5 ⟨rfl, hb5, -⟩
    have HW5 := Lib.hid (HW4.out.trans (hb5.mono (by omega)))
    clear hb5
    go_wp2
    go_ret2
    exact ⟨by rw [HMB.out]; rfl, HW5.out⟩

end Go.Proofs.YtaekmmnpdbmoeaaGreatDoor

namespace Go.Proofs.YtaekmmnpdbmoeaaGreatDoor
open Go.RowKit Go.Lib

/-- The library's table of powers of ten. -/
abbrev Pow10 (w : World) : Prop := Lib.TabIs Tryz.prog w "internal/strconv.uint64pow10" .u64 Lib.pow10Tab
theorem numShow (n : Int) (w : World) (hn : inI64 n) (ht : Pow10 w) :
    Calls Tryz.prog 83 #[.int .i64 n] w fun e w' => e = .returned (.string ⟨(Lib.itoa n).toArray⟩) ∧ Below w.heap.size w w' := by
  have HF := Lib.hid (Tryz.strconv_FormatInt_10 n hn.1 hn.2 w ht)
  clear ht hn
  go_enter Tryz.func83, Tryz.ntmps83
  go_wp2_with fail
  refine HF.out.mono ?_
  rintro e w' ⟨rfl, k, os, rfl⟩
  go_wp2
  go_ret
  exact ⟨rfl, below_grow _ _ (Nat.le_refl _) _ _⟩
theorem showAt {w : World} (h : Pow10 w) : ShowAt w.heap.size w := fun n w' hn hb => numShow n w' hn (Lib.tabBelow_of_tabIs h w' hb)
theorem Pow10.below {w w' : World} (h : Pow10 w) (hb : Below w.heap.size w w') : Pow10 w' := Lib.tabBelow_of_tabIs h w' hb

end Go.Proofs.YtaekmmnpdbmoeaaGreatDoor

namespace Go.Proofs.YtaekmmnpdbmoeaaGreatDoor
open Go.RowKit

theorem h40 (w : World) (a b c d : Obj) : ((((w.alloc a).alloc b).alloc c).alloc d).heap[w.heap.size]? = some a := by
  rw [Below.heap_alloc _ _ _ (by simp <;> omega), Below.heap_alloc _ _ _ (by simp <;> omega), Below.heap_alloc _ _ _ (by simp)]; exact heap_alloc_new w a
theorem h41 (w : World) (a b c d : Obj) : ((((w.alloc a).alloc b).alloc c).alloc d).heap[w.heap.size + 1]? = some b := by
  rw [Below.heap_alloc _ _ _ (by simp <;> omega), Below.heap_alloc _ _ _ (by simp)]
  have := heap_alloc_new (w.alloc a) b
  rwa [show (w.alloc a).heap.size = w.heap.size + 1 by simp] at this
theorem h42 (w : World) (a b c d : Obj) : ((((w.alloc a).alloc b).alloc c).alloc d).heap[w.heap.size + 1 + 1]? = some c := by
  rw [Below.heap_alloc _ _ _ (by simp)]
  have := heap_alloc_new ((w.alloc a).alloc b) c
  rwa [show ((w.alloc a).alloc b).heap.size = w.heap.size + 1 + 1 by simp] at this
theorem h43 (w : World) (a b c d : Obj) : ((((w.alloc a).alloc b).alloc c).alloc d).heap[w.heap.size + 1 + 1 + 1]? = some d := by
  have := heap_alloc_new (((w.alloc a).alloc b).alloc c) d
  rwa [show (((w.alloc a).alloc b).alloc c).heap.size = w.heap.size + 1 + 1 + 1 by simp] at this

theorem below_n2 (w : World) (a b : Obj) : Below w.heap.size w ((w.alloc a).alloc b) := ((Below.refl _ _).alloc (Nat.le_refl _) _).alloc (by simp) _
theorem below_n3 (w : World) (a b c : Obj) : Below w.heap.size w (((w.alloc a).alloc b).alloc c) := (below_n2 w a b).alloc (below_n2 w a b).size _
theorem below_n4 (w : World) (a b c d : Obj) : Below w.heap.size w ((((w.alloc a).alloc b).alloc c).alloc d) := (below_n3 w a b c).alloc (below_n3 w a b c).size _

theorem heap5s {W : World} {b bn : Nat} {o : Obj} {v0 v1 v2 v3 v4 : Value} (hne : bn ≠ b) (h : W.heap[bn]? = some o) :
    (((((W.setCell ⟨b, 0, none⟩ v0).setCell ⟨b, 1, none⟩ v1).setCell ⟨b, 2, none⟩ v2).setCell ⟨b, 3, none⟩ v3).setCell ⟨b, 4, none⟩ v4).heap[bn]? = some o := by
  rw [Below.heap_setCell _ _ _ _ hne, Below.heap_setCell _ _ _ _ hne, Below.heap_setCell _ _ _ _ hne, Below.heap_setCell _ _ _ _ hne, Below.heap_setCell _ _ _ _ hne]; exact h
theorem size5 {W : World} {b : Nat} {v0 v1 v2 v3 v4 : Value} : (((((W.setCell ⟨b, 0, none⟩ v0).setCell ⟨b, 1, none⟩ v1).setCell ⟨b, 2, none⟩ v2).setCell ⟨b, 3, none⟩ v3).setCell ⟨b, 4, none⟩ v4).heap.size = W.heap.size := by simp [World.setCell]

theorem rep_drew {W : World} {lo : Nat} {v : JV} {x : Value} (h : Rep W lo W.heap.size v x) : Rep W.drew lo W.drew.heap.size v x := Rep.carry (w := W) (w' := W.drew) (Nat.le_refl _) (Nat.le_refl _) (fun _ _ _ => rfl) v x h

/-- An object of two texts out of its two rows. -/
theorem rep_two {w : World} {lo hi bn bi T T' : Nat} {n1 n2 s t : ByteArray} (hn : w.heap[bn]? = some (.cells #[.string n1, .string n2] T (0, 0)))
    (hi' : w.heap[bi]? = some (.cells #[.int .u8 3, .int .i64 0, .string s, .slice none 0 0, .slice none 0 0, .int .u8 3, .int .i64 0, .string t, .slice none 0 0, .slice none 0 0] T' (0, 0))) (h1 : lo ≤ bn) (h2 : bn < hi) (h3 : lo ≤ bi) (h4 : bi < hi) :
    Rep w lo hi (.mk 5 0 { data := #[] } [n1, n2] [txtJ s, txtJ t]) (.agg #[.int .u8 5, .int .i64 0, .string { data := #[] }, .slice (some ⟨bn, 0, none⟩) 2 2, .slice (some ⟨bi, 0, none⟩) 2 2]) := by
  unfold Rep
  refine ⟨_, 2, _, 2, rfl, Nat.le_refl _, Nat.le_refl _, .inr ⟨bn, 0, rfl, h1, h2, fun i hi => ?_⟩, .inr ⟨bi, 0, rfl, h3, h4, ⟨_, T', (0, 0), hi', fun _ => rfl⟩, ?_⟩⟩
  · have h : i < 2 := hi
    match i, h with
    | 0, _ => simp [World.cell?, hn]
    | 1, _ => simp [World.cell?, hn]
  · unfold RepL RepL RepL
    have f : ∀ o, w.frozen? ⟨bi, o, none⟩ = false := fun o => by simp [World.frozen?, hi']
    exact ⟨⟨_, _, _, _, _, box_cell hi' rfl, box_cell hi' rfl, box_cell hi' rfl, box_cell hi' rfl, box_cell hi' rfl, f _, rep_txt _ _ _ _⟩, ⟨_, _, _, _, _, box_cell hi' rfl, box_cell hi' rfl, box_cell hi' rfl, box_cell hi' rfl, box_cell hi' rfl, f _, rep_txt _ _ _ _⟩, trivial⟩
/-- An object of two values out of its two rows. -/
theorem rep_vals2 {w : World} {lo hi bn bi T T' : Nat} {n1 n2 : ByteArray} {u v : JV} {a0 a1 a2 a3 a4 b0 b1 b2 b3 b4 : Value} (hn : w.heap[bn]? = some (.cells #[.string n1, .string n2] T (0, 0)))
    (hi' : w.heap[bi]? = some (.cells #[a0, a1, a2, a3, a4, b0, b1, b2, b3, b4] T' (0, 0))) (h1 : lo ≤ bn) (h2 : bn < hi) (h3 : lo ≤ bi) (h4 : bi < hi)
    (hu : Rep w lo hi u (.agg #[a0, a1, a2, a3, a4])) (hv : Rep w lo hi v (.agg #[b0, b1, b2, b3, b4])) :
    Rep w lo hi (.mk 5 0 { data := #[] } [n1, n2] [u, v]) (.agg #[.int .u8 5, .int .i64 0, .string { data := #[] }, .slice (some ⟨bn, 0, none⟩) 2 2, .slice (some ⟨bi, 0, none⟩) 2 2]) := by
  unfold Rep
  refine ⟨_, 2, _, 2, rfl, Nat.le_refl _, Nat.le_refl _, .inr ⟨bn, 0, rfl, h1, h2, fun i hi => ?_⟩, .inr ⟨bi, 0, rfl, h3, h4, ⟨_, T', (0, 0), hi', fun _ => rfl⟩, ?_⟩⟩
  · have h : i < 2 := hi
    match i, h with
    | 0, _ => simp [World.cell?, hn]
    | 1, _ => simp [World.cell?, hn]
  · unfold RepL RepL RepL
    have f : ∀ o, w.frozen? ⟨bi, o, none⟩ = false := fun o => by simp [World.frozen?, hi']
    exact ⟨⟨_, _, _, _, _, box_cell hi' rfl, box_cell hi' rfl, box_cell hi' rfl, box_cell hi' rfl, box_cell hi' rfl, f _, hu⟩, ⟨_, _, _, _, _, box_cell hi' rfl, box_cell hi' rfl, box_cell hi' rfl, box_cell hi' rfl, box_cell hi' rfl, f _, hv⟩, trivial⟩

theorem grow_cellB {W wr w' : World} {row : Option Nat} {b j : Nat} {u : Value} (h : W.grownBy w' row) (hb : Below wr.heap.size wr W) (hlt : b < wr.heap.size) (hn : some b ≠ row) (hc : wr.cell? ⟨b, j, none⟩ = some u) : w'.cell? ⟨b, j, none⟩ = some u := by
  rw [World.cell?_of_block (w := wr) (show w'.heap[b]? = wr.heap[b]? by rw [h.block b (Nat.lt_of_lt_of_le hlt hb.size) hn, hb.block b hlt])]; exact hc
theorem grow_frozenB {W wr w' : World} {row : Option Nat} {b j : Nat} (h : W.grownBy w' row) (hb : Below wr.heap.size wr W) (hlt : b < wr.heap.size) (hn : some b ≠ row) (hc : wr.frozen? ⟨b, j, none⟩ = false) : w'.frozen? ⟨b, j, none⟩ = false := by
  have e : w'.heap[b]? = wr.heap[b]? := by rw [h.block b (Nat.lt_of_lt_of_le hlt hb.size) hn, hb.block b hlt]
  unfold World.frozen? at hc ⊢
  rw [e]; exact hc

end Go.Proofs.YtaekmmnpdbmoeaaGreatDoor

namespace Go.Proofs.YtaekmmnpdbmoeaaGreatDoor
open Go.RowKit

theorem kept_blk {w w' : World} {p : Nat} {o : Obj} (hb : Below w.heap.size w w') (h : w.heap[p]? = some o) : w'.heap[p]? = some o := by rw [hb.block _ (heap_lt h)]; exact h
theorem old_blk {w : World} {p : Nat} {o x : Obj} (h : w.heap[p]? = some o) : (w.alloc x).heap[p]? = some o := by rw [Below.heap_alloc _ _ _ (heap_lt h)]; exact h
theorem kcells2 {W X : World} {b T : Nat} {c0 c1 : Value} (h : W.heap[b]? = some (.cells #[c0, c1] T (0, 0))) (hb : Below W.heap.size W X) : X.cell? ⟨b, 0, none⟩ = some c0 ∧ X.cell? ⟨b, 1, none⟩ = some c1 := by
  have := kept_blk hb h
  exact ⟨box_cell this rfl, box_cell this rfl⟩
theorem kcells5 {W X : World} {b T : Nat} {c0 c1 c2 c3 c4 : Value} (h : W.heap[b]? = some (.cells #[c0, c1, c2, c3, c4] T (0, 0))) (hb : Below W.heap.size W X) :
    X.cell? ⟨b, 0, none⟩ = some c0 ∧ X.cell? ⟨b, 1, none⟩ = some c1 ∧ X.cell? ⟨b, 2, none⟩ = some c2 ∧ X.cell? ⟨b, 3, none⟩ = some c3 ∧ X.cell? ⟨b, 4, none⟩ = some c4 := by
  have := kept_blk hb h
  exact ⟨box_cell this rfl, box_cell this rfl, box_cell this rfl, box_cell this rfl, box_cell this rfl⟩
theorem below_now {W X : World} {o : Obj} (hb : Below W.heap.size W X) : Below W.heap.size W (X.alloc o) := hb.alloc hb.size _

theorem hSN' {W X : World} {a : Option Addr} {l : List ByteArray} (h : StrsAt W 0 W.heap.size a l) (hb : Below W.heap.size W X) : StrsAt X 0 X.heap.size a l := h.below hb (Nat.le_refl _) (Nat.le_refl _) hb.size
/-- A value that lies in a row of one. -/
theorem vals_one {w : World} {hi g T : Nat} {v : JV} {c0 c1 c2 c3 c4 : Value} (h : w.heap[g]? = some (.cells #[c0, c1, c2, c3, c4] T (0, 0))) (hg : g < hi) (hR : Rep w 0 hi v (.agg #[c0, c1, c2, c3, c4])) : ValsAt w 0 hi (some ⟨g, 0, none⟩) [v] := by
  refine .inr ⟨g, 0, rfl, Nat.zero_le _, hg, ⟨_, _, _, h, fun _ => rfl⟩, ?_⟩
  unfold RepL RepL
  exact ⟨⟨c0, c1, c2, c3, c4, box_cell h rfl, box_cell h rfl, box_cell h rfl, box_cell h rfl, box_cell h rfl, by simp [World.frozen?, h], hR⟩, trivial⟩

end Go.Proofs.YtaekmmnpdbmoeaaGreatDoor

namespace Go.Proofs.YtaekmmnpdbmoeaaGreatDoor
open Go.RowKit

theorem grown_refl (w : World) (row : Option Nat) : w.grownBy w row := ⟨rfl, rfl, rfl, Nat.le_refl _, fun _ _ _ => rfl⟩
theorem run_append_zero {P : Program} {w : World} (base : Nat) (t ty e : TypeId) (i : TypeInfo) (size : Nat) (ht : P.underlying t = some (.slice e)) (hi : P.info? e = some i)
    (v : Value) (n : Nat) (xs : List Value) (hown : w.ownsRow base e size v n xs) (sa : Option Addr) (c : Nat) :
    (Builtin.append_ #[t, t] ty #[v, .slice sa 0 c]).run P w = .ok v w := by
  rcases hown.2 with ⟨rfl, rfl⟩ | ⟨g, cap, cur, rfl, _, _, hnc, _⟩
  · cases sa <;> simp [Builtin.append_, run_underlying ht, sizeOf, typeInfo, hi, Builtin.lenOf, Builtin.firstCells, loadCells, loadCellsFrom]
  · cases sa <;> simp [Builtin.append_, run_underlying ht, sizeOf, typeInfo, hi, Builtin.lenOf, Builtin.firstCells, hnc, storeCells, loadCells, loadCellsFrom]
theorem owns_slice {w : World} {base e size n : Nat} {v : Value} {xs : List Value} (h : w.ownsRow base e size v n xs) : ∃ a c, v = .slice a n c := by
  rcases h.2 with ⟨rfl, rfl⟩ | ⟨g, cap, cur, rfl, _⟩
  · exact ⟨none, 0, rfl⟩
  · exact ⟨_, _, rfl⟩

theorem wp_append_any {P : Program} {w : World} {o : Oper} {a : Act} {K : Act → World → Prop} {Q : Exit → Act → World → Prop} (s x : Operand) (t : TypeId)
    (ho : o.op = .call { callee := .builtin .append, args := #[s, x], argTypes := #[t, t] })
    (base : Nat) (e : TypeId) (i : TypeInfo) (z : Value) (size bytes : Nat) (ht : P.underlying t = some (.slice e)) (hi : P.info? e = some i) (hz : i.zero = some z)
    (hsize : i.size = size) (hby : i.bytes = bytes) (hzs : z.cells.size = size) (hsz : 0 < size)
    (v : Value) (n : Nat) (xs : List Value) (hs : a.eval s = v) (hown : w.ownsRow base e size v n xs)
    (sa : Option Addr) (m c : Nat) (news : List Value) (hx : a.eval x = .slice sa m c) (hl : news.length = m * size) (hnews : 0 < m → ∃ ad, sa = some ad ∧ ∀ j u, news[j]? = some u → w.cell? (ad.add j) = some u) (h1 : ∀ u ∈ news, u.oneCell' = true)
    (h63 : n + m ≤ maxLen) (hbytes : (n + m) * bytes ≤ 140737488355328) (hbase : base ≤ w.heap.size) (H : Nat) (hH : w.heap.size = H)
    (h : ∀ a2 c2 w', w'.ownsRow base e size (.slice a2 (n + m) c2) (n + m) (xs ++ news) → w.grownBy w' v.ownBlock → ((Value.slice a2 (n + m) c2).ownBlock = v.ownBlock ∨ (Value.slice a2 (n + m) c2).ownBlock = some H) → K (a.put o.dst (.slice a2 (n + m) c2)) w') : Oper.wp P o a w K Q := by
  by_cases hm : 0 < m
  · obtain ⟨ad, rfl, hn⟩ := hnews hm
    refine wp_append_lies w s x t ho base e i z size bytes ht hi hz hsize hby hzs hsz v n xs hs hown ad m c news hx hl hn h1 hm h63 hbytes hbase H hH fun g cap w' h2 h3 h4 _ => h _ _ _ h2 h3 ?_
    rcases h4 with h4 | h4
    · exact .inl h4.symm
    · exact .inr (by rw [h4]; rfl)
  · obtain rfl : m = 0 := by omega
    obtain rfl : news = [] := List.eq_nil_of_length_eq_zero (by simpa using hl)
    obtain ⟨a2, c2, rfl⟩ := owns_slice hown
    have hrun := run_append_zero (P := P) (w := w) base t o.type e i size ht hi _ n xs hown sa c
    unfold Oper.wp
    simp [execOp, ho, resolve, invoke, builtin, hs, hx, hrun, Result.andThen]
    exact h a2 c2 w (by simpa using hown) (grown_refl _ _) (.inl rfl)
theorem wpList_append_any {P : Program} (w : World) {ops : Array Oper} {rest : List Oper} {o : Oper} {a : Act} {Q : Exit → Act → World → Prop} (hgd : o.guard = none) (s x : Operand) (t : TypeId)
    (ho : o.op = .call { callee := .builtin .append, args := #[s, x], argTypes := #[t, t] })
    (base : Nat) (e : TypeId) (i : TypeInfo) (z : Value) (size bytes : Nat) (ht : P.underlying t = some (.slice e)) (hi : P.info? e = some i) (hz : i.zero = some z)
    (hsize : i.size = size) (hby : i.bytes = bytes) (hzs : z.cells.size = size) (hsz : 0 < size)
    (v : Value) (n : Nat) (xs : List Value) (hs : a.eval s = v) (hown : w.ownsRow base e size v n xs)
    (sa : Option Addr) (m c : Nat) (news : List Value) (hx : a.eval x = .slice sa m c) (hl : news.length = m * size) (hnews : 0 < m → ∃ ad, sa = some ad ∧ ∀ j u, news[j]? = some u → w.cell? (ad.add j) = some u) (h1 : ∀ u ∈ news, u.oneCell' = true)
    (h63 : n + m ≤ maxLen) (hbytes : (n + m) * bytes ≤ 140737488355328) (hbase : base ≤ w.heap.size) (H : Nat) (hH : w.heap.size = H)
    (h : ∀ a2 c2 w', w'.ownsRow base e size (.slice a2 (n + m) c2) (n + m) (xs ++ news) → w.grownBy w' v.ownBlock → ((Value.slice a2 (n + m) c2).ownBlock = v.ownBlock ∨ (Value.slice a2 (n + m) c2).ownBlock = some H) → wpList P ops Q rest (a.put o.dst (.slice a2 (n + m) c2)) w') : wpList P ops Q (o :: rest) a w :=
  wpList_plain hgd fun _ hK => wp_append_any s x t ho base e i z size bytes ht hi hz hsize hby hzs hsz v n xs hs hown sa m c news hx hl hnews h1 h63 hbytes hbase H hH fun a2 c2 w' h2 h3 h4 => hK _ _ (h a2 c2 w' h2 h3 h4)
theorem step_append_any {P : Program} (w : World) {ops : Array Oper} {o : Oper} {a : Act} {K : Act → World → Prop} {Q : Exit → Act → World → Prop} {E : Prop} (hgd : o.guard = none) (s x : Operand) (t : TypeId)
    (ho : o.op = .call { callee := .builtin .append, args := #[s, x], argTypes := #[t, t] })
    (base : Nat) (e : TypeId) (i : TypeInfo) (z : Value) (size bytes : Nat) (ht : P.underlying t = some (.slice e)) (hi : P.info? e = some i) (hz : i.zero = some z)
    (hsize : i.size = size) (hby : i.bytes = bytes) (hzs : z.cells.size = size) (hsz : 0 < size)
    (v : Value) (n : Nat) (xs : List Value) (hs : a.eval s = v) (hown : w.ownsRow base e size v n xs)
    (sa : Option Addr) (m c : Nat) (news : List Value) (hx : a.eval x = .slice sa m c) (hl : news.length = m * size) (hnews : 0 < m → ∃ ad, sa = some ad ∧ ∀ j u, news[j]? = some u → w.cell? (ad.add j) = some u) (h1 : ∀ u ∈ news, u.oneCell' = true)
    (h63 : n + m ≤ maxLen) (hbytes : (n + m) * bytes ≤ 140737488355328) (hbase : base ≤ w.heap.size) (H : Nat) (hH : w.heap.size = H)
    (h : ∀ a2 c2 w', w'.ownsRow base e size (.slice a2 (n + m) c2) (n + m) (xs ++ news) → w.grownBy w' v.ownBlock → ((Value.slice a2 (n + m) c2).ownBlock = v.ownBlock ∨ (Value.slice a2 (n + m) c2).ownBlock = some H) → K (a.put o.dst (.slice a2 (n + m) c2)) w') :
    if Region.wanted o (yielded ops a.tmps) = true then Oper.wp P o a w K Q else E := by
  have hw : Region.wanted o (yielded ops a.tmps) = true := by simp [Region.wanted, hgd]
  rw [if_pos hw]
  exact wp_append_any s x t ho base e i z size bytes ht hi hz hsize hby hzs hsz v n xs hs hown sa m c news hx hl hnews h1 h63 hbytes hbase H hH h

end Go.Proofs.YtaekmmnpdbmoeaaGreatDoor

namespace Go.Proofs.YtaekmmnpdbmoeaaGreatDoor
open Go.RowKit

def encK (k : Key2) : List Value := [.string k.1, .string k.2]
theorem flatK_get {M : List Key2} (i : Nat) (hi : i < M.length) : (M.flatMap encK)[i * 2]? = some (.string M[i].1) ∧ (M.flatMap encK)[i * 2 + 1]? = some (.string M[i].2) := by
  induction M generalizing i with
  | nil => simp at hi
  | cons k r ih =>
    rw [List.flatMap_cons]
    rcases i with _ | i
    · exact ⟨rfl, rfl⟩
    · have := ih i (by simpa using hi)
      rw [List.getElem?_append_right (by simp [encK]; omega), List.getElem?_append_right (by simp [encK]; omega)]
      have e1 : (i + 1) * 2 - (encK k).length = i * 2 := by simp [encK]; omega
      have e2 : (i + 1) * 2 + 1 - (encK k).length = i * 2 + 1 := by simp [encK]; omega
      rw [e1, e2]
      exact this
theorem owns_keys {w : World} {base e : Nat} {v : Value} {n : Nat} {M : List Key2} (h : w.ownsRow base e 2 v n (M.flatMap encK)) (hn : n = M.length) :
    ∃ a c, v = .slice a M.length c ∧ KeysAt w base w.heap.size a M := by
  subst hn
  rcases h.2 with ⟨rfl, h0⟩ | ⟨g, cap, cur, rfl, hg, hh, hc, hm, hs, ht⟩
  · exact ⟨none, 0, by rw [h0], .inl (List.eq_nil_of_length_eq_zero h0)⟩
  · refine ⟨_, _, rfl, .inr ⟨g, 0, rfl, hg, heap_lt hh, fun i hi => ?_⟩⟩
    have ea : ∀ j, (⟨g, 0, none⟩ : Addr).add j = ⟨g, 0 + j, none⟩ := fun j => by unfold Addr.add; split <;> simp_all
    have h1 := h.cells (g := g) rfl _ _ (flatK_get i hi).1
    have h2 := h.cells (g := g) rfl _ _ (flatK_get i hi).2
    rw [ea] at h1 h2
    exact ⟨h1, by rw [Nat.add_assoc]; exact h2⟩
theorem below_grown {B : Nat} {W w w' : World} {v : Value} (hb : Below B W w) (hBw : B ≤ w.heap.size) (hg : w.grownBy w' v.ownBlock) (hown : ∀ b, v.ownBlock = some b → B ≤ b) : Below B W w' := by
  refine ⟨by rw [hg.os, hb.os], by rw [hg.tape, hb.tape], by rw [hg.output, hb.output], Nat.le_trans hb.size hg.size, fun b hlt => ?_⟩
  rw [hg.block b (by omega) (fun e => by have := hown b e.symm; omega)]
  exact hb.block b hlt

theorem infoKey : (Tryz.prog.info? 24).map (fun i => (i.zero, i.size, i.bytes)) = some (some (.agg #[.string { data := #[] }, .string { data := #[] }]), 2, 32) := by kernel_rfl

theorem keys_blk1 {w : World} {g T : Nat} {cs : Array Value} {l : List Key2} (h : w.heap[g]? = some (.cells cs T (0, 0))) (hc : cs.toList = l.flatMap encK) : KeysAt w g (g + 1) (some ⟨g, 0, none⟩) l := by
  refine .inr ⟨g, 0, rfl, Nat.le_refl _, Nat.lt_succ_self _, fun i hi => ?_⟩
  obtain ⟨e0, e1⟩ := flatK_get (M := l) i hi
  rw [← hc, Array.getElem?_toList] at e0 e1
  exact ⟨box_cell h (by rw [Nat.zero_add]; exact e0), box_cell h (by rw [Nat.zero_add]; exact e1)⟩
theorem keys_blk {w : World} {g T : Nat} {cs : Array Value} {l : List Key2} (h : w.heap[g]? = some (.cells cs T (0, 0))) (hc : cs.toList = l.flatMap encK) : KeysAt w 0 w.heap.size (some ⟨g, 0, none⟩) l := (keys_blk1 h hc).carry (Nat.zero_le _) (heap_lt h) fun _ _ _ => rfl

end Go.Proofs.YtaekmmnpdbmoeaaGreatDoor

namespace Go.Proofs.YtaekmmnpdbmoeaaGreatDoor
open Go.RowKit

/-- A fact on a value that stays while memory grows. -/
structure MP where
  p : World → Value → Prop
  mono : ∀ (w w' : World) (x : Value), Below w.heap.size w w' → p w x → p w' x
def MP.con (v : Value) : MP := ⟨fun _ x => x = v, fun _ _ _ _ h => h⟩
def MP.any : MP := ⟨fun _ _ => True, fun _ _ _ _ h => h⟩
/-- A slice over a new block of these cells. -/
def IsRow (B n T : Nat) (cs : Array Value) (w : World) (x : Value) : Prop := ∃ b, B ≤ b ∧ x = .slice (some ⟨b, 0, none⟩) n n ∧ w.heap[b]? = some (.cells cs T (0, 0))
theorem IsRow.mono {B n T : Nat} {cs : Array Value} {w w' : World} {x : Value} (hb : Below w.heap.size w w') (h : IsRow B n T cs w x) : IsRow B n T cs w' x := by
  obtain ⟨b, h1, h2, h3⟩ := h
  exact ⟨b, h1, h2, by rw [hb.block _ (heap_lt h3)]; exact h3⟩
theorem IsRow.made {w : World} {B n T : Nat} (cs : Array Value) (hB : B ≤ w.heap.size) : IsRow B n T cs (w.alloc (.cells cs T)) (.slice (some ⟨w.heap.size, 0, none⟩) n n) := ⟨_, hB, rfl, heap_alloc_new w _⟩
def MP.row (B n T : Nat) (cs : Array Value) : MP := ⟨IsRow B n T cs, fun _ _ _ hb h => h.mono hb⟩
/-- An object's value out of the rows of its names and its items. -/
def IsObj (B T1 T2 : Nat) (n1 n2 : Array Value) (w : World) (x : Value) : Prop := ∃ y z, x = .agg #[.int .u8 5, .int .i64 0, .string { data := #[] }, y, z] ∧ IsRow B 2 T1 n1 w y ∧ IsRow B 2 T2 n2 w z
def MP.obj (B T1 T2 : Nat) (n1 n2 : Array Value) : MP := ⟨IsObj B T1 T2 n1 n2, fun _ _ _ hb ⟨y, z, h1, h2, h3⟩ => ⟨y, z, h1, h2.mono hb, h3.mono hb⟩⟩
/-- A row of one such object. -/
def IsOne (B T T1 T2 : Nat) (n1 n2 : Array Value) (w : World) (x : Value) : Prop := ∃ y z, IsRow B 1 T #[.int .u8 5, .int .i64 0, .string { data := #[] }, y, z] w x ∧ IsRow B 2 T1 n1 w y ∧ IsRow B 2 T2 n2 w z
def MP.one (B T T1 T2 : Nat) (n1 n2 : Array Value) : MP := ⟨IsOne B T T1 T2 n1 n2, fun _ _ _ hb ⟨y, z, h1, h2, h3⟩ => ⟨y, z, h1.mono hb, h2.mono hb, h3.mono hb⟩⟩

def RegI (wb : World) (V : List MP) (d : Nat → Prop) (w' : World) (xs : List Value) : Prop :=
  Below wb.heap.size wb w' ∧ xs.length = V.length ∧ ∀ (j : Nat) (m : MP) (x : Value), V[j]? = some m → xs[j]? = some x → d j → m.p w' x
theorem RegI.first (wb : World) (V : List MP) (xs : List Value) (h : xs.length = V.length) : RegI wb V (fun _ => False) wb.drew xs := ⟨(Below.refl _ _).drew, h, fun _ _ _ _ _ hd => hd.elim⟩
theorem RegI.get {wb w' : World} {V : List MP} {d : Nat → Prop} {xs : List Value} (h : RegI wb V d w' xs) (j : Nat) (hd : d j) (m : MP) (hV : V[j]? = some m) (x : Value) (hx : xs[j]? = some x) : m.p w' x := h.2.2 j m x hV hx hd
theorem RegI.did {wb w' w'' : World} {V : List MP} {d : Nat → Prop} {xs : List Value} (h : RegI wb V d w' xs) (hb : Below w'.heap.size w' w'') (j : Nat) (y : Value) (m : MP) (hV : V[j]? = some m) (hy : m.p w'' y) : RegI wb V (fun i => i = j ∨ d i) w'' (xs.set j y) := by
  refine ⟨h.1.trans (hb.mono h.1.size), by rw [List.length_set]; exact h.2.1, fun i m' x hm hx hd => ?_⟩
  by_cases e : i = j
  · subst e
    rw [hV] at hm
    cases hm
    have hl : i < xs.length := by rw [h.2.1]; exact (List.getElem?_eq_some_iff.1 hV).1
    rw [List.getElem?_set_self hl] at hx
    cases hx
    exact hy
  · rw [List.getElem?_set_ne (Ne.symm e)] at hx
    exact m'.mono _ _ _ hb (h.2.2 i m' x hm hx (hd.resolve_left e))
theorem RegI.same {wb w' : World} {V : List MP} {d : Nat → Prop} {xs : List Value} (h : RegI wb V d w' xs) (j : Nat) (y : Value) (m : MP) (hV : V[j]? = some m) (hy : m.p w' y) : RegI wb V (fun i => i = j ∨ d i) w' (xs.set j y) := h.did (Below.refl _ _) j y m hV hy
theorem RegI.new {wb w' : World} {V : List MP} {d : Nat → Prop} {xs : List Value} (h : RegI wb V d w' xs) (o : Obj) (j : Nat) (y : Value) (m : MP) (hV : V[j]? = some m) (hy : m.p (w'.alloc o) y) : RegI wb V (fun i => i = j ∨ d i) (w'.alloc o) (xs.set j y) := h.did ((Below.refl _ _).alloc (Nat.le_refl _) _) j y m hV hy

end Go.Proofs.YtaekmmnpdbmoeaaGreatDoor

namespace Go.Proofs.YtaekmmnpdbmoeaaGreatDoor
open Go.RowKit

/-- Slots whose value is known, whatever memory does. -/
def ConI (wb : World) (V : List (Option Value)) (d : Nat → Prop) (w' : World) (xs : List Value) : Prop :=
  Below wb.heap.size wb w' ∧ xs.length = V.length ∧ ∀ (j : Nat) (v x : Value), V[j]? = some (some v) → xs[j]? = some x → d j → x = v
theorem ConI.first (wb : World) (V : List (Option Value)) (xs : List Value) (h : xs.length = V.length) : ConI wb V (fun _ => False) wb.drew xs := ⟨(Below.refl _ _).drew, h, fun _ _ _ _ _ hd => hd.elim⟩
theorem ConI.get {wb w' : World} {V : List (Option Value)} {d : Nat → Prop} {xs : List Value} (h : ConI wb V d w' xs) (j : Nat) (hd : d j) (v : Value) (hV : V[j]? = some (some v)) (x : Value) (hx : xs[j]? = some x) : x = v := h.2.2 j v x hV hx hd
theorem ConI.did {wb w' w'' : World} {V : List (Option Value)} {d : Nat → Prop} {xs : List Value} (h : ConI wb V d w' xs) (hb : Below wb.heap.size wb w'') (j : Nat) (y : Value) (o : Option Value) (hV : V[j]? = some o) (hy : ∀ v, o = some v → y = v) : ConI wb V (fun i => i = j ∨ d i) w'' (xs.set j y) := by
  refine ⟨hb, by rw [List.length_set]; exact h.2.1, fun i v x hm hx hd => ?_⟩
  by_cases e : i = j
  · subst e
    rw [hV] at hm
    have hl : i < xs.length := by rw [h.2.1]; exact (List.getElem?_eq_some_iff.1 hV).1
    rw [List.getElem?_set_self hl] at hx
    cases hx
    exact hy v (Option.some.inj hm)
  · rw [List.getElem?_set_ne (Ne.symm e)] at hx
    exact h.2.2 i v x hm hx (hd.resolve_left e)
theorem ConI.same {wb w' : World} {V : List (Option Value)} {d : Nat → Prop} {xs : List Value} (h : ConI wb V d w' xs) (j : Nat) (y v : Value) (hV : V[j]? = some (some v)) (hy : y = v) : ConI wb V (fun i => i = j ∨ d i) w' (xs.set j y) :=
  h.did h.1 j y (some v) hV fun v' e => by cases e; exact hy

structure Chn (H T : Nat) (L : List Value) (one : Array Value) (i : Nat) (d : Nat → Prop) (w' : World) (y0 y1 y2 y3 : Value) : Prop where
  o1 : d 5 → d 0
  o2 : d 8 → d 5 ∧ d 7
  own0 : d 0 → ¬ d 5 → w'.ownsRow H T 2 y0 0 []
  own1 : d 5 → ¬ d 8 → w'.ownsRow H T 2 y1 i L
  row : d 7 → ¬ d 8 → ∃ b, y2 = .slice (some ⟨b, 0, none⟩) 1 1 ∧ H ≤ b ∧ w'.heap[b]? = some (.cells one T (0, 0)) ∧ (d 0 → ¬ d 5 → y0.ownBlock ≠ some b) ∧ (d 5 → y1.ownBlock ≠ some b)
  own2 : d 8 → w'.ownsRow H T 2 y3 (i + 1) (L ++ one.toList)
variable {H T i : Nat} {L : List Value} {one : Array Value} {d : Nat → Prop} {w' w2 : World} {y0 y1 y2 y3 : Value}
theorem Chn.first (w' : World) (y0 y1 y2 y3 : Value) : Chn H T L one i (fun _ => False) w' y0 y1 y2 y3 := ⟨fun h => h.elim, fun h => h.elim, fun h => h.elim, fun h => h.elim, fun h => h.elim, fun h => h.elim⟩
theorem Chn.same (h : Chn H T L one i d w' y0 y1 y2 y3) (k : Nat) (h0 : k ≠ 0) (h5 : k ≠ 5) (h7 : k ≠ 7) (h8 : k ≠ 8) : Chn H T L one i (fun j => j = k ∨ d j) w' y0 y1 y2 y3 := by
  have e : ∀ q, q ≠ k → ((q = k ∨ d q) ↔ d q) := fun q hq => ⟨fun h => h.resolve_left hq, .inr⟩
  have e0 := e 0 (Ne.symm h0); have e5 := e 5 (Ne.symm h5); have e7 := e 7 (Ne.symm h7); have e8 := e 8 (Ne.symm h8)
  exact ⟨by rw [e0, e5]; exact h.o1, by rw [e5, e7, e8]; exact h.o2, by rw [e0, e5]; exact h.own0, by rw [e5, e8]; exact h.own1, by rw [e0, e5, e7, e8]; exact h.row, by rw [e8]; exact h.own2⟩
theorem Chn.s0 (h : Chn H T L one i d w' y0 y1 y2 y3) (hH : H ≤ w'.heap.size) (hn : ¬ d 0) :
    Chn H T L one i (fun j => j = 0 ∨ d j) (w'.alloc (.cells #[] T)) (.slice (some ⟨w'.heap.size, 0, none⟩) 0 0) y1 y2 y3 := by
  have n5 : ¬ d 5 := fun h5 => hn (h.o1 h5)
  have n8 : ¬ d 8 := fun h8 => n5 (h.o2 h8).1
  refine ⟨fun _ => .inl rfl, fun h8 => (n8 (h8.resolve_left (by decide))).elim, fun _ _ => World.ownsRow_made w' #[] 0 hH (Nat.zero_le _) (by simp), fun h5 => (n5 (h5.resolve_left (by decide))).elim, fun h7 _ => ?_, fun h8 => (n8 (h8.resolve_left (by decide))).elim⟩
  obtain ⟨b, e1, e2, e3, _, _⟩ := h.row (h7.resolve_left (by decide)) n8
  have hlt := heap_lt e3
  exact ⟨b, e1, e2, by rw [Below.heap_alloc _ _ _ hlt]; exact e3, fun _ _ hx => by simp [Value.ownBlock] at hx; omega, fun h5 => (n5 (h5.resolve_left (by decide))).elim⟩
theorem Chn.s7 (h : Chn H T L one i d w' y0 y1 y2 y3) (hH : H ≤ w'.heap.size) (hn : ¬ d 7) :
    Chn H T L one i (fun j => j = 7 ∨ d j) (w'.alloc (.cells one T)) y0 y1 (.slice (some ⟨w'.heap.size, 0, none⟩) 1 1) y3 := by
  have n8 : ¬ d 8 := fun h8 => hn (h.o2 h8).2
  have r : ∀ q, q ≠ 7 → (q = 7 ∨ d q) → d q := fun q hq h => h.resolve_left hq
  refine ⟨fun h5 => .inr (h.o1 (r 5 (by decide) h5)), fun h8 => (n8 (r 8 (by decide) h8)).elim, fun a b => (h.own0 (r 0 (by decide) a) fun h5 => b (.inr h5)).alloc _, fun a b => (h.own1 (r 5 (by decide) a) fun h8 => b (.inr h8)).alloc _, fun _ _ => ?_, fun h8 => (n8 (r 8 (by decide) h8)).elim⟩
  refine ⟨w'.heap.size, rfl, hH, heap_alloc_new w' _, fun a b e => ?_, fun a e => ?_⟩
  · have := ((h.own0 (r 0 (by decide) a) fun h5 => b (.inr h5)).lt _ e).2; omega
  · have := ((h.own1 (r 5 (by decide) a) n8).lt _ e).2; omega
theorem Chn.s5 (h : Chn H T L one i d w' y0 y1 y2 y3) (h0 : d 0) (hn : ¬ d 5) {a2 : Option Addr} {c2 : Nat} (ho : w2.ownsRow H T 2 (.slice a2 (0 + i) c2) (0 + i) ([] ++ L)) (hg : w'.grownBy w2 y0.ownBlock)
    (hat : (Value.slice a2 (0 + i) c2).ownBlock = y0.ownBlock ∨ (Value.slice a2 (0 + i) c2).ownBlock = some w'.heap.size) :
    Chn H T L one i (fun j => j = 5 ∨ d j) w2 y0 (.slice a2 (0 + i) c2) y2 y3 := by
  have n8 : ¬ d 8 := fun h8 => hn (h.o2 h8).1
  have r : ∀ q, q ≠ 5 → (q = 5 ∨ d q) → d q := fun q hq h => h.resolve_left hq
  rw [Nat.zero_add] at *
  refine ⟨fun _ => .inr h0, fun h8 => (n8 (r 8 (by decide) h8)).elim, fun _ b => (b (.inl rfl)).elim, fun _ _ => ho, fun h7 _ => ?_, fun h8 => (n8 (r 8 (by decide) h8)).elim⟩
  obtain ⟨b, e1, e2, e3, e4, _⟩ := h.row (r 7 (by decide) h7) n8
  have hne := e4 h0 hn
  have hlt := heap_lt e3
  refine ⟨b, e1, e2, by rw [hg.block b hlt (fun e => hne e.symm)]; exact e3, fun _ b => (b (.inl rfl)).elim, fun _ e => ?_⟩
  rcases hat with ha | ha
  · exact hne (ha.symm.trans e)
  · rw [ha] at e; cases e; omega
theorem Chn.s8 (h : Chn H T L one i d w' y0 y1 y2 y3) (h5 : d 5) (h7 : d 7) {v : Value} (ho : w2.ownsRow H T 2 v (i + 1) (L ++ one.toList)) :
    Chn H T L one i (fun j => j = 8 ∨ d j) w2 y0 y1 y2 v :=
  ⟨fun _ => .inr (h.o1 h5), fun _ => ⟨.inr h5, .inr h7⟩, fun _ b => (b (.inr h5)).elim, fun _ b => (b (.inl rfl)).elim, fun _ b => (b (.inl rfl)).elim, fun _ => ho⟩

/-- What is to be appended, of rows that lie in memory. -/
theorem news_keysW {w : World} {lo hi : Nat} {a : Option Addr} {l : List Key2} (hR : KeysAt w lo hi a l) : 0 < l.length → ∃ ad', a = some ad' ∧ ∀ j u, (l.flatMap encK)[j]? = some u → w.cell? (ad'.add j) = some u := fun h0 => by
  rcases hR with h | ⟨b, off, h, _, hb, hc⟩
  · subst h; simp at h0
  · refine ⟨⟨b, off, none⟩, h, fun j u hj => ?_⟩
    have hlen : ∀ r : List Key2, (r.flatMap encK).length = 2 * r.length := fun r => by
      induction r with
      | nil => rfl
      | cons v r ih => rw [List.flatMap_cons, List.length_append, ih]; show 2 + 2 * r.length = 2 * (r.length + 1); omega
    obtain ⟨hjl, _⟩ := List.getElem?_eq_some_iff.1 hj
    rw [hlen] at hjl
    have hj2 : j / 2 < l.length := by omega
    obtain ⟨g0, g1⟩ := flatK_get (M := l) (j / 2) hj2
    obtain ⟨h1, h2⟩ := hc (j / 2) hj2
    rw [addr_add0 b off j]
    rcases Nat.mod_two_eq_zero_or_one j with hq | hq
    · have ej : j / 2 * 2 = j := by omega
      rw [ej] at g0 h1
      rw [g0] at hj; cases hj; exact h1
    · have ej : j / 2 * 2 + 1 = j := by omega
      rw [ej] at g1
      rw [show off + j / 2 * 2 + 1 = off + j by omega] at h2
      rw [g1] at hj; cases hj; exact h2

end Go.Proofs.YtaekmmnpdbmoeaaGreatDoor
