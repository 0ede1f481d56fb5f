/- canon.Encode's writing closure at an object; and whole. The contract of canon.Encode. The contracts of a picker's methods: Err, Fail, Text, Done. The contracts of pick.Of, of a picker's Done, and of Text and Done where the value is no object. The contract of key.Of. 'v.Names, v.Items = append(v.Names, x), append(v.Items, it)': both rows grow, then both cells are stored. No program in sight. What the examples come to, as plain data. Small joins: blocks and cells that stay; a value in a row of one. No program in sight. append of a slice that may be empty, onto a row that the call owns: a law for the walk, in and out of drawn regions. No program in sight. -/
import Derived.Test.YtcahpjejpimdhaaGreatDoorZt214
import Derived.StillTailTactics
import Derived.Laws.EntriesVeiled
import Derived.Test.YtcahpjejpimdhaaGreatDoorZt209
import Derived.Maps.OwnOps
import Derived.Test.YtcahpjejpimdhaaGreatDoorZt211
import Derived.Test.YtcahpjejpimdhaaGreatDoorZt212
import Derived.Test.YtcahpjejpimdhaaGreatDoorZt213
import Derived.Deep.AppendLies
import Derived.Laws.AppendOwnNone

namespace Go.Proofs.YtcahpjejpimdhaaGreatDoor
open Go.RowKit

set_option maxHeartbeats 400000 in
set_option maxRecDepth 100000 in
theorem enc_obj (nm : Bool) (N : Nat) (ih : EncTo nm N) (B b tb fb : Nat) (bs : List Value) (v : JV) (x : Value) (w : World) (hN : v.wt ≤ N + 1) (hA : EncArgs nm B b tb fb bs v x w) (hk : v.kind = 5) :
    Calls Tryz.prog 62 #[x, .pointer (some ⟨b, 0, none⟩), .pointer (some ⟨tb, 0, none⟩), .pointer (some ⟨fb, 0, none⟩)] w (EncPost B b bs v w) := by
  obtain ⟨hf, hR, hB, hE, hl, hS⟩ := hA
  have hbw : b < w.heap.size := by
    rcases hB with h | h
    · exact h.lt
    · exact h.lt
  obtain ⟨an, cn, ai, ci, rfl, h1, h2, h3, h4⟩ := hR.parts
  obtain ⟨b1, b2, b3, b4⟩ := v.wt_bd
  have hpos := v.wt_pos
  have hle := hE.le
  have hfs := (JV.form_eq hf).2
  obtain ⟨hnl, htx⟩ : v.names.length = v.items.length ∧ ∀ i (h : i < v.names.length), txtOk v.names[i] = true := by
    rcases (JV.form_eq hf).1 with e | ⟨e, _⟩ | ⟨e, _⟩ | e | ⟨_, e⟩ <;> first | (exact e) | omega
  have hwe := v.wt_eq
  have HWE := Lib.hid hwe
  have HNL := Lib.hid hnl
  have HTX := Lib.hid htx
  have H3 := Lib.hid h3
  obtain ⟨ni, hni⟩ : ∃ ni, ni = v.items.length := ⟨_, rfl⟩
  rw [hnl, ← hni]
  have HEQ := Lib.hid (show v.enc = 123 :: (JV.encO true v.names v.items ++ [125]) by rw [v.enc_eq, hk]; rfl)
  have H4 := Lib.hid h4
  have HFS := Lib.hid hfs
  have HE := Lib.hid hE
  have HS := Lib.hid hS
  have HNI := Lib.hid hni
  have IH := Lib.hid ih
  have HBL := Lib.hid (JV.encO_length v.names v.items true (JV.forms_true _ hfs))
  have hnb : ni ≤ 4611686018427387904 := by omega
  clear h3 h4 hR hf hE hS h1 h2 ih hfs hni hnl htx hwe
  have HB := Lib.hid (buiF_below hB ((Below.refl w.heap.size w).alloc (Nat.le_refl _) (.cells #[.int .u8 v.kind, .int .i64 v.n, .string v.t, .slice an ni cn, .slice ai ni ci] 29)))
  have HBW := Lib.hid (show Below B w (w.alloc (.cells #[.int .u8 v.kind, .int .i64 v.n, .string v.t, .slice an ni cn, .slice ai ni ci] 29)) from (Below.refl _ _).alloc hle _)
  have HKW := Lib.hid (show Kept b w (w.alloc (.cells #[.int .u8 v.kind, .int .i64 v.n, .string v.t, .slice an ni cn, .slice ai ni ci] 29)) from (Lib.OthersKept.refl _ _ w).alloc _)
  have HBX := Lib.hid (heap_alloc_new w (.cells #[.int .u8 v.kind, .int .i64 v.n, .string v.t, .slice an ni cn, .slice ai ni ci] 29))
  clear hB
  rw [hk] at HB HBW HKW HBX ⊢
  clear hk
  go_enter Tryz.func62, Tryz.ntmps62
  go_wp2_with fail
  refine (writeByte B b bs _ _ HB.out (by omega) (by simp; omega)).mono ?_
  rintro e w1 ⟨rfl, hu1, hb1, hk1⟩
  have HU1 := Lib.hid hu1; have HB1 := Lib.hid (HBW.out.trans hb1); have HK1 := Lib.hid (HKW.out.trans hk1)
  have HX1 := Lib.hid (kept_box hk1 HBX.out (by omega))
  clear hu1 hb1 hk1 HB HBW HKW HBX
  have c4 : w1.cell? ⟨w.heap.size, 4, none⟩ = some (.slice ai ni ci) := box_cell HX1.out rfl
  go_wp2
  clear c4
  go_loopw [7, 8, 55] (fun _ _ i wr => ∃ k : Nat, k ≤ ni ∧ i = .int .i64 k ∧ BuiU B b (bs ++ Lib.byteCells (123 :: JV.encO true (v.names.take k) (v.items.take k))) wr ∧ Below B w wr ∧ Kept b w1 wr) (fun _ _ i _ => ni - (intOf i).toNat)
  case atStart => exact ⟨0, Nat.zero_le _, rfl, by simpa [JV.encO, Lib.byteCells] using HU1.out, HB1.out, Lib.OthersKept.refl _ _ _⟩
  case round =>
    obtain ⟨k, hk, rfl, hbu, hbe, hke⟩ := hrel
    have hz := hbe.size
    have HBU := Lib.hid hbu
    have HBE := Lib.hid hbe
    have HKE := Lib.hid hke
    clear hbu hbe hke
    have hel := JV.encO_length (v.names.take k) (v.items.take k) true (JV.forms_take _ _ (JV.forms_true _ HFS.out))
    have hbl := HBL.out
    have hwe := HWE.out
    by_cases hlt : k < ni
    · have hlt' : k < v.items.length := by rw [← HNI.out]; exact hlt
      have hltn : k < v.names.length := by rw [HNL.out]; exact hlt'
      obtain ⟨b', off, an', cn', ai', ci', rfl, _, hb', y0, y1, y2, y3, y4, hrep⟩ := H4.out.get k hlt'
      obtain ⟨nb, noff, rfl, _, hnb', yn⟩ := H3.out.at k hltn
      rw [← HBE.out.cell hb'] at y0 y1 y2 y3 y4
      have hws := JV.wts_snoc v.items k hlt'
      have hwn := bytesSum_snoc v.names k hltn
      have HTK := Lib.hid (JV.encO_take v.names v.items k hlt' hltn)
      have HFK := Lib.hid (JV.forms_get v.items k hlt' HFS.out)
      have HTN := Lib.hid (HTX.out k hltn)
      have hqn := quoteL_length v.names[k]
      generalize v.items[k] = it at *
      generalize v.names[k] = nk at *
      have HWE' := Lib.hid hwe
      have hwl : 30 * bytesSum (v.names.take k) + 30 * JV.wts (v.items.take k) + 30 * (nk.size + 1) + 30 * it.wt + 30 ≤ 30 * v.wt := by omega
      clear hwe hws hwn hbl
      have HREC := Lib.hid (show ∀ (w' : World) (bs' : List Value), BuiF B b bs' w' → Below B w w' → Kept b w w' → bs'.length + 30 * it.wt ≤ 140737488300000 → Calls Tryz.prog 62 #[.agg #[.int .u8 it.kind, .int .i64 it.n, .string it.t, .slice an' it.names.length cn', .slice ai' it.items.length ci'], .pointer (some ⟨b, 0, none⟩), .pointer (some ⟨tb, 0, none⟩), .pointer (some ⟨fb, 0, none⟩)] w' (EncPost B b bs' it w') from
        fun w' bs' k1 k2 k3 k4 => IH.out B b tb fb bs' it _ w' (by have := HWE'.out; omega) ⟨HFK.out, hrep.below k2 (Nat.le_refl _) (Nat.le_refl _) (Nat.le_refl _), k1, HE.out.kept k3 k2.size, k4, fun h => show_below (HS.out h) k2⟩)
      have HBX := Lib.hid (heap_alloc_new wr (.cells #[.int .u8 it.kind, .int .i64 it.n, .string it.t, .slice an' it.names.length cn', .slice ai' it.items.length ci'] 29))
      have HB2 := Lib.hid (buiF_below (.inr HBU.out) ((Below.refl wr.heap.size wr).alloc (Nat.le_refl _) (.cells #[.int .u8 it.kind, .int .i64 it.n, .string it.t, .slice an' it.names.length cn', .slice ai' it.items.length ci'] 29)))
      have HW2 := Lib.hid (show Below B w (wr.alloc (.cells #[.int .u8 it.kind, .int .i64 it.n, .string it.t, .slice an' it.names.length cn', .slice ai' it.items.length ci'] 29)) from HBE.out.alloc (by omega) _)
      have HK2 := Lib.hid (show Kept b w1 (wr.alloc (.cells #[.int .u8 it.kind, .int .i64 it.n, .string it.t, .slice an' it.names.length cn', .slice ai' it.items.length ci'] 29)) from HKE.out.alloc _)
      clear hrep HBU HBE HKE HFK
      -- what each later world gives
      have HALL := Lib.hid (show ∀ (w' : World), Below B w w' → Kept b w1 w' → w'.cell? ⟨tb, 0, none⟩ = some (.func (.func 59) #[] #[.pointer (some ⟨b, 0, none⟩)]) ∧ w'.cell? ⟨fb, 0, none⟩ = some (.func (.func 62) #[] #[.pointer (some ⟨b, 0, none⟩), .pointer (some ⟨tb, 0, none⟩), .pointer (some ⟨fb, 0, none⟩)]) ∧ w'.cell? ⟨w.heap.size, 3, none⟩ = some (.slice (some ⟨nb, noff, none⟩) ni cn) ∧ w'.cell? ⟨nb, noff + k, none⟩ = some (.string nk) from
        fun w' k1 k2 => ⟨box_cell (HE.out.kept (HK1.out.trans k2) k1.size).ht rfl, box_cell (HE.out.kept (HK1.out.trans k2) k1.size).hf rfl, box_cell (kept_box k2 HX1.out (by omega)) rfl, by rw [k1.cell hnb']; exact yn⟩)
      clear yn
      rcases Nat.eq_zero_or_pos k with hk0 | hk0
      case' inl =>
        have hd : decide (0 < k) = false := by simp; omega
        have hd' : ¬ 0 < k := by omega
        rw [decide_eq_true hk0, show sep true = [] from rfl, List.nil_append] at HTK
        clear hk0
        go_wp2_with fail
        have HU3 := HB2
        have HW3 := HW2
        have HK3 := HK2
        have HX3 := HBX
        clear HB2 HW2 HK2 HBX
        generalize (wr.alloc (.cells #[.int .u8 it.kind, .int .i64 it.n, .string it.t, .slice an' it.names.length cn', .slice ai' it.items.length ci'] 29)) = w3 at HU3 HW3 HK3 HX3 ⊢
      case' inr =>
        rw [decide_eq_false (by omega), show sep false = [44] from rfl] at HTK
        go_wp2_with fail
        refine (writeByte B b _ _ _ HB2.out (by simp [Lib.byteCells]; omega) (by simp; omega)).mono ?_
        rintro e w3 ⟨rfl, hu3, hb3, hk3⟩
        have HX3 := Lib.hid (kept_box hk3 HBX.out (by omega))
        have HU3 := Lib.hid (show BuiF B b _ w3 from .inr hu3)
        have HW3 := Lib.hid (HW2.out.trans hb3)
        have HK3 := Lib.hid (HK2.out.trans hk3)
        clear hu3 hb3 hk3 HB2 HW2 HK2 HBX
        go_wp2_with fail
      all_goals
        clear y0 y1 y2 y3 y4
        obtain ⟨q0, q1, q2, q3⟩ := HALL.out w3 HW3.out HK3.out
        have g1 : 0 ≤ (k : Int) := by omega
        have g2 : (k : Int) < (ni : Int) := by omega
        have hz3 := HW3.out.size
        go_still_tail 6, (by kernel_rfl)
        go_wp2_with fail
      all_goals
        refine (encText B b _ nk w3.drew (show BuiF B b _ w3.drew from HU3.out) HTN.out (by simp [Lib.byteCells]; omega) (by simp; omega)).mono ?_
        rintro e w4 ⟨rfl, hu4, hb4, hk4⟩
        have HX4 := Lib.hid (kept_box hk4 (show w3.drew.heap[wr.heap.size]? = _ from HX3.out) (by omega))
        have HU4 := Lib.hid hu4
        have HW4 := Lib.hid (HW3.out.drew.trans hb4)
        have HK4 := Lib.hid (HK3.out.drew.trans hk4)
        have hz4 := HW4.out.size
        clear hu4 hb4 hk4 HU3 HW3 HK3 HX3 q0 q1 q2 q3 hz3
        go_wp2_with fail
        refine (writeByte B b _ _ _ (.inr HU4.out) (by simp [Lib.byteCells]; omega) (by omega)).mono ?_
        rintro e w5 ⟨rfl, hu5, hb5, hk5⟩
        have hx5 := kept_box hk5 HX4.out (by omega)
        have HU5 := Lib.hid hu5
        have HW5 := Lib.hid (HW4.out.trans hb5)
        have HK5 := Lib.hid (HK4.out.trans hk5)
        have c0 : w5.cell? ⟨wr.heap.size, 0, none⟩ = some (.int .u8 it.kind) := box_cell hx5 rfl
        have c1 : w5.cell? ⟨wr.heap.size, 1, none⟩ = some (.int .i64 it.n) := box_cell hx5 rfl
        have c2 : w5.cell? ⟨wr.heap.size, 2, none⟩ = some (.string it.t) := box_cell hx5 rfl
        have c3 : w5.cell? ⟨wr.heap.size, 3, none⟩ = some (.slice an' it.names.length cn') := box_cell hx5 rfl
        have c4 : w5.cell? ⟨wr.heap.size, 4, none⟩ = some (.slice ai' it.items.length ci') := box_cell hx5 rfl
        obtain ⟨-, q1, -, -⟩ := HALL.out w5 HW5.out HK5.out
        clear hu5 hb5 hk5 hx5 HU4 HW4 HK4 HX4 hz4
        go_wp2_with fail
        refine (HREC.out _ _ (.inr HU5.out) HW5.out (HK1.out.trans HK5.out) (by simp [Lib.byteCells]; omega)).mono ?_
        rintro e w6 ⟨rfl, hu6, hb6, hk6⟩
        have HU6 := Lib.hid hu6
        have HB6 := Lib.hid (HW5.out.trans hb6)
        have HK6 := Lib.hid (HK5.out.trans hk6)
        clear hu6 hb6 hk6 HREC HU5 HW5 HK5 q1 c0 c1 c2 c3 c4 HALL
        go_wp2
        go_roundw
        case rel => exact ⟨k + 1, by omega, by go_num, by rw [HTK.out]; simpa [Lib.byteCells] using HU6.out, HB6.out, HK6.out⟩
        case measure => simp [intOf]; omega
    · have HF := Lib.hid (show v.items.take k = v.items from List.take_of_length_le (by rw [← HNI.out]; omega))
      have HF2 := Lib.hid (show v.names.take k = v.names from List.take_of_length_le (by rw [HNL.out, ← HNI.out]; omega))
      rw [HF.out, HF2.out] at HBU
      go_wp2_with fail
      refine (writeByte B b _ _ _ (.inr HBU.out) (by simp [Lib.byteCells]; omega) (by omega)).mono ?_
      rintro e w3 ⟨rfl, hu3, hb3, hk3⟩
      have HU3 := Lib.hid hu3
      have HB3 := Lib.hid (HBE.out.trans hb3)
      have HK3 := Lib.hid (HK1.out.trans (HKE.out.trans hk3))
      clear hu3 hb3 hk3
      go_wp2
      go_end0
      exact ⟨rfl, by rw [HEQ.out]; simpa [Lib.byteCells] using HU3.out, HB3.out, HK3.out⟩

/-- The writing closure, at whatever value. -/
theorem encAll (nm : Bool) : ∀ N, EncTo nm N
  | 0 => fun B b tb fb bs v x w hN _ => by have := v.wt_pos; omega
  | N + 1 => fun B b tb fb bs v x w hN hA => by
    rcases (JV.form_eq hA.1).1 with e | ⟨e, _⟩ | ⟨e, _⟩ | e | ⟨e, _⟩
    · exact enc_leaf nm B b tb fb bs v x w hA (.inl e)
    · exact enc_leaf nm B b tb fb bs v x w hA (.inr (.inl e))
    · exact enc_leaf nm B b tb fb bs v x w hA (.inr (.inr e))
    · exact enc_list nm N (encAll nm N) B b tb fb bs v x w hN hA e
    · exact enc_obj nm N (encAll nm N) B b tb fb bs v x w hN hA e

end Go.Proofs.YtcahpjejpimdhaaGreatDoor

namespace Go.Proofs.YtcahpjejpimdhaaGreatDoor
open Go.RowKit

def CanonPost (v : JV) (w : World) (e : Ending) (w' : World) : Prop := e = .returned (.tuple #[.string ⟨(if v.mayB then v.enc else []).toArray⟩, .int .i64 (if v.mayB then 0 else 3)]) ∧ Below w.heap.size w w'

theorem itoa_ne (n : Int) : Lib.itoa n ≠ [] := by
  unfold Lib.itoa
  split
  · simp
  · rw [Lib.decDigits]; split <;> simp

set_option maxHeartbeats 400000 in
set_option maxRecDepth 100000 in
theorem canonEncode (nm : Bool) (v : JV) (x : Value) (w : World) (hv : v.wt ≤ 4294967296) (hR : Rep w 0 w.heap.size v x) (hf : v.mayB = true → v.form nm) (hS : nm = true → ShowAt w.heap.size w) :
    Calls Tryz.prog 25 #[x] w (CanonPost v w) := by
  obtain ⟨an, cn, ai, ci, hx, h1, h2, h3, h4⟩ := hR.parts
  have HR := Lib.hid hR
  clear hR h3 h4 h1 h2
  have HF := Lib.hid hf
  have HS := Lib.hid hS
  clear hf hS
  subst hx
  have HW0 := Lib.hid (show Below w.heap.size w (w.alloc (.cells #[.int .u8 v.kind, .int .i64 v.n, .string v.t, .slice an v.names.length cn, .slice ai v.items.length ci] 29)) from (Below.refl _ _).alloc (Nat.le_refl _) _)
  have HBX := Lib.hid (heap_alloc_new w (.cells #[.int .u8 v.kind, .int .i64 v.n, .string v.t, .slice an v.names.length cn, .slice ai v.items.length ci] 29))
  have HM := Lib.hid (valueMay v _ (w.alloc (.cells #[.int .u8 v.kind, .int .i64 v.n, .string v.t, .slice an v.names.length cn, .slice ai v.items.length ci] 29)) hv (HR.out.below HW0.out (Nat.le_refl _) (Nat.le_refl _) HW0.out.size))
  cases hm : v.mayB
  · rw [hm] at HM
    go_enter Tryz.func25, Tryz.ntmps25
    go_wp2_with fail
    refine HM.out.mono ?_
    rintro e w1 ⟨rfl, hb1⟩
    have HB1 := Lib.hid (HW0.out.trans (hb1.mono (by simp)))
    clear hb1
    go_wp2
    go_ret2
    exact ⟨by rw [hm]; rfl, HB1.out⟩
  · rw [hm] at HM
    have HMB := Lib.hid hm
    clear hm
    go_enter Tryz.func25, Tryz.ntmps25
    go_wp2_with fail
    refine HM.out.mono ?_
    clear HM
    rintro e w1 ⟨rfl, hb1⟩
    have hz1 : w.heap.size + 1 ≤ w1.heap.size := by have := hb1.size; simp at this; omega
    have hx1 : w1.heap[w.heap.size]? = some (.cells #[.int .u8 v.kind, .int .i64 v.n, .string v.t, .slice an v.names.length cn, .slice ai v.items.length ci] 29 (0, 0)) := by
      rw [hb1.block _ (by simp)]; exact HBX.out
    have HB1 := Lib.hid (HW0.out.trans (hb1.mono (by simp)))
    have HB3 := Lib.hid (show Below w1.heap.size w1 (((w1.alloc (.cells #[.pointer none, .slice none 0 0] 76)).alloc (.cells #[.func (.func 59) #[] #[.pointer (some ⟨w1.heap.size, 0, none⟩)]] 82)).alloc (.cells #[.func (.func 62) #[] #[.pointer (some ⟨w1.heap.size, 0, none⟩), .pointer (some ⟨w1.heap.size + 1, 0, none⟩), .pointer (some ⟨w1.heap.size + 1 + 1, 0, none⟩)]] 83)) from (((Below.refl _ _).alloc (Nat.le_refl _) _).alloc (by simp) _).alloc (by simp; omega) _)
    have hx3 : (((w1.alloc (.cells #[.pointer none, .slice none 0 0] 76)).alloc (.cells #[.func (.func 59) #[] #[.pointer (some ⟨w1.heap.size, 0, none⟩)]] 82)).alloc (.cells #[.func (.func 62) #[] #[.pointer (some ⟨w1.heap.size, 0, none⟩), .pointer (some ⟨w1.heap.size + 1, 0, none⟩), .pointer (some ⟨w1.heap.size + 1 + 1, 0, none⟩)]] 83)).heap[w.heap.size]? = some (.cells #[.int .u8 v.kind, .int .i64 v.n, .string v.t, .slice an v.names.length cn, .slice ai v.items.length ci] 29 (0, 0)) := by rw [HB3.out.block _ (by omega)]; exact hx1
    have c0 : (((w1.alloc (.cells #[.pointer none, .slice none 0 0] 76)).alloc (.cells #[.func (.func 59) #[] #[.pointer (some ⟨w1.heap.size, 0, none⟩)]] 82)).alloc (.cells #[.func (.func 62) #[] #[.pointer (some ⟨w1.heap.size, 0, none⟩), .pointer (some ⟨w1.heap.size + 1, 0, none⟩), .pointer (some ⟨w1.heap.size + 1 + 1, 0, none⟩)]] 83)).cell? ⟨w.heap.size, 0, none⟩ = some (.int .u8 v.kind) := box_cell hx3 rfl
    have c1 : (((w1.alloc (.cells #[.pointer none, .slice none 0 0] 76)).alloc (.cells #[.func (.func 59) #[] #[.pointer (some ⟨w1.heap.size, 0, none⟩)]] 82)).alloc (.cells #[.func (.func 62) #[] #[.pointer (some ⟨w1.heap.size, 0, none⟩), .pointer (some ⟨w1.heap.size + 1, 0, none⟩), .pointer (some ⟨w1.heap.size + 1 + 1, 0, none⟩)]] 83)).cell? ⟨w.heap.size, 1, none⟩ = some (.int .i64 v.n) := box_cell hx3 rfl
    have c2 : (((w1.alloc (.cells #[.pointer none, .slice none 0 0] 76)).alloc (.cells #[.func (.func 59) #[] #[.pointer (some ⟨w1.heap.size, 0, none⟩)]] 82)).alloc (.cells #[.func (.func 62) #[] #[.pointer (some ⟨w1.heap.size, 0, none⟩), .pointer (some ⟨w1.heap.size + 1, 0, none⟩), .pointer (some ⟨w1.heap.size + 1 + 1, 0, none⟩)]] 83)).cell? ⟨w.heap.size, 2, none⟩ = some (.string v.t) := box_cell hx3 rfl
    have c3 : (((w1.alloc (.cells #[.pointer none, .slice none 0 0] 76)).alloc (.cells #[.func (.func 59) #[] #[.pointer (some ⟨w1.heap.size, 0, none⟩)]] 82)).alloc (.cells #[.func (.func 62) #[] #[.pointer (some ⟨w1.heap.size, 0, none⟩), .pointer (some ⟨w1.heap.size + 1, 0, none⟩), .pointer (some ⟨w1.heap.size + 1 + 1, 0, none⟩)]] 83)).cell? ⟨w.heap.size, 3, none⟩ = some (.slice an v.names.length cn) := box_cell hx3 rfl
    have c4 : (((w1.alloc (.cells #[.pointer none, .slice none 0 0] 76)).alloc (.cells #[.func (.func 59) #[] #[.pointer (some ⟨w1.heap.size, 0, none⟩)]] 82)).alloc (.cells #[.func (.func 62) #[] #[.pointer (some ⟨w1.heap.size, 0, none⟩), .pointer (some ⟨w1.heap.size + 1, 0, none⟩), .pointer (some ⟨w1.heap.size + 1 + 1, 0, none⟩)]] 83)).cell? ⟨w.heap.size, 4, none⟩ = some (.slice ai v.items.length ci) := box_cell hx3 rfl
    have HEV := Lib.hid (show EncEnv w1.heap.size w1.heap.size (w1.heap.size + 1) (w1.heap.size + 1 + 1) (((w1.alloc (.cells #[.pointer none, .slice none 0 0] 76)).alloc (.cells #[.func (.func 59) #[] #[.pointer (some ⟨w1.heap.size, 0, none⟩)]] 82)).alloc (.cells #[.func (.func 62) #[] #[.pointer (some ⟨w1.heap.size, 0, none⟩), .pointer (some ⟨w1.heap.size + 1, 0, none⟩), .pointer (some ⟨w1.heap.size + 1 + 1, 0, none⟩)]] 83)) from
      ⟨by
        have e : ((w1.alloc (.cells #[.pointer none, .slice none 0 0] 76)).heap.size) = w1.heap.size + 1 := by simp
        rw [Below.heap_alloc _ _ _ (by simp), ← e]; exact heap_alloc_new _ _, by
        have e : (((w1.alloc (.cells #[.pointer none, .slice none 0 0] 76)).alloc (.cells #[.func (.func 59) #[] #[.pointer (some ⟨w1.heap.size, 0, none⟩)]] 82)).heap.size) = w1.heap.size + 1 + 1 := by simp
        have := heap_alloc_new ((w1.alloc (.cells #[.pointer none, .slice none 0 0] 76)).alloc (.cells #[.func (.func 59) #[] #[.pointer (some ⟨w1.heap.size, 0, none⟩)]] 82)) (.cells #[.func (.func 62) #[] #[.pointer (some ⟨w1.heap.size, 0, none⟩), .pointer (some ⟨w1.heap.size + 1, 0, none⟩), .pointer (some ⟨w1.heap.size + 1 + 1, 0, none⟩)]] 83)
        rw [e] at this; exact this, ⟨by omega, by omega⟩, by simp; omega⟩)
    have HBU := Lib.hid (show BuiF w1.heap.size w1.heap.size [] (((w1.alloc (.cells #[.pointer none, .slice none 0 0] 76)).alloc (.cells #[.func (.func 59) #[] #[.pointer (some ⟨w1.heap.size, 0, none⟩)]] 82)).alloc (.cells #[.func (.func 62) #[] #[.pointer (some ⟨w1.heap.size, 0, none⟩), .pointer (some ⟨w1.heap.size + 1, 0, none⟩), .pointer (some ⟨w1.heap.size + 1 + 1, 0, none⟩)]] 83)) from buiF_below (buiF_below (Lib.IsBuilderF.of (Lib.fresh_isBuilder _ _ w1)) ((Below.refl _ _).alloc (Nat.le_refl _) _)) ((Below.refl _ _).alloc (Nat.le_refl _) _))
    have HEN := Lib.hid (encAll nm _ w1.heap.size w1.heap.size (w1.heap.size + 1) (w1.heap.size + 1 + 1) [] v _ (((w1.alloc (.cells #[.pointer none, .slice none 0 0] 76)).alloc (.cells #[.func (.func 59) #[] #[.pointer (some ⟨w1.heap.size, 0, none⟩)]] 82)).alloc (.cells #[.func (.func 62) #[] #[.pointer (some ⟨w1.heap.size, 0, none⟩), .pointer (some ⟨w1.heap.size + 1, 0, none⟩), .pointer (some ⟨w1.heap.size + 1 + 1, 0, none⟩)]] 83)) (Nat.le_refl _) ⟨HF.out HMB.out, HR.out.below (HB1.out.trans (HB3.out.mono (by omega))) (Nat.le_refl _) (Nat.le_refl _) (by omega), HBU.out, HEV.out, by simp; omega, fun h n w' hn hb => HS.out h n w' hn ((HB1.out.trans (HB3.out.mono (by omega))).trans (hb.mono (by omega)))⟩)
    have hlt : w.heap.size < w1.heap.size := hz1
    clear hb1 hx1 hx3 HEV HBU
    go_wp2_with fail
    refine HEN.out.mono ?_
    clear HEN c0 c1 c2 c3 c4
    rintro e w4 ⟨rfl, hu4, hb4, hk4⟩
    rw [List.nil_append] at hu4
    have hne : v.enc ≠ [] := by
      rw [v.enc_eq]
      have hf := (JV.form_eq (HF.out HMB.out)).1
      rcases hf with e | ⟨e, _⟩ | ⟨e, _⟩ | e | ⟨e, _⟩ <;> rw [e]
      · by_cases h : v.n = 1 <;> simp [h]
      · exact itoa_ne v.n
      · simp [quoteL]
      · simp
      · simp
    have HU4 := Lib.hid hu4
    have HW4 := Lib.hid (HB1.out.trans ((HB3.out.trans hb4).mono (by omega)))
    have HNE := Lib.hid hne
    clear hu4 hb4 hk4 hne
    go_wp2_with fail
    refine (builderString w1.heap.size w1.heap.size v.enc _ (.inr HU4.out) HNE.out).mono ?_
    rintro e w5 ⟨rfl, hb5, -⟩
    have HW5 := Lib.hid (HW4.out.trans (hb5.mono (by omega)))
    clear hb5
    go_wp2
    go_ret2
    exact ⟨by rw [HMB.out]; rfl, HW5.out⟩

end Go.Proofs.YtcahpjejpimdhaaGreatDoor

namespace Go.Proofs.YtcahpjejpimdhaaGreatDoor
open Go.RowKit Go.WideMaps Go.Maps

set_option maxHeartbeats 400000 in
theorem pickErr (o : Nat) (err kind : Int) (w : World) (h6 : w.cell? ⟨o, 6, none⟩ = some (.int .i64 err)) (h0 : w.cell? ⟨o, 0, none⟩ = some (.int .u8 kind)) (hk : err = 0 → kind = 5) :
    Calls Tryz.prog 88 #[.pointer (some ⟨o, 0, none⟩)] w fun e w' => e = .returned (.int .i64 err) ∧ w = w' := by
  by_cases he : err = 0
  · have hk' := hk he
    subst he hk'
    clear hk
    go_enter Tryz.func88, Tryz.ntmps88
    go_wp2
    go_ret
    exact ⟨rfl, rfl⟩
  · have he' : (err == 0) = false := by simpa using he
    clear hk he
    go_enter Tryz.func88, Tryz.ntmps88
    go_wp2
    go_ret
    exact ⟨rfl, rfl⟩

set_option maxHeartbeats 400000 in
theorem pickFail (o : Nat) (e : Int) (w : World) (h6 : w.cell? ⟨o, 6, none⟩ = some (.int .i64 0)) (h0 : w.cell? ⟨o, 0, none⟩ = some (.int .u8 5)) (hf : w.frozen? ⟨o, 6, none⟩ = false) :
    Calls Tryz.prog 114 #[.pointer (some ⟨o, 0, none⟩), .int .i64 e] w fun r w' => r = .returned (.tuple #[]) ∧ w' = w.setCell ⟨o, 6, none⟩ (.int .i64 e) := by
  go_enter Tryz.func114, Tryz.ntmps114
  go_wp2_with fail
  refine (pickErr o 0 5 w h6 h0 (fun _ => rfl)).mono ?_
  rintro r w' ⟨rfl, rfl⟩
  go_wp2
  go_end0
  exact ⟨rfl, rfl⟩

set_option maxHeartbeats 400000 in
theorem textConv (k n : Int) (t : ByteArray) (a b : Value) (w : World) :
    Calls Tryz.prog 87 #[.agg #[.int .u8 k, .int .i64 n, .string t, a, b]] w fun e w' => e = .returned (.tuple #[.string (if k = 3 then t else { data := #[] }), .int .i64 (if k = 3 then 0 else 10)]) ∧ Below w.heap.size w w' := by
  have HB := Lib.hid (show Below w.heap.size w (w.alloc (.cells #[.int .u8 k, .int .i64 n, .string t, a, b] 29)) from (Below.refl _ _).alloc (Nat.le_refl _) _)
  by_cases hk : k = 3
  · subst hk
    go_enter Tryz.func87, Tryz.ntmps87
    go_wp2
    go_ret2
    exact ⟨by simp, HB.out⟩
  · have hk' : (k == 3) = false := by simpa using hk
    have HK := Lib.hid hk
    clear hk
    go_enter Tryz.func87, Tryz.ntmps87
    go_wp2
    go_ret2
    exact ⟨by simp, HB.out⟩

theorem lawStr : Keyed Tryz.prog 9 := string_keyed Tryz.underlying9
theorem zeroInt (w : World) : (zeroValue 3).run Tryz.prog w = .ok (.int .i64 0) w := by kernel_rfl

def TextPost (o m lo hi : Nat) (v : JV) (an ai : Option Addr) (cn ci : Nat) (y : ByteArray) (st : PS) (w : World) (e : Ending) (w' : World) : Prop :=
  e = .returned (.string (pickText v y st).1) ∧ PickAt o m lo hi v an ai cn ci (pickText v y st).2 w' ∧ Touch (fun b => b = o ∨ b = m) w w'

set_option maxHeartbeats 1000000 in
set_option maxRecDepth 100000 in
theorem takeText (o m lo hi : Nat) (v : JV) (an ai : Option Addr) (cn ci : Nat) (y : ByteArray) (st : PS) (w : World) (hP : PickAt o m lo hi v an ai cn ci st w) (hy : y.size ≤ 4294967296) (ha : st.asked.length ≤ 4294967296) :
    Calls Tryz.prog 86 #[.pointer (some ⟨o, 0, none⟩), .string y, .func (.func 87) #[] #[]] w (TextPost o m lo hi v an ai cn ci y st w) := by
  have HP := Lib.hid hP
  clear hP
  have c6 : w.cell? ⟨o, 6, none⟩ = some (.int .i64 st.err) := box_cell HP.out.obj rfl
  have c0 : w.cell? ⟨o, 0, none⟩ = some (.int .u8 5) := (box_cell (j := 0) HP.out.obj rfl).trans (by rw [HP.out.kind]; rfl)
  by_cases he : st.err = 0
  · rw [he] at c6
    have HE := Lib.hid he
    clear he
    have c1 : w.cell? ⟨o, 1, none⟩ = some (.int .i64 v.n) := box_cell HP.out.obj rfl
    have c2 : w.cell? ⟨o, 2, none⟩ = some (.string v.t) := box_cell HP.out.obj rfl
    have c3 : w.cell? ⟨o, 3, none⟩ = some (.slice an v.names.length cn) := box_cell HP.out.obj rfl
    have c4 : w.cell? ⟨o, 4, none⟩ = some (.slice ai v.items.length ci) := box_cell HP.out.obj rfl
    have HR := Lib.hid HP.out.rep
    rw [HP.out.kind] at HR
    have HG := Lib.hid (valueGet v y _ w lo hi HP.out.wt HP.out.pos HP.out.le HR.out HP.out.kind HP.out.rise HP.out.len)
    go_enter Tryz.func86, Tryz.ntmps86
    go_wp2_with fail
    refine (pickErr o 0 5 w c6 c0 (fun _ => rfl)).mono ?_
    rintro r w' ⟨rfl, rfl⟩
    go_wp2_with fail
    refine HG.out.mono ?_
    clear HG c0 c1 c2 c3 c4 c6
    rintro e w1 ⟨hh, hb1⟩
    have HB1 := Lib.hid hb1
    clear hb1
    rcases hh with ⟨r, hr1, hr2, hre, an', cn', ai', ci', rfl, hrep⟩ | ⟨hno, rfl⟩
    · have HL := Lib.hid (look_some HP.out.rise r hr1 hr2 hre)
      clear hre hrep
      generalize v.items[r] = it at *
      have hb2 : Below w.heap.size w (w1.alloc (.cells #[.int .u8 it.kind, .int .i64 it.n, .string it.t, .slice an' it.names.length cn', .slice ai' it.items.length ci'] 29)) := HB1.out.alloc HB1.out.size _
      have HB2 := Lib.hid hb2
      have HC := Lib.hid (textConv it.kind it.n it.t (.slice an' it.names.length cn') (.slice ai' it.items.length ci') (w1.alloc (.cells #[.int .u8 it.kind, .int .i64 it.n, .string it.t, .slice an' it.names.length cn', .slice ai' it.items.length ci'] 29)))
      clear hb2
      by_cases hk : it.kind = 3
      · have HK := Lib.hid hk
        rw [if_pos hk, if_pos hk] at HC
        clear hk
        go_wp2_with fail
        refine HC.out.mono ?_
        clear HC
        rintro e w2 ⟨rfl, hb3⟩
        have HB3 := Lib.hid (HB2.out.trans (hb3.mono HB2.out.size))
        have HP3 := Lib.hid (HP.out.below HB3.out)
        clear hb3 HB2
        have d5 : w2.cell? ⟨o, 5, none⟩ = some (.map (some m)) := box_cell HP3.out.obj rfl
        have hkey : keyOf Tryz.prog 9 (.string y) = some (.string y.data.toList) := keyOf_string_mk Tryz.underlying9 (by unfold maxLen; omega)
        obtain ⟨D, n, hown, hn, hD⟩ := HP3.out.map
        obtain ⟨c, hat, hc0, hc1, hc2⟩ := hD.2 y
        obtain ⟨c', hrun, hat', _⟩ := hown.lookup_int lawStr Tryz.underlying116 Tryz.underlying3 (zeroInt _) hkey
        rw [hat] at hat'
        simp only [DataW.lit.injEq, Lit.int.injEq, true_and] at hat'
        subst hat'
        have HD := Lib.hid (hD.cons y c hat)
        have HKY := Lib.hid hkey
        have HOW := Lib.hid hown
        clear hD hat hc2 hkey hown
        go_wp2_with (at_mapUpdate; refine wpList_mapUpdate_own _ rfl _ _ _ 116 rfl 9 3 lawStr Tryz.underlying116 _ m n D rfl HOW.out (by unfold maxLen; omega) _ _ _ rfl rfl HKY.out _ [] (plainElem_int Tryz.underlying3 (WalkArith.wf_i64 (by omega))) ?_)
        intro w3 hown3 hgrow3
        have HP4 := Lib.hid (HP3.out.ask y hgrow3 hown3 (by omega) HD.out)
        have HT := Lib.hid (show Touch (fun b => b = o ∨ b = m) w w3 from ⟨by rw [hgrow3.os, HB3.out.os], by rw [hgrow3.tape, HB3.out.tape], by rw [hgrow3.output, HB3.out.output], Nat.le_trans HB3.out.size hgrow3.size, fun k hk hs => by rw [hgrow3.block k (Nat.lt_of_lt_of_le hk HB3.out.size) (fun e => hs (.inr (Option.some.inj e))), HB3.out.block k hk]⟩)
        clear hgrow3 hown3
        have HX := Lib.hid (show pickText v y st = (it.t, ⟨y :: st.asked, 0⟩) by unfold pickText; rw [if_neg (by simp [HE.out]), HL.out]; simp [HK.out])
        rw [HE.out] at HP4
        go_wp2
        go_ret
        exact ⟨by rw [HX.out]; rfl, by rw [HX.out]; exact HP4.out, HT.out⟩
      · have HX := Lib.hid (show pickText v y st = ({ data := #[] }, ⟨st.asked, 10⟩) by unfold pickText; rw [if_neg (by simp [HE.out]), HL.out]; simp [hk])
        rw [if_neg hk, if_neg hk] at HC
        clear hk
        go_wp2_with fail
        refine HC.out.mono ?_
        clear HC
        rintro e w2 ⟨rfl, hb3⟩
        have HB3 := Lib.hid (HB2.out.trans (hb3.mono HB2.out.size))
        have HP3 := Lib.hid (HP.out.below HB3.out)
        clear hb3 HB2
        have d6 : w2.cell? ⟨o, 6, none⟩ = some (.int .i64 0) := (box_cell (j := 6) HP3.out.obj rfl).trans (by rw [HE.out]; rfl)
        have d0 : w2.cell? ⟨o, 0, none⟩ = some (.int .u8 5) := (box_cell (j := 0) HP3.out.obj rfl).trans (by rw [HP.out.kind]; rfl)
        have d7 : w2.frozen? ⟨o, 6, none⟩ = false := by simp [World.frozen?, HP3.out.obj]
        go_wp2_with fail
        refine (pickFail o 10 _ d6 d0 d7).mono ?_
        clear d6 d0 d7
        rintro e w3 ⟨rfl, rfl⟩
        have HP4 := Lib.hid (HP3.out.fail 10)
        have HT := Lib.hid (show Touch (fun b => b = o ∨ b = m) w (w2.setCell ⟨o, 6, none⟩ (.int .i64 10)) from (Touch.of_below HB3.out (Nat.le_refl _)).setCell (.inl (.inl rfl)) _)
        go_wp2
        go_ret
        exact ⟨by rw [HX.out]; rfl, by rw [HX.out]; exact HP4.out, HT.out⟩
    · have HX := Lib.hid (show pickText v y st = ({ data := #[] }, ⟨st.asked, 6⟩) by unfold pickText; rw [if_neg (by simp [HE.out]), show v.look y = none from lookL_none _ _ _ hno])
      unfold zeroAgg
      have HB3 := Lib.hid (show Below w.heap.size w (w1.alloc (.cells #[.int .u8 0, .int .i64 0, .string { data := #[] }, .slice none 0 0, .slice none 0 0] 29)) from HB1.out.alloc HB1.out.size _)
      have HP3 := Lib.hid (HP.out.below HB3.out)
      clear hno HB1
      have d6 : (w1.alloc (.cells #[.int .u8 0, .int .i64 0, .string { data := #[] }, .slice none 0 0, .slice none 0 0] 29)).cell? ⟨o, 6, none⟩ = some (.int .i64 0) := (box_cell (j := 6) HP3.out.obj rfl).trans (by rw [HE.out]; rfl)
      have d0 : (w1.alloc (.cells #[.int .u8 0, .int .i64 0, .string { data := #[] }, .slice none 0 0, .slice none 0 0] 29)).cell? ⟨o, 0, none⟩ = some (.int .u8 5) := (box_cell (j := 0) HP3.out.obj rfl).trans (by rw [HP.out.kind]; rfl)
      have d7 : (w1.alloc (.cells #[.int .u8 0, .int .i64 0, .string { data := #[] }, .slice none 0 0, .slice none 0 0] 29)).frozen? ⟨o, 6, none⟩ = false := by simp [World.frozen?, HP3.out.obj]
      go_wp2_with fail
      refine (pickFail o 6 _ d6 d0 d7).mono ?_
      clear d6 d0 d7
      rintro e w3 ⟨rfl, rfl⟩
      have HP4 := Lib.hid (HP3.out.fail 6)
      have HT := Lib.hid (show Touch (fun b => b = o ∨ b = m) w ((w1.alloc (.cells #[.int .u8 0, .int .i64 0, .string { data := #[] }, .slice none 0 0, .slice none 0 0] 29)).setCell ⟨o, 6, none⟩ (.int .i64 6)) from (Touch.of_below HB3.out (Nat.le_refl _)).setCell (.inl (.inl rfl)) _)
      go_wp2
      go_ret
      exact ⟨by rw [HX.out]; rfl, by rw [HX.out]; exact HP4.out, HT.out⟩
  · have he' : (st.err == 0) = false := by simpa using he
    have he2 : (st.err != 0) = true := by simpa using he
    have HX := Lib.hid (show pickText v y st = ({ data := #[] }, st) by unfold pickText; rw [if_pos he])
    have HE := Lib.hid he
    clear he
    go_enter Tryz.func86, Tryz.ntmps86
    go_wp2_with fail
    refine (pickErr o st.err 5 w c6 c0 (fun _ => rfl)).mono ?_
    rintro r w' ⟨rfl, rfl⟩
    go_wp2
    go_ret
    exact ⟨by rw [HX.out]; rfl, by rw [HX.out]; exact HP.out, Touch.refl _ _⟩

set_option maxHeartbeats 400000 in
theorem pickTextF (o m lo hi : Nat) (v : JV) (an ai : Option Addr) (cn ci : Nat) (y : ByteArray) (st : PS) (w : World) (hP : PickAt o m lo hi v an ai cn ci st w) (hy : y.size ≤ 4294967296) (ha : st.asked.length ≤ 4294967296) :
    Calls Tryz.prog 53 #[.pointer (some ⟨o, 0, none⟩), .string y] w (TextPost o m lo hi v an ai cn ci y st w) := by
  have HC := Lib.hid (takeText o m lo hi v an ai cn ci y st w hP hy ha)
  clear hP
  go_enter Tryz.func53, Tryz.ntmps53
  go_wp2_with fail
  refine HC.out.mono ?_
  rintro e w' ⟨rfl, h1, h2⟩
  have H1 := Lib.hid h1
  have H2 := Lib.hid h2
  clear h1 h2
  go_wp2
  go_ret
  exact ⟨rfl, H1.out, H2.out⟩

end Go.Proofs.YtcahpjejpimdhaaGreatDoor

namespace Go.Proofs.YtcahpjejpimdhaaGreatDoor
open Go.RowKit Go.WideMaps Go.Maps

/-- A picker of no object. -/
def PickBad (o : Nat) (err : Int) (w : World) : Prop := err ≠ 0 ∧ w.cell? ⟨o, 6, none⟩ = some (.int .i64 err) ∧ ∃ k, w.cell? ⟨o, 0, none⟩ = some (.int .u8 k)
theorem PickBad.below {o : Nat} {err : Int} {w w' : World} (h : PickBad o err w) (hb : Below w.heap.size w w') (ho : o < w.heap.size) : PickBad o err w' := by
  obtain ⟨h1, h2, k, h3⟩ := h
  exact ⟨h1, by rw [hb.cell ho]; exact h2, k, by rw [hb.cell ho]; exact h3⟩

set_option maxHeartbeats 400000 in
theorem textBad (o : Nat) (err : Int) (y : ByteArray) (w : World) (h : PickBad o err w) :
    Calls Tryz.prog 53 #[.pointer (some ⟨o, 0, none⟩), .string y] w fun e w' => e = .returned (.string { data := #[] }) ∧ w = w' := by
  obtain ⟨he, c6, k, c0⟩ := h
  have HT := Lib.hid (show Calls Tryz.prog 86 #[.pointer (some ⟨o, 0, none⟩), .string y, .func (.func 87) #[] #[]] w (fun e w' => e = .returned (.string { data := #[] }) ∧ w = w') by
    have he' : (err == 0) = false := by simpa using he
    have he2 : (err != 0) = true := by simpa using he
    have HE := Lib.hid he
    clear he
    go_enter Tryz.func86, Tryz.ntmps86
    go_wp2_with fail
    refine (pickErr o err k w c6 c0 (fun h => absurd h HE.out)).mono ?_
    rintro r w' ⟨rfl, rfl⟩
    go_wp2
    go_ret
    exact ⟨rfl, rfl⟩)
  clear he c6 c0
  go_enter Tryz.func53, Tryz.ntmps53
  go_wp2_with fail
  refine HT.out.mono ?_
  rintro e w' ⟨rfl, rfl⟩
  go_wp2
  go_ret
  exact ⟨rfl, rfl⟩

set_option maxHeartbeats 400000 in
theorem doneErr (o : Nat) (err k : Int) (w : World) (he : err ≠ 0) (c6 : w.cell? ⟨o, 6, none⟩ = some (.int .i64 err)) (c0 : w.cell? ⟨o, 0, none⟩ = some (.int .u8 k)) :
    Calls Tryz.prog 54 #[.pointer (some ⟨o, 0, none⟩)] w fun e w' => e = .returned (.int .i64 err) ∧ w = w' := by
  have he' : (err == 0) = false := by simpa using he
  have he2 : (err != 0) = true := by simpa using he
  have HE := Lib.hid he
  clear he
  go_enter Tryz.func54, Tryz.ntmps54
  go_wp2_with fail
  refine (pickErr o err k w c6 c0 (fun h => absurd h HE.out)).mono ?_
  rintro r w' ⟨rfl, rfl⟩
  go_wp2
  go_ret
  exact ⟨rfl, rfl⟩

theorem all_take {α : Type} (p : α → Bool) (l : List α) (k : Nat) (h : k < l.length) (ha : (l.take k).all p = true) (hp : p l[k] = true) : (l.take (k + 1)).all p = true := by
  rw [List.take_succ_eq_append_getElem h, List.all_append, ha]; simp [hp]
theorem all_bad {α : Type} (p : α → Bool) (l : List α) (k : Nat) (h : k < l.length) (hp : p l[k] = false) : l.all p = false := by
  rw [List.all_eq_false]; exact ⟨l[k], List.getElem_mem h, by simp [hp]⟩

set_option maxHeartbeats 400000 in
set_option maxRecDepth 100000 in
theorem pickDoneF (o m lo hi : Nat) (v : JV) (an ai : Option Addr) (cn ci : Nat) (st : PS) (w : World) (hP : PickAt o m lo hi v an ai cn ci st w) (hn : ∀ i (h : i < v.names.length), v.names[i].size ≤ 4294967296) :
    Calls Tryz.prog 54 #[.pointer (some ⟨o, 0, none⟩)] w fun e w' => e = .returned (.int .i64 (pickDone v st)) ∧ w = w' := by
  have c6 : w.cell? ⟨o, 6, none⟩ = some (.int .i64 st.err) := box_cell hP.obj rfl
  have c0 : w.cell? ⟨o, 0, none⟩ = some (.int .u8 5) := (box_cell (j := 0) hP.obj rfl).trans (by rw [hP.kind]; rfl)
  by_cases he : st.err = 0
  · have c3 : w.cell? ⟨o, 3, none⟩ = some (.slice an v.names.length cn) := box_cell hP.obj rfl
    have c5 : w.cell? ⟨o, 5, none⟩ = some (.map (some m)) := box_cell hP.obj rfl
    rw [he] at c6
    have HX := Lib.hid (show pickDone v st = if v.names.all (fun n => st.asked.any fun a => decide (a = n)) then 0 else 11 by unfold pickDone; rw [if_neg (by simp [he])])
    have hnl := (v.wt_bd).2.1
    have hwt := hP.wt
    have HP := Lib.hid hP
    have HN := Lib.hid hn
    obtain ⟨nn, hnn⟩ : ∃ nn, nn = v.names.length := ⟨_, rfl⟩
    rw [← hnn] at c3 hnl
    have HNN := Lib.hid hnn
    clear hP he hn hnn
    go_enter Tryz.func54, Tryz.ntmps54
    go_wp2_with fail
    refine (pickErr o 0 5 w c6 c0 (fun _ => rfl)).mono ?_
    rintro r w' ⟨rfl, rfl⟩
    go_wp2
    clear c6 c0 c3
    go_loop [5, 17] (fun _ i => ∃ k : Nat, k ≤ nn ∧ i = .int .i64 k ∧ (v.names.take k).all (fun n => st.asked.any fun a => decide (a = n)) = true) (fun _ i => nn - (intOf i).toNat)
    case atStart => exact ⟨0, by omega, rfl, by simp⟩
    case round =>
      obtain ⟨k, hk, rfl, hall⟩ := hrel
      have HA := Lib.hid hall
      clear hall
      by_cases hlt : k < nn
      · have hlt' : k < v.names.length := by rw [← HNN.out]; exact hlt
        obtain ⟨_, _, _, h3, _⟩ : True ∧ True ∧ True ∧ StrsAt w lo hi an v.names ∧ True := by
          obtain ⟨an', cn', ai', ci', hx, _, _, h3, _⟩ := HP.out.rep.parts
          simp only [Value.agg.injEq, Array.mk.injEq, List.cons.injEq, and_true, Value.slice.injEq] at hx
          obtain ⟨_, _, _, ⟨rfl, _, _⟩, _⟩ := hx
          exact ⟨trivial, trivial, trivial, h3, trivial⟩
        obtain ⟨nb, noff, rfl, _, _, yn⟩ := h3.at k hlt'
        have hsz := HN.out k hlt'
        have HTK := Lib.hid (all_take (fun n => st.asked.any fun a => decide (a = n)) v.names k hlt' HA.out)
        have HTB := Lib.hid (all_bad (fun n => st.asked.any fun a => decide (a = n)) v.names k hlt')
        clear h3
        generalize v.names[k] = nk at *
        have hkey : keyOf Tryz.prog 9 (.string nk) = some (.string nk.data.toList) := keyOf_string_mk Tryz.underlying9 (by unfold maxLen; omega)
        obtain ⟨D, n, hown, hn, hD⟩ := HP.out.map
        obtain ⟨c, hat, hc0, hc1, hc2⟩ := hD.2 nk
        obtain ⟨c', hrun, hat', _⟩ := hown.lookup_int lawStr Tryz.underlying116 Tryz.underlying3 (zeroInt _) hkey
        rw [hat] at hat'
        simp only [DataW.lit.injEq, Lit.int.injEq, true_and] at hat'
        subst hat'
        clear hown hat hD hn hkey
        by_cases hc : c = 0
        · have hm := hc2.1 hc
          have HF := Lib.hid (HTB.out (by
            rw [List.any_eq_false]; intro a ha; simp only [decide_eq_true_eq]; intro e; subst e; exact hm ha))
          subst hc
          clear hc2 hm
          go_wp2
          go_ret
          exact ⟨by rw [HX.out, HF.out]; rfl, rfl⟩
        · have hm : nk ∈ st.asked := by
            by_cases h : nk ∈ st.asked
            · exact h
            · exact absurd (hc2.2 h) hc
          have HF := Lib.hid (HTK.out (by rw [List.any_eq_true]; exact ⟨nk, hm, by simp⟩))
          have hcb : (c == 0) = false := by simpa using hc
          clear hc2 hm hc
          go_wp2
          go_round
          case rel => exact ⟨k + 1, by omega, by go_num, HF.out⟩
          case measure => simp [intOf]; omega
      · have HF := Lib.hid (show v.names.all (fun n => st.asked.any fun a => decide (a = n)) = true by
          have := HA.out; rwa [List.take_of_length_le (by rw [← HNN.out]; omega)] at this)
        go_wp2
        go_ret
        exact ⟨by rw [HX.out, HF.out]; rfl, rfl⟩
  · have HX := Lib.hid (show pickDone v st = st.err by unfold pickDone; rw [if_pos he])
    refine (doneErr o st.err 5 w he c6 c0).mono ?_
    rintro e w' ⟨rfl, rfl⟩
    exact ⟨by rw [HX.out], rfl⟩

def OfBadPost (w : World) (e : Ending) (w' : World) : Prop := ∃ o, e = .returned (.pointer (some ⟨o, 0, none⟩)) ∧ w.heap.size ≤ o ∧ o < w'.heap.size ∧ PickBad o 10 w' ∧ Below w.heap.size w w'
set_option maxHeartbeats 400000 in
theorem pickOf_bad (k n : Int) (t : ByteArray) (a b : Value) (w : World) (hk : k ≠ 5) :
    Calls Tryz.prog 52 #[.agg #[.int .u8 k, .int .i64 n, .string t, a, b]] w (OfBadPost w) := by
  have hk' : (k == 5) = false := by simpa using hk
  have hk2 : (k != 5) = true := by simpa using hk
  clear hk
  go_enter Tryz.func52, Tryz.ntmps52
  go_wp2
  go_ret
  refine ⟨_, rfl, by omega, by simp, ⟨by decide, ?_, 0, ?_⟩, ((Below.refl _ _).alloc (Nat.le_refl _) _).alloc (by simp) _⟩
  · go_simp
  · go_simp

def OfPost (v : JV) (w : World) (e : Ending) (w' : World) : Prop := ∃ o m lo hi an ai cn ci, e = .returned (.pointer (some ⟨o, 0, none⟩)) ∧ PickAt o m lo hi v an ai cn ci ⟨[], 0⟩ w' ∧ w.heap.size ≤ o ∧ w.heap.size ≤ m ∧ Below w.heap.size w w'

set_option maxHeartbeats 400000 in
set_option maxRecDepth 100000 in
theorem pickOf_good (v : JV) (x : Value) (w : World) (lo hi : Nat) (hN : v.wt ≤ 4294967296) (hhi : hi ≤ w.heap.size) (hR : Rep w lo hi v x) (hk : v.kind = 5) (hr : rises v.names = true) (hl : v.names.length = v.items.length) (hS : ∀ k (h : k < v.items.length), Seen lo v.items[k]) :
    Calls Tryz.prog 52 #[x] w (OfPost v w) := by
  obtain ⟨an, cn, ai, ci, rfl, h1, h2, h3, h4⟩ := hR.parts
  obtain ⟨b1, b2, b3, b4⟩ := v.wt_bd
  rw [hl, hk]
  rw [hl, hk] at hR
  obtain ⟨nn, hnn⟩ : ∃ nn, nn = v.items.length := ⟨_, rfl⟩
  rw [← hnn] at hR b3 ⊢
  have HNN := Lib.hid hnn
  have H3 := Lib.hid h3
  have HR := Lib.hid hR
  have HRS := Lib.hid hr
  have HS := Lib.hid hS
  have HK := Lib.hid hk
  have HL := Lib.hid hl
  clear h1 h2 h3 h4 hR hr hS hk hnn hl
  have hmm := @run_makeMap Tryz.prog
  have HB0 := Lib.hid (show Below w.heap.size w (w.alloc (.cells #[.int .u8 5, .int .i64 v.n, .string v.t, .slice an nn cn, .slice ai nn ci] 29)) from (Below.refl _ _).alloc (Nat.le_refl _) _)
  have HX0 := Lib.hid (heap_alloc_new w (.cells #[.int .u8 5, .int .i64 v.n, .string v.t, .slice an nn cn, .slice ai nn ci] 29))
  go_enter Tryz.func52, Tryz.ntmps52
  go_wp2
  go_loopw [3] (fun i wr => ∃ k : Nat, 1 ≤ k ∧ (k ≤ nn ∨ k = 1) ∧ i = .int .i64 k ∧ Below (w.heap.size + 1) (w.alloc (.cells #[.int .u8 5, .int .i64 v.n, .string v.t, .slice an nn cn, .slice ai nn ci] 29)) wr) (fun i _ => nn - (intOf i).toNat)
  case atStart => exact ⟨1, by omega, .inr rfl, rfl, Below.refl _ _⟩
  case round =>
    obtain ⟨k, hk1, hk2, rfl, hbel⟩ := hrel
    have hz : w.heap.size + 1 ≤ wr.heap.size := by have := hbel.size; simpa using this
    have hx1 : wr.heap[w.heap.size]? = some (.cells #[.int .u8 5, .int .i64 v.n, .string v.t, .slice an nn cn, .slice ai nn ci] 29 (0, 0)) := by rw [hbel.block _ (by omega)]; exact HX0.out
    have HX1 := Lib.hid hx1
    have HBW := Lib.hid (show Below w.heap.size w wr from HB0.out.trans (hbel.mono (by omega)))
    have c3 : wr.cell? ⟨w.heap.size, 3, none⟩ = some (.slice an nn cn) := box_cell hx1 rfl
    have HB := Lib.hid hbel
    clear hx1 hbel
    by_cases hlt : k < nn
    · have hltn : k < v.names.length := by rw [HL.out, ← HNN.out]; exact hlt
      obtain ⟨b, off, rfl, _, hb, y1⟩ := (H3.out.below HBW.out hhi (Nat.le_refl _) (Nat.le_refl _)).at k hltn
      obtain ⟨b', off', hbb, _, _, y0⟩ := (H3.out.below HBW.out hhi (Nat.le_refl _) (Nat.le_refl _)).at (k - 1) (by omega)
      obtain ⟨rfl, rfl⟩ : b = b' ∧ off = off' := by simpa using hbb
      clear hbb
      have hless := rises_lt HRS.out (k - 1) k (by omega) hltn (by omega)
      unfold bl at hless
      generalize v.names[k - 1] = na at hless y0
      generalize v.names[k] = nb at hless y1
      have i0 : IntKind.i64.wrap ((k : Int) - 1) = (k : Int) - 1 := IntWalk.i64_in _ (by omega)
      have j0 : 0 ≤ (k : Int) - 1 := by omega
      have j1 : 1 ≤ (k : Int) := by omega
      have j2 : (k : Int) - 1 < (nn : Int) := by omega
      have j3 : (k : Int) < (nn : Int) := by omega
      have t0 : ((k : Int) - 1).toNat = k - 1 := by omega
      go_wp2_with fail
      go_quiet (fail)
      go_wp2
      go_roundw
      case rel => exact ⟨k + 1, by omega, by omega, by go_num, Below.drewN HB.out _⟩
      case measure => simp [intOf]; omega
    · have c0 : wr.cell? ⟨w.heap.size, 0, none⟩ = some (.int .u8 5) := box_cell HX1.out rfl
      have c1 : wr.cell? ⟨w.heap.size, 1, none⟩ = some (.int .i64 v.n) := box_cell HX1.out rfl
      have c2 : wr.cell? ⟨w.heap.size, 2, none⟩ = some (.string v.t) := box_cell HX1.out rfl
      have c4 : wr.cell? ⟨w.heap.size, 4, none⟩ = some (.slice ai nn ci) := box_cell HX1.out rfl
      have HC := Lib.hid (valueCopy v _ wr lo hi hN (by omega) (HR.out.below HBW.out hhi (Nat.le_refl _) (Nat.le_refl _)) HS.out)
      go_wp2_with fail
      refine HC.out.mono ?_
      clear HC c0 c1 c2 c3 c4
      rintro e w2 ⟨an2, cn2, ai2, ci2, rfl, hr2, hb2⟩
      have hz2 := hb2.size
      have HR2 := Lib.hid hr2
      have HB2 := Lib.hid (HBW.out.trans (hb2.mono (by omega)))
      clear hr2 hb2
      go_wp2
      go_ret
      refine ⟨w2.heap.size + 1, w2.heap.size, wr.heap.size, w2.heap.size, an2, ai2, cn2, ci2, rfl, ?_, by omega, by omega, (HB2.out.alloc (by omega) _).alloc (by simp; omega) _⟩
      have hbb : Below w2.heap.size w2 ((w2.alloc (.map #[] 0)).alloc (.cells #[.int .u8 v.kind, .int .i64 v.n, .string v.t, .slice an2 v.names.length cn2, .slice ai2 v.items.length ci2, .map (some w2.heap.size), .int .i64 0] 118)) := ((Below.refl _ _).alloc (Nat.le_refl _) _).alloc (by simp) _
      exact { obj := by
                have := heap_alloc_new (w2.alloc (.map #[] 0)) (.cells #[.int .u8 v.kind, .int .i64 v.n, .string v.t, .slice an2 v.names.length cn2, .slice ai2 v.items.length ci2, .map (some w2.heap.size), .int .i64 0] 118)
                rw [show (w2.alloc (.map #[] 0)).heap.size = w2.heap.size + 1 by simp] at this
                exact this
              map := ⟨_, 0, (World.ownsMap_made w2 _ _ _).alloc _, by omega, AskD.nil⟩
              rep := HR2.out.below hbb (Nat.le_refl _) (Nat.le_refl _) (Nat.le_refl _)
              pos := by omega
              out := ⟨by omega, by omega⟩
              le := hbb.size
              kind := HK.out
              rise := HRS.out
              len := HL.out
              wt := hN }

end Go.Proofs.YtcahpjejpimdhaaGreatDoor

namespace Go.Proofs.YtcahpjejpimdhaaGreatDoor
open Go.RowKit

def pick2 (v0 v1 : Value) : Nat → Value
  | 0 => v0 | _ => v1
theorem rowIs_box2 (w : World) (v0 v1 : Value) (t : Nat) : (w.alloc (.cells #[v0, v1] t)).rowIs w.heap.size t 2 (pick2 v0 v1) := rowIs_eq rfl
theorem row2_heap {w : World} {b t : Nat} {v0 v1 : Value} (h : w.rowIs b t 2 (pick2 v0 v1)) : w.heap[b]? = some (.cells #[v0, v1] t (0, 0)) := by
  obtain ⟨c, hc, hn, hf⟩ := h
  have e : c = #[v0, v1] := by
    apply Array.ext (by simp [hn])
    intro i h1 h2
    have := hf i (by omega)
    rw [Array.getElem?_eq_getElem h1] at this
    have h3 := Option.some.inj this
    rw [h3]
    rcases i with _ | _ | i <;> first | rfl | (simp at h2; omega)
  rw [hc, e]
theorem set2 {W : World} {b t : Nat} {f : Nat → Value} (v0 v1 : Value) (h : W.rowIs b t 2 f) : ((W.setCell ⟨b, 0, none⟩ v0).setCell ⟨b, 1, none⟩ v1).rowIs b t 2 (pick2 v0 v1) := by
  refine ((h.set 0 v0).set 1 v1).congr fun j hj => ?_
  rcases j with _ | _ | j <;> first | rfl | omega
theorem below2 {B : Nat} {a W : World} {b : Nat} (v0 v1 : Value) (h : Below B a W) (hb : B ≤ b) : Below B a ((W.setCell ⟨b, 0, none⟩ v0).setCell ⟨b, 1, none⟩ v1) := (h.setCell hb v0).setCell hb v1

/-- The key of a value (scheme, public), and the error. -/
def keyOfJ (v : JV) : (ByteArray × ByteArray) × Int :=
  if v.mayB = false then (({ data := #[] }, { data := #[] }), 3) else if v.kind ≠ 5 then (({ data := #[] }, { data := #[] }), 10) else
    if pickDone v (pickText v schN (pickText v pubN ⟨[], 0⟩).2).2 ≠ 0 then (({ data := #[] }, { data := #[] }), pickDone v (pickText v schN (pickText v pubN ⟨[], 0⟩).2).2) else
    if keyOk (pickText v schN (pickText v pubN ⟨[], 0⟩).2).1.data.toList (pickText v pubN ⟨[], 0⟩).1.data.toList then (((pickText v schN (pickText v pubN ⟨[], 0⟩).2).1, (pickText v pubN ⟨[], 0⟩).1), 0) else (({ data := #[] }, { data := #[] }), 3)
def KeyOfPost (v : JV) (w : World) (e : Ending) (w' : World) : Prop :=
  e = .returned (.tuple #[.agg #[.string (keyOfJ v).1.1, .string (keyOfJ v).1.2], .int .i64 (keyOfJ v).2]) ∧ Below w.heap.size w w'

theorem may_obj {v : JV} (h : v.mayB = true) (hk : v.kind = 5) : rises v.names = true ∧ v.names.length = v.items.length ∧ v.names.all txtOk = true := by
  unfold JV.mayB at h
  rw [JV.may_eq] at h
  split at h
  · cases h
  split at h
  · cases h
  next h2 =>
  rcases proper_kind (by simpa using h2) with ⟨e, _⟩ | ⟨e, _⟩ | ⟨e, _⟩ | e | ⟨_, e1, e2, e3⟩ <;> first | omega | exact ⟨e2, e1, e3⟩
theorem text_size {v : JV} {y : ByteArray} {st : PS} (hv : v.wt ≤ 4294967296) : (pickText v y st).1.size ≤ 4294967296 ∧ (pickText v y st).2.asked.length ≤ st.asked.length + 1 := by
  unfold pickText
  split
  · exact ⟨by show 0 ≤ _; omega, by simp⟩
  split
  · exact ⟨by show 0 ≤ _; omega, by simp⟩
  · next it hit =>
    split
    · refine ⟨?_, by simp⟩
      have : ∀ (ns : List ByteArray) (xs : List JV), lookL ns xs y = some it → it.wt ≤ JV.wts xs := by
        intro ns
        induction ns with
        | nil => intro xs h; simp [lookL] at h
        | cons n ns ih =>
          intro xs h
          cases xs with
          | nil => simp [lookL] at h
          | cons x xs =>
            rw [lookL] at h
            split at h
            · cases h; simp [JV.wts]
            · have := ih xs h; simp [JV.wts]; omega
      have h1 := this _ _ hit
      have h2 := it.wt_bd
      have h3 := v.wt_bd
      show it.t.size ≤ _
      omega
    · exact ⟨by show 0 ≤ _; omega, by simp⟩

set_option maxHeartbeats 1000000 in
set_option maxRecDepth 100000 in
theorem keyOf (v : JV) (x : Value) (w : World) (lo hi : Nat) (hN : v.wt ≤ 4294967296) (hhi : hi ≤ w.heap.size) (hR : Rep w lo hi v x) (hS : v.mayB = true → v.kind = 5 → ∀ k (h : k < v.items.length), Seen lo v.items[k]) :
    Calls Tryz.prog 23 #[x] w (KeyOfPost v w) := by
  obtain ⟨an, cn, ai, ci, hx, h1, h2, h3, h4⟩ := hR.parts
  have HR := Lib.hid hR
  have HS := Lib.hid hS
  clear h1 h2 h3 h4 hR hS
  subst hx
  have HB0 := Lib.hid (show Below w.heap.size w ((w.alloc (.cells #[.int .u8 v.kind, .int .i64 v.n, .string v.t, .slice an v.names.length cn, .slice ai v.items.length ci] 29)).alloc (.cells #[.string { data := #[] }, .string { data := #[] }] 23)) from ((Below.refl _ _).alloc (Nat.le_refl _) _).alloc (by simp) _)
  have HX0 := Lib.hid (show ((w.alloc (.cells #[.int .u8 v.kind, .int .i64 v.n, .string v.t, .slice an v.names.length cn, .slice ai v.items.length ci] 29)).alloc (.cells #[.string { data := #[] }, .string { data := #[] }] 23)).heap[w.heap.size]? = some (.cells #[.int .u8 v.kind, .int .i64 v.n, .string v.t, .slice an v.names.length cn, .slice ai v.items.length ci] 29 (0, 0)) by rw [Below.heap_alloc _ _ _ (by simp)]; exact heap_alloc_new w _)
  have hr0 := rowIs_box2 (w.alloc (.cells #[.int .u8 v.kind, .int .i64 v.n, .string v.t, .slice an v.names.length cn, .slice ai v.items.length ci] 29)) (.string { data := #[] }) (.string { data := #[] }) 23
  rw [show (w.alloc (.cells #[.int .u8 v.kind, .int .i64 v.n, .string v.t, .slice an v.names.length cn, .slice ai v.items.length ci] 29)).heap.size = w.heap.size + 1 by simp] at hr0
  have HR0 := Lib.hid hr0
  clear hr0
  have HM := Lib.hid (valueMay v _ ((w.alloc (.cells #[.int .u8 v.kind, .int .i64 v.n, .string v.t, .slice an v.names.length cn, .slice ai v.items.length ci] 29)).alloc (.cells #[.string { data := #[] }, .string { data := #[] }] 23)) hN (HR.out.below HB0.out hhi (Nat.zero_le _) (by simp; omega)))
  cases hm : v.mayB
  · have HX := Lib.hid (show keyOfJ v = (({ data := #[] }, { data := #[] }), 3) by unfold keyOfJ; rw [if_pos hm])
    rw [hm] at HM
    clear hm
    go_enter Tryz.func23, Tryz.ntmps23
    go_wp2_with fail
    refine HM.out.mono ?_
    rintro e w1 ⟨rfl, hb1⟩
    have hres := below_row hb1 HR0.out (by simp)
    have HRS := Lib.hid hres
    have HB1 := Lib.hid (HB0.out.trans (hb1.mono (by simp; omega)))
    have t0 := hres.cell (i := 0) (by decide); have t1 := hres.cell (i := 1) (by decide)
    have s0 := hres.frozen 0; have s1 := hres.frozen 1
    simp only [pick2] at t0 t1
    clear hres hb1
    go_wp2
    refine bodyPost_ret (results_row_tmp Tryz.results23 _ _ (w.heap.size + 1) 23 _ (0, 0) _ rfl (row2_heap (set2 _ _ HRS.out)) Tryz.underlying23 rfl (by kernel_rfl) _ rfl) rfl ⟨?_, below2 _ _ HB1.out (by omega)⟩
    rw [HX.out]; rfl
  · rw [hm] at HM
    have HMB := Lib.hid hm
    clear hm
    by_cases hk : v.kind = 5
    · obtain ⟨hri, hle, htx⟩ := may_obj HMB.out hk
      obtain ⟨st1, hst1⟩ : ∃ r, r = pickText v pubN ⟨[], 0⟩ := ⟨_, rfl⟩
      obtain ⟨st2, hst2⟩ : ∃ r, r = pickText v schN st1.2 := ⟨_, rfl⟩
      obtain ⟨dn, hdn⟩ : ∃ r, r = pickDone v st2.2 := ⟨_, rfl⟩
      have HX := Lib.hid (show keyOfJ v = if dn ≠ 0 then (({ data := #[] }, { data := #[] }), dn) else if keyOk st2.1.data.toList st1.1.data.toList then ((st2.1, st1.1), 0) else (({ data := #[] }, { data := #[] }), 3) by
        unfold keyOfJ; rw [if_neg (by rw [HMB.out]; simp), if_neg (by simp [hk]), hdn, hst2, hst1])
      obtain ⟨z1, z2⟩ := text_size (y := pubN) (st := ⟨[], 0⟩) hN
      obtain ⟨z3, z4⟩ := text_size (y := schN) (st := st1.2) hN
      rw [← hst1] at z1 z2
      rw [← hst2] at z3 z4
      simp only [List.length_nil] at z2
      have HST1 := Lib.hid hst1
      have HST2 := Lib.hid hst2
      have HDN := Lib.hid hdn
      have HRI := Lib.hid hri
      have HLE := Lib.hid hle
      have HTX := Lib.hid htx
      have HK := Lib.hid hk
      clear hst1 hst2 hdn hri hle htx hk
      go_enter Tryz.func23, Tryz.ntmps23
      go_wp2_with fail
      refine HM.out.mono ?_
      clear HM
      rintro e w1 ⟨rfl, hb1⟩
      have hz1 : w.heap.size + 2 ≤ w1.heap.size := by have := hb1.size; simp at this; omega
      have HB1 := Lib.hid (HB0.out.trans (hb1.mono (by simp; omega)))
      have HR1 := Lib.hid (below_row hb1 HR0.out (by simp))
      have hx1 : w1.heap[w.heap.size]? = some (.cells #[.int .u8 v.kind, .int .i64 v.n, .string v.t, .slice an v.names.length cn, .slice ai v.items.length ci] 29 (0, 0)) := by rw [hb1.block _ (by simp; omega)]; exact HX0.out
      have c0 : w1.cell? ⟨w.heap.size, 0, none⟩ = some (.int .u8 v.kind) := box_cell hx1 rfl
      have c1 : w1.cell? ⟨w.heap.size, 1, none⟩ = some (.int .i64 v.n) := box_cell hx1 rfl
      have c2 : w1.cell? ⟨w.heap.size, 2, none⟩ = some (.string v.t) := box_cell hx1 rfl
      have c3 : w1.cell? ⟨w.heap.size, 3, none⟩ = some (.slice an v.names.length cn) := box_cell hx1 rfl
      have c4 : w1.cell? ⟨w.heap.size, 4, none⟩ = some (.slice ai v.items.length ci) := box_cell hx1 rfl
      have HOF := Lib.hid (pickOf_good v _ w1 lo hi hN (by omega) (HR.out.below HB1.out hhi (Nat.le_refl _) (Nat.le_refl _)) HK.out HRI.out HLE.out (HS.out HMB.out HK.out))
      clear hb1 hx1
      go_wp2_with fail
      refine HOF.out.mono ?_
      clear HOF c0 c1 c2 c3 c4 HR HS HX0 HB0 HR0
      rintro e w2 ⟨o, m, lo2, hi2, an2, ai2, cn2, ci2, rfl, hp2, ho2, hm2, hb2⟩
      have HT1 := Lib.hid (pickTextF o m lo2 hi2 v an2 ai2 cn2 ci2 pubN ⟨[], 0⟩ w2 hp2 (by decide) (by simp))
      have HR2 := Lib.hid (below_row hb2 HR1.out (by omega))
      have hz2 := hb2.size
      have HB2 := Lib.hid (HB1.out.trans (hb2.mono (by omega)))
      clear hp2 hb2 HR1 HB1
      go_wp2_with fail
      refine HT1.out.mono ?_
      clear HT1
      rintro e w3 ⟨rfl, hp3, ht3⟩
      rw [← HST1.out] at hp3 ⊢
      have HT2 := Lib.hid (pickTextF o m lo2 hi2 v an2 ai2 cn2 ci2 schN st1.2 w3 hp3 (by decide) (by omega))
      have hz3 := ht3.size
      have HR3 := Lib.hid (ht3.row HR2.out (by omega))
      have HB3 := Lib.hid (HB2.out.trans (ht3.below (by omega) fun k hk e => by omega))
      clear hp3 ht3 HR2 HB2
      go_wp2_with fail
      refine HT2.out.mono ?_
      clear HT2
      rintro e w4 ⟨rfl, hp4, ht4⟩
      rw [← HST2.out] at hp4 ⊢
      have hz4 := ht4.size
      have HR4 := Lib.hid (ht4.row HR3.out (by omega))
      have HB4 := Lib.hid (HB3.out.trans (ht4.below (by omega) fun k hk e => by omega))
      have HDO := Lib.hid (pickDoneF o m lo2 hi2 v an2 ai2 cn2 ci2 st2.2 (w4.alloc (.cells #[.string st2.1, .string st1.1] 23)) (hp4.below ((Below.refl _ _).alloc (Nat.le_refl _) _)) (fun i hi => by
        have := List.all_eq_true.1 HTX.out _ (List.getElem_mem hi)
        unfold txtOk at this; simp at this; omega))
      rw [← HDN.out] at HDO
      clear hp4 ht4 HR3 HB3
      go_wp2_with fail
      refine HDO.out.mono ?_
      clear HDO
      rintro e w5 ⟨rfl, rfl⟩
      have HR5 := Lib.hid (HR4.out.alloc (.cells #[.string st2.1, .string st1.1] 23))
      have HB5 := Lib.hid (HB4.out.alloc HB4.out.size (.cells #[.string st2.1, .string st1.1] 23))
      clear HR4 HB4
      by_cases hd : dn = 0
      · rw [hd] at HX ⊢
        simp only [ne_eq, not_true_eq_false, if_false] at HX
        clear hd HDN
        have HKM := Lib.hid (keyMay st2.1 st1.1 (w4.alloc (.cells #[.string st2.1, .string st1.1] 23)) (by omega) (by omega))
        cases hko : keyOk st2.1.data.toList st1.1.data.toList
        · rw [hko] at HKM HX
          clear hko
          go_wp2_with fail
          refine HKM.out.mono ?_
          rintro e w6 ⟨rfl, hb6⟩
          have hres := below_row hb6 HR5.out (by simp; omega)
          have HRS := Lib.hid hres
          have HB6 := Lib.hid (HB5.out.trans (hb6.mono (by simp; omega)))
          have t0 := hres.cell (i := 0) (by decide); have t1 := hres.cell (i := 1) (by decide)
          have s0 := hres.frozen 0; have s1 := hres.frozen 1
          simp only [pick2] at t0 t1
          clear hres hb6
          go_wp2
          refine bodyPost_ret (results_row_tmp Tryz.results23 _ _ (w.heap.size + 1) 23 _ (0, 0) _ rfl (row2_heap (set2 _ _ HRS.out)) Tryz.underlying23 rfl (by kernel_rfl) _ rfl) rfl ⟨?_, below2 _ _ HB6.out (by omega)⟩
          rw [HX.out]; rfl
        · rw [hko] at HKM HX
          clear hko
          go_wp2_with fail
          refine HKM.out.mono ?_
          rintro e w6 ⟨rfl, hb6⟩
          have hres := below_row hb6 HR5.out (by simp; omega)
          have hx6 : w6.heap[w4.heap.size]? = some (.cells #[.string st2.1, .string st1.1] 23 (0, 0)) := by rw [hb6.block _ (by simp)]; exact heap_alloc_new _ _
          have d0 : w6.cell? ⟨w4.heap.size, 0, none⟩ = some (.string st2.1) := box_cell hx6 rfl
          have d1 : w6.cell? ⟨w4.heap.size, 1, none⟩ = some (.string st1.1) := box_cell hx6 rfl
          have HRS := Lib.hid hres
          have HB6 := Lib.hid (HB5.out.trans (hb6.mono (by simp; omega)))
          have t0 := hres.cell (i := 0) (by decide); have t1 := hres.cell (i := 1) (by decide)
          have s0 := hres.frozen 0; have s1 := hres.frozen 1
          simp only [pick2] at t0 t1
          clear hres hb6 hx6
          go_wp2
          refine bodyPost_ret (results_row_tmp Tryz.results23 _ _ (w.heap.size + 1) 23 _ (0, 0) _ rfl (row2_heap (set2 _ _ HRS.out)) Tryz.underlying23 rfl (by kernel_rfl) _ rfl) rfl ⟨?_, below2 _ _ HB6.out (by omega)⟩
          rw [HX.out]; rfl
      · rw [if_pos hd] at HX
        have hd1 : (dn == 0) = false := by simpa using hd
        have hd2 : (dn != 0) = true := by simpa using hd
        have hres := HR5.out
        have t0 := hres.cell (i := 0) (by decide); have t1 := hres.cell (i := 1) (by decide)
        have s0 := hres.frozen 0; have s1 := hres.frozen 1
        simp only [pick2] at t0 t1
        clear hres hd HDN
        go_wp2
        refine bodyPost_ret (results_row_tmp Tryz.results23 _ _ (w.heap.size + 1) 23 _ (0, 0) _ rfl (row2_heap (set2 _ _ HR5.out)) Tryz.underlying23 rfl (by kernel_rfl) _ rfl) rfl ⟨?_, below2 _ _ HB5.out (by omega)⟩
        rw [HX.out]; rfl
    · have HX := Lib.hid (show keyOfJ v = (({ data := #[] }, { data := #[] }), 10) by unfold keyOfJ; rw [if_neg (by rw [HMB.out]; simp), if_pos hk])
      have HK := Lib.hid hk
      clear hk
      go_enter Tryz.func23, Tryz.ntmps23
      go_wp2_with fail
      refine HM.out.mono ?_
      clear HM
      rintro e w1 ⟨rfl, hb1⟩
      have hz1 : w.heap.size + 2 ≤ w1.heap.size := by have := hb1.size; simp at this; omega
      have HB1 := Lib.hid (HB0.out.trans (hb1.mono (by simp; omega)))
      have HR1 := Lib.hid (below_row hb1 HR0.out (by simp))
      have hx1 : w1.heap[w.heap.size]? = some (.cells #[.int .u8 v.kind, .int .i64 v.n, .string v.t, .slice an v.names.length cn, .slice ai v.items.length ci] 29 (0, 0)) := by rw [hb1.block _ (by simp; omega)]; exact HX0.out
      have c0 : w1.cell? ⟨w.heap.size, 0, none⟩ = some (.int .u8 v.kind) := box_cell hx1 rfl
      have c1 : w1.cell? ⟨w.heap.size, 1, none⟩ = some (.int .i64 v.n) := box_cell hx1 rfl
      have c2 : w1.cell? ⟨w.heap.size, 2, none⟩ = some (.string v.t) := box_cell hx1 rfl
      have c3 : w1.cell? ⟨w.heap.size, 3, none⟩ = some (.slice an v.names.length cn) := box_cell hx1 rfl
      have c4 : w1.cell? ⟨w.heap.size, 4, none⟩ = some (.slice ai v.items.length ci) := box_cell hx1 rfl
      clear hb1 hx1
      go_wp2_with fail
      refine (pickOf_bad v.kind v.n v.t _ _ w1 HK.out).mono ?_
      clear c0 c1 c2 c3 c4
      rintro e w2 ⟨o, rfl, ho1, ho2, hp2, hb2⟩
      have HP2 := Lib.hid hp2
      have HR2 := Lib.hid (below_row hb2 HR1.out (by omega))
      have HB2 := Lib.hid (HB1.out.trans (hb2.mono (by omega)))
      clear hp2 hb2
      go_wp2_with fail
      refine (textBad o 10 _ w2 HP2.out).mono ?_
      rintro e w3 ⟨rfl, rfl⟩
      go_wp2_with fail
      refine (textBad o 10 _ w2 HP2.out).mono ?_
      rintro e w3 ⟨rfl, rfl⟩
      have HP3 := Lib.hid (HP2.out.below ((Below.refl _ _).alloc (Nat.le_refl _) (.cells #[.string { data := #[] }, .string { data := #[] }] 23)) ho2)
      obtain ⟨p1, p2, kk, p3⟩ := HP3.out
      have HD := Lib.hid (doneErr o 10 kk _ p1 p2 p3)
      clear p1 p2 p3
      go_wp2_with fail
      refine HD.out.mono ?_
      rintro e w3 ⟨rfl, rfl⟩
      have hres := HR2.out.alloc (.cells #[.string { data := #[] }, .string { data := #[] }] 23)
      have HRS := Lib.hid hres
      have HB3 := Lib.hid (HB2.out.alloc HB2.out.size (.cells #[.string { data := #[] }, .string { data := #[] }] 23))
      have t0 := hres.cell (i := 0) (by decide); have t1 := hres.cell (i := 1) (by decide)
      have s0 := hres.frozen 0; have s1 := hres.frozen 1
      simp only [pick2] at t0 t1
      clear hres
      go_wp2
      refine bodyPost_ret (results_row_tmp Tryz.results23 _ _ (w.heap.size + 1) 23 _ (0, 0) _ rfl (row2_heap (set2 _ _ HRS.out)) Tryz.underlying23 rfl (by kernel_rfl) _ rfl) rfl ⟨?_, below2 _ _ HB3.out (by omega)⟩
      rw [HX.out]; rfl

end Go.Proofs.YtcahpjejpimdhaaGreatDoor

namespace Go.Proofs.YtcahpjejpimdhaaGreatDoor
open Go.RowKit

theorem grown_setCell {a b : World} {row : Option Nat} (h : a.grownBy b row) {p : Addr} {v : Value} (hp : p.block < a.heap.size) (hn : some p.block ≠ row) : (a.setCell p v).grownBy (b.setCell p v) row := by
  refine ⟨h.os, h.tape, h.output, by have := h.size; simpa [World.setCell] using this, fun k hk hne => ?_⟩
  have hk' : k < a.heap.size := by simpa [World.setCell] using hk
  by_cases e : k = p.block
  · subst e
    simp only [World.setCell, Array.getElem?_modify, if_true]
    rw [h.block p.block hp hn]
  · rw [Below.heap_setCell _ _ _ _ e, Below.heap_setCell _ _ _ _ e]
    exact h.block k hk' hne

/-- Behind the first append (the names'), the stores still to come. -/
structure Mid4 (W0 W w4 : World) (cb T e1 e5 g cap : Nat) (vn vi : Value) (ns : List ByteArray) (its : List JV) (cs : List Value) (x : ByteArray) : Prop where
  obj : ObjAt W0 (w4.setCell ⟨cb, 3, none⟩ (.slice (some ⟨g, 0, none⟩) (ns.length + 1) cap)) cb T e1 e5 (.slice (some ⟨g, 0, none⟩) (ns.length + 1) cap) vi (ns ++ [x]) its cs
  row : w4.rowIs cb T 5 (pick5 (.int .u8 5) (.int .i64 0) (.string { data := #[] }) vn vi)
  items : w4.ownsRow W0.heap.size e5 5 vi its.length cs
  size : W.heap.size ≤ w4.heap.size
  base : W0.heap.size ≤ W.heap.size
  ne : some cb ≠ vi.ownBlock

theorem mid4 {W0 W V w4 : World} {cb T e1 e5 g cap : Nat} {vn vi : Value} {ns : List ByteArray} {its : List JV} {cs : List Value} (h : ObjAt W0 W cb T e1 e5 vn vi ns its cs) (hV : Below W.heap.size W V) (x : ByteArray)
    (hg : V.grownBy w4 vn.ownBlock) (hat : vn.ownBlock = some g ∨ g = V.heap.size)
    (ho4 : w4.ownsRow W0.heap.size e1 1 (.slice (some ⟨g, 0, none⟩) (ns.length + 1) cap) (ns.length + 1) (ns.map .string ++ [.string x])) : Mid4 W0 W w4 cb T e1 e5 g cap vn vi ns its cs x := by
  have h2 := h.below hV
  have hcb := h2.row.lt
  have hnn : some cb ≠ vn.ownBlock := fun e => by have := (h2.names.lt _ e.symm).1; have := h.lt; omega
  have hni : some cb ≠ vi.ownBlock := fun e => by have := (h2.items.lt _ e.symm).1; have := h.lt; omega
  refine ⟨h2.name x hg (by rcases hat with e | e; exact .inl e; exact .inr (by omega)) ho4, h2.row.of_block (hg.block cb hcb hnn), ?_, Nat.le_trans hV.size hg.size, h.touch.size, hni⟩
  exact owns_of_block h2.items fun b hb => hg.block b (h2.items.lt b hb).2 (fun e => h2.ne b e.symm hb)

theorem Mid4.alloc {W0 W w4 : World} {cb T e1 e5 g cap : Nat} {vn vi : Value} {ns : List ByteArray} {its : List JV} {cs : List Value} {x : ByteArray} (h : Mid4 W0 W w4 cb T e1 e5 g cap vn vi ns its cs x) (o : Obj) : Mid4 W0 W (w4.alloc o) cb T e1 e5 g cap vn vi ns its cs x := by
  have hcb := h.row.lt
  have e : (w4.alloc o).setCell ⟨cb, 3, none⟩ (.slice (some ⟨g, 0, none⟩) (ns.length + 1) cap) = (w4.setCell ⟨cb, 3, none⟩ (.slice (some ⟨g, 0, none⟩) (ns.length + 1) cap)).alloc o := by
    simp only [World.setCell, World.alloc]
    congr 1
    apply Array.ext
    · simp
    · intro i h1 h2
      simp only [Array.getElem_modify, Array.getElem_push]
      simp only [Array.size_modify, Array.size_push] at h1 h2 ⊢
      by_cases hi : i < w4.heap.size
      · simp [hi]
      · have : ¬ cb = i := by omega
        simp [hi, this]
  refine ⟨?_, h.row.alloc o, h.items.alloc o, by have := h.size; simp; omega, h.base, h.ne⟩
  rw [e]
  exact h.obj.below ((Below.refl _ _).alloc (Nat.le_refl _) _)

/-- Behind the second append, and both stores. -/
theorem Mid4.done {W0 W w4 w6 : World} {cb T e1 e5 g cap g2 cap2 : Nat} {vn vi : Value} {ns : List ByteArray} {its : List JV} {cs : List Value} {x : ByteArray} (h : Mid4 W0 W w4 cb T e1 e5 g cap vn vi ns its cs x) (it : JV) (an ai : Option Addr) (cn ci : Nat)
    (hr : ∀ (w : World) (lo hi : Nat), Rep w lo hi it (.agg #[.int .u8 it.kind, .int .i64 it.n, .string it.t, .slice an it.names.length cn, .slice ai it.items.length ci]))
    (hg : w4.grownBy w6 vi.ownBlock) (hat : vi.ownBlock = some g2 ∨ g2 = w4.heap.size)
    (ho : w6.ownsRow W0.heap.size e5 5 (.slice (some ⟨g2, 0, none⟩) (its.length + 1) cap2) (its.length + 1) (cs ++ [.int .u8 it.kind, .int .i64 it.n, .string it.t, .slice an it.names.length cn, .slice ai it.items.length ci])) :
    ObjAt W0 ((w6.setCell ⟨cb, 3, none⟩ (.slice (some ⟨g, 0, none⟩) (ns.length + 1) cap)).setCell ⟨cb, 4, none⟩ (.slice (some ⟨g2, 0, none⟩) (its.length + 1) cap2)) cb T e1 e5 (.slice (some ⟨g, 0, none⟩) (ns.length + 1) cap) (.slice (some ⟨g2, 0, none⟩) (its.length + 1) cap2) (ns ++ [x]) (its ++ [it]) (cs ++ [.int .u8 it.kind, .int .i64 it.n, .string it.t, .slice an it.names.length cn, .slice ai it.items.length ci]) := by
  have hg3 := grown_setCell (p := ⟨cb, 3, none⟩) (v := .slice (some ⟨g, 0, none⟩) (ns.length + 1) cap) hg h.row.lt h.ne
  have hlt := h.obj.lt
  refine h.obj.item (it := it) (Below.refl _ _) (Nat.le_refl _) (Nat.le_refl _) (hr _ _ _) hg3 (by rcases hat with e | e; exact .inl e; exact .inr (by simp [World.setCell]; omega)) ?_
  have := ownsRow_setCell_below ho hlt (Value.slice (some ⟨g, 0, none⟩) (ns.length + 1) cap) (a := ⟨cb, 3, none⟩)
  simpa using this
theorem Mid4.stores {W0 W w4 w6 : World} {cb T e1 e5 g cap : Nat} {vn vi : Value} {ns : List ByteArray} {its : List JV} {cs : List Value} {x : ByteArray} (h : Mid4 W0 W w4 cb T e1 e5 g cap vn vi ns its cs x)
    (hg : w4.grownBy w6 vi.ownBlock) : w6.cell? ⟨cb, 3, none⟩ = some vn ∧ w6.cell? ⟨cb, 4, none⟩ = some vi ∧ w6.frozen? ⟨cb, 3, none⟩ = false ∧ w6.frozen? ⟨cb, 4, none⟩ = false := by
  have hr := h.row.of_block (hg.block cb h.row.lt h.ne)
  exact ⟨hr.cell (by decide), hr.cell (by decide), hr.frozen 3, hr.frozen 4⟩

end Go.Proofs.YtcahpjejpimdhaaGreatDoor

namespace Go.Proofs.YtcahpjejpimdhaaGreatDoor
open Go.RowKit

theorem pub_ne : pubN ≠ schN := by decide
theorem look_pub (s t : ByteArray) : (keyJ s t).look pubN = some (txtJ t) := by
  unfold JV.look keyJ JV.names JV.items; simp [lookL]
theorem look_sch (s t : ByteArray) : (keyJ s t).look schN = some (txtJ s) := by
  unfold JV.look keyJ JV.names JV.items; simp [lookL, pub_ne]
theorem keyOf_keyJ {s t : ByteArray} (h : keyOk s.data.toList t.data.toList = true) : keyOfJ (keyJ s t) = ((s, t), 0) := by
  have h1 : pickText (keyJ s t) pubN ⟨[], 0⟩ = (t, ⟨[pubN], 0⟩) := by unfold pickText; rw [if_neg (by simp), look_pub]; rfl
  have h2 : pickText (keyJ s t) schN ⟨[pubN], 0⟩ = (s, ⟨[schN, pubN], 0⟩) := by unfold pickText; rw [if_neg (by simp), look_sch]; rfl
  have h3 : pickDone (keyJ s t) ⟨[schN, pubN], 0⟩ = 0 := by
    unfold pickDone; rw [if_neg (by simp)]
    have : (keyJ s t).names = [pubN, schN] := rfl
    rw [this]; simp
  unfold keyOfJ
  rw [if_neg (by rw [keyJ_may h]; simp), if_neg (by show ¬ (5 : Int) ≠ 5; simp), h1]
  simp only
  rw [h2]
  simp only
  rw [h3, if_neg (by simp), if_pos h]
/-- An object of a public text alone. -/
def oneJ (t : ByteArray) : JV := .mk 5 0 { data := #[] } [pubN] [txtJ t]
theorem oneJ_may {t : ByteArray} (h2 : txtOk t = true) : (oneJ t).mayB = true := by
  obtain ⟨n1, n2, n3⟩ := names_ok
  unfold JV.mayB oneJ
  have hp : properB 5 0 { data := #[] } [pubN] 1 = true := by
    unfold properB
    rw [ByteArray.toList_eq]
    simp [n1, rises]
  have hm : JV.mays [txtJ t] (12 - 1) (8192 - 1) = (true, 8192 - 1 - 1) := by
    rw [JV.mays, txtJ_may t h2 _ _ (by omega), if_pos rfl, JV.mays]
  rw [JV.may, if_neg (by omega), show ([txtJ t] : List JV).length = 1 from rfl, hp, if_neg (by decide), if_neg (by decide), if_neg (by decide), hm]
theorem keyOf_oneJ {t : ByteArray} (h : txtOk t = true) : keyOfJ (oneJ t) = (({ data := #[] }, { data := #[] }), 6) := by
  have l1 : (oneJ t).look pubN = some (txtJ t) := by unfold JV.look oneJ JV.names JV.items; simp [lookL]
  have l2 : (oneJ t).look schN = none := by unfold JV.look oneJ JV.names JV.items; simp [lookL, pub_ne]
  have h1 : pickText (oneJ t) pubN ⟨[], 0⟩ = (t, ⟨[pubN], 0⟩) := by unfold pickText; rw [if_neg (by simp), l1]; rfl
  have h2 : pickText (oneJ t) schN ⟨[pubN], 0⟩ = ({ data := #[] }, ⟨[pubN], 6⟩) := by unfold pickText; rw [if_neg (by simp), l2]
  have h3 : pickDone (oneJ t) ⟨[pubN], 6⟩ = 6 := by unfold pickDone; rw [if_pos (by simp)]
  unfold keyOfJ
  rw [if_neg (by rw [oneJ_may h]; simp), if_neg (by show ¬ (5 : Int) ≠ 5; simp), h1]
  simp only
  rw [h2]
  simp only
  rw [h3, if_pos (by simp)]

def exS : ByteArray := { data := #[101, 100, 50, 53, 53, 49, 57] }
def exP : ByteArray := { data := #[48, 48, 102, 102] }
theorem ex_ok : keyOk exS.data.toList exP.data.toList = true := by decide
theorem ex_bad : keyOk exS.data.toList [48, 102, 48] = false := by decide
theorem ex_form : keyForm exS.data.toList exP.data.toList = [123, 34, 112, 117, 98, 108, 105, 99, 34, 58, 34, 48, 48, 102, 102, 34, 44, 34, 115, 99, 104, 101, 109, 101, 34, 58, 34, 101, 100, 50, 53, 53, 49, 57, 34, 125] := by decide

end Go.Proofs.YtcahpjejpimdhaaGreatDoor

namespace Go.Proofs.YtcahpjejpimdhaaGreatDoor
open Go.RowKit

theorem kept_blk {w w' : World} {p : Nat} {o : Obj} (hb : Below w.heap.size w w') (h : w.heap[p]? = some o) : w'.heap[p]? = some o := by rw [hb.block _ (heap_lt h)]; exact h
theorem old_blk {w : World} {p : Nat} {o x : Obj} (h : w.heap[p]? = some o) : (w.alloc x).heap[p]? = some o := by rw [Below.heap_alloc _ _ _ (heap_lt h)]; exact h
theorem kcells2 {W X : World} {b T : Nat} {c0 c1 : Value} (h : W.heap[b]? = some (.cells #[c0, c1] T (0, 0))) (hb : Below W.heap.size W X) : X.cell? ⟨b, 0, none⟩ = some c0 ∧ X.cell? ⟨b, 1, none⟩ = some c1 := by
  have := kept_blk hb h
  exact ⟨box_cell this rfl, box_cell this rfl⟩
theorem kcells5 {W X : World} {b T : Nat} {c0 c1 c2 c3 c4 : Value} (h : W.heap[b]? = some (.cells #[c0, c1, c2, c3, c4] T (0, 0))) (hb : Below W.heap.size W X) :
    X.cell? ⟨b, 0, none⟩ = some c0 ∧ X.cell? ⟨b, 1, none⟩ = some c1 ∧ X.cell? ⟨b, 2, none⟩ = some c2 ∧ X.cell? ⟨b, 3, none⟩ = some c3 ∧ X.cell? ⟨b, 4, none⟩ = some c4 := by
  have := kept_blk hb h
  exact ⟨box_cell this rfl, box_cell this rfl, box_cell this rfl, box_cell this rfl, box_cell this rfl⟩
theorem below_now {W X : World} {o : Obj} (hb : Below W.heap.size W X) : Below W.heap.size W (X.alloc o) := hb.alloc hb.size _

theorem hSN' {W X : World} {a : Option Addr} {l : List ByteArray} (h : StrsAt W 0 W.heap.size a l) (hb : Below W.heap.size W X) : StrsAt X 0 X.heap.size a l := h.below hb (Nat.le_refl _) (Nat.le_refl _) hb.size
/-- A value that lies in a row of one. -/
theorem vals_one {w : World} {hi g T : Nat} {v : JV} {c0 c1 c2 c3 c4 : Value} (h : w.heap[g]? = some (.cells #[c0, c1, c2, c3, c4] T (0, 0))) (hg : g < hi) (hR : Rep w 0 hi v (.agg #[c0, c1, c2, c3, c4])) : ValsAt w 0 hi (some ⟨g, 0, none⟩) [v] := by
  refine .inr ⟨g, 0, rfl, Nat.zero_le _, hg, ⟨_, _, _, h, fun _ => rfl⟩, ?_⟩
  unfold RepL RepL
  exact ⟨⟨c0, c1, c2, c3, c4, box_cell h rfl, box_cell h rfl, box_cell h rfl, box_cell h rfl, box_cell h rfl, by simp [World.frozen?, h], hR⟩, trivial⟩

end Go.Proofs.YtcahpjejpimdhaaGreatDoor

namespace Go.Proofs.YtcahpjejpimdhaaGreatDoor
open Go.RowKit

theorem grown_refl (w : World) (row : Option Nat) : w.grownBy w row := ⟨rfl, rfl, rfl, Nat.le_refl _, fun _ _ _ => rfl⟩
theorem run_append_zero {P : Program} {w : World} (base : Nat) (t ty e : TypeId) (i : TypeInfo) (size : Nat) (ht : P.underlying t = some (.slice e)) (hi : P.info? e = some i)
    (v : Value) (n : Nat) (xs : List Value) (hown : w.ownsRow base e size v n xs) (sa : Option Addr) (c : Nat) :
    (Builtin.append_ #[t, t] ty #[v, .slice sa 0 c]).run P w = .ok v w := by
  rcases hown.2 with ⟨rfl, rfl⟩ | ⟨g, cap, cur, rfl, _, _, hnc, _⟩
  · cases sa <;> simp [Builtin.append_, run_underlying ht, sizeOf, typeInfo, hi, Builtin.lenOf, Builtin.firstCells, loadCells, loadCellsFrom]
  · cases sa <;> simp [Builtin.append_, run_underlying ht, sizeOf, typeInfo, hi, Builtin.lenOf, Builtin.firstCells, hnc, storeCells, loadCells, loadCellsFrom]
theorem owns_slice {w : World} {base e size n : Nat} {v : Value} {xs : List Value} (h : w.ownsRow base e size v n xs) : ∃ a c, v = .slice a n c := by
  rcases h.2 with ⟨rfl, rfl⟩ | ⟨g, cap, cur, rfl, _⟩
  · exact ⟨none, 0, rfl⟩
  · exact ⟨_, _, rfl⟩

theorem wp_append_any {P : Program} {w : World} {o : Oper} {a : Act} {K : Act → World → Prop} {Q : Exit → Act → World → Prop} (s x : Operand) (t : TypeId)
    (ho : o.op = .call { callee := .builtin .append, args := #[s, x], argTypes := #[t, t] })
    (base : Nat) (e : TypeId) (i : TypeInfo) (z : Value) (size bytes : Nat) (ht : P.underlying t = some (.slice e)) (hi : P.info? e = some i) (hz : i.zero = some z)
    (hsize : i.size = size) (hby : i.bytes = bytes) (hzs : z.cells.size = size) (hsz : 0 < size)
    (v : Value) (n : Nat) (xs : List Value) (hs : a.eval s = v) (hown : w.ownsRow base e size v n xs)
    (sa : Option Addr) (m c : Nat) (news : List Value) (hx : a.eval x = .slice sa m c) (hl : news.length = m * size) (hnews : 0 < m → ∃ ad, sa = some ad ∧ ∀ j u, news[j]? = some u → w.cell? (ad.add j) = some u) (h1 : ∀ u ∈ news, u.oneCell' = true)
    (h63 : n + m ≤ maxLen) (hbytes : (n + m) * bytes ≤ 140737488355328) (hbase : base ≤ w.heap.size) (H : Nat) (hH : w.heap.size = H)
    (h : ∀ a2 c2 w', w'.ownsRow base e size (.slice a2 (n + m) c2) (n + m) (xs ++ news) → w.grownBy w' v.ownBlock → ((Value.slice a2 (n + m) c2).ownBlock = v.ownBlock ∨ (Value.slice a2 (n + m) c2).ownBlock = some H) → K (a.put o.dst (.slice a2 (n + m) c2)) w') : Oper.wp P o a w K Q := by
  by_cases hm : 0 < m
  · obtain ⟨ad, rfl, hn⟩ := hnews hm
    refine wp_append_lies w s x t ho base e i z size bytes ht hi hz hsize hby hzs hsz v n xs hs hown ad m c news hx hl hn h1 hm h63 hbytes hbase H hH fun g cap w' h2 h3 h4 _ => h _ _ _ h2 h3 ?_
    rcases h4 with h4 | h4
    · exact .inl h4.symm
    · exact .inr (by rw [h4]; rfl)
  · obtain rfl : m = 0 := by omega
    obtain rfl : news = [] := List.eq_nil_of_length_eq_zero (by simpa using hl)
    obtain ⟨a2, c2, rfl⟩ := owns_slice hown
    have hrun := run_append_zero (P := P) (w := w) base t o.type e i size ht hi _ n xs hown sa c
    unfold Oper.wp
    simp [execOp, ho, resolve, invoke, builtin, hs, hx, hrun, Result.andThen]
    exact h a2 c2 w (by simpa using hown) (grown_refl _ _) (.inl rfl)
theorem wpList_append_any {P : Program} (w : World) {ops : Array Oper} {rest : List Oper} {o : Oper} {a : Act} {Q : Exit → Act → World → Prop} (hgd : o.guard = none) (s x : Operand) (t : TypeId)
    (ho : o.op = .call { callee := .builtin .append, args := #[s, x], argTypes := #[t, t] })
    (base : Nat) (e : TypeId) (i : TypeInfo) (z : Value) (size bytes : Nat) (ht : P.underlying t = some (.slice e)) (hi : P.info? e = some i) (hz : i.zero = some z)
    (hsize : i.size = size) (hby : i.bytes = bytes) (hzs : z.cells.size = size) (hsz : 0 < size)
    (v : Value) (n : Nat) (xs : List Value) (hs : a.eval s = v) (hown : w.ownsRow base e size v n xs)
    (sa : Option Addr) (m c : Nat) (news : List Value) (hx : a.eval x = .slice sa m c) (hl : news.length = m * size) (hnews : 0 < m → ∃ ad, sa = some ad ∧ ∀ j u, news[j]? = some u → w.cell? (ad.add j) = some u) (h1 : ∀ u ∈ news, u.oneCell' = true)
    (h63 : n + m ≤ maxLen) (hbytes : (n + m) * bytes ≤ 140737488355328) (hbase : base ≤ w.heap.size) (H : Nat) (hH : w.heap.size = H)
    (h : ∀ a2 c2 w', w'.ownsRow base e size (.slice a2 (n + m) c2) (n + m) (xs ++ news) → w.grownBy w' v.ownBlock → ((Value.slice a2 (n + m) c2).ownBlock = v.ownBlock ∨ (Value.slice a2 (n + m) c2).ownBlock = some H) → wpList P ops Q rest (a.put o.dst (.slice a2 (n + m) c2)) w') : wpList P ops Q (o :: rest) a w :=
  wpList_plain hgd fun _ hK => wp_append_any s x t ho base e i z size bytes ht hi hz hsize hby hzs hsz v n xs hs hown sa m c news hx hl hnews h1 h63 hbytes hbase H hH fun a2 c2 w' h2 h3 h4 => hK _ _ (h a2 c2 w' h2 h3 h4)
theorem step_append_any {P : Program} (w : World) {ops : Array Oper} {o : Oper} {a : Act} {K : Act → World → Prop} {Q : Exit → Act → World → Prop} {E : Prop} (hgd : o.guard = none) (s x : Operand) (t : TypeId)
    (ho : o.op = .call { callee := .builtin .append, args := #[s, x], argTypes := #[t, t] })
    (base : Nat) (e : TypeId) (i : TypeInfo) (z : Value) (size bytes : Nat) (ht : P.underlying t = some (.slice e)) (hi : P.info? e = some i) (hz : i.zero = some z)
    (hsize : i.size = size) (hby : i.bytes = bytes) (hzs : z.cells.size = size) (hsz : 0 < size)
    (v : Value) (n : Nat) (xs : List Value) (hs : a.eval s = v) (hown : w.ownsRow base e size v n xs)
    (sa : Option Addr) (m c : Nat) (news : List Value) (hx : a.eval x = .slice sa m c) (hl : news.length = m * size) (hnews : 0 < m → ∃ ad, sa = some ad ∧ ∀ j u, news[j]? = some u → w.cell? (ad.add j) = some u) (h1 : ∀ u ∈ news, u.oneCell' = true)
    (h63 : n + m ≤ maxLen) (hbytes : (n + m) * bytes ≤ 140737488355328) (hbase : base ≤ w.heap.size) (H : Nat) (hH : w.heap.size = H)
    (h : ∀ a2 c2 w', w'.ownsRow base e size (.slice a2 (n + m) c2) (n + m) (xs ++ news) → w.grownBy w' v.ownBlock → ((Value.slice a2 (n + m) c2).ownBlock = v.ownBlock ∨ (Value.slice a2 (n + m) c2).ownBlock = some H) → K (a.put o.dst (.slice a2 (n + m) c2)) w') :
    if Region.wanted o (yielded ops a.tmps) = true then Oper.wp P o a w K Q else E := by
  have hw : Region.wanted o (yielded ops a.tmps) = true := by simp [Region.wanted, hgd]
  rw [if_pos hw]
  exact wp_append_any s x t ho base e i z size bytes ht hi hz hsize hby hzs hsz v n xs hs hown sa m c news hx hl hnews h1 h63 hbytes hbase H hH h

end Go.Proofs.YtcahpjejpimdhaaGreatDoor
