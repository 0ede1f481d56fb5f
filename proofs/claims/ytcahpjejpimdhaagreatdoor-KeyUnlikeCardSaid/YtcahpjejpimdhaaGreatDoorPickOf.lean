/- The contracts of pick.Of, of a picker's Done, and of Text and Done where the value is no object. -/
import Derived.Test.YtcahpjejpimdhaaGreatDoorPick
namespace Go.Proofs.YtcahpjejpimdhaaGreatDoor
open Go.RowKit Go.WideMaps Go.Maps

/-- A picker of no object. -/
def PickBad (o : Nat) (err : Int) (w : World) : Prop := err ≠ 0 ∧ w.cell? ⟨o, 6, none⟩ = some (.int .i64 err) ∧ ∃ k, w.cell? ⟨o, 0, none⟩ = some (.int .u8 k)
theorem PickBad.below {o : Nat} {err : Int} {w w' : World} (h : PickBad o err w) (hb : Below w.heap.size w w') (ho : o < w.heap.size) : PickBad o err w' := by
  obtain ⟨h1, h2, k, h3⟩ := h
  exact ⟨h1, by rw [hb.cell ho]; exact h2, k, by rw [hb.cell ho]; exact h3⟩

set_option maxHeartbeats 400000 in
theorem textBad (o : Nat) (err : Int) (y : ByteArray) (w : World) (h : PickBad o err w) :
    Calls Tryz.prog 53 #[.pointer (some ⟨o, 0, none⟩), .string y] w fun e w' => e = .returned (.string { data := #[] }) ∧ w = w' := by
  obtain ⟨he, c6, k, c0⟩ := h
  have HT := Lib.hid (show Calls Tryz.prog 86 #[.pointer (some ⟨o, 0, none⟩), .string y, .func (.func 87) #[] #[]] w (fun e w' => e = .returned (.string { data := #[] }) ∧ w = w') by
    have he' : (err == 0) = false := by simpa using he
    have he2 : (err != 0) = true := by simpa using he
    have HE := Lib.hid he
    clear he
    go_enter Tryz.func86, Tryz.ntmps86
    go_wp2_with fail
    refine (pickErr o err k w c6 c0 (fun h => absurd h HE.out)).mono ?_
    rintro r w' ⟨rfl, rfl⟩
    go_wp2
    go_ret
    exact ⟨rfl, rfl⟩)
  clear he c6 c0
  go_enter Tryz.func53, Tryz.ntmps53
  go_wp2_with fail
  refine HT.out.mono ?_
  rintro e w' ⟨rfl, rfl⟩
  go_wp2
  go_ret
  exact ⟨rfl, rfl⟩

set_option maxHeartbeats 400000 in
theorem doneErr (o : Nat) (err k : Int) (w : World) (he : err ≠ 0) (c6 : w.cell? ⟨o, 6, none⟩ = some (.int .i64 err)) (c0 : w.cell? ⟨o, 0, none⟩ = some (.int .u8 k)) :
    Calls Tryz.prog 54 #[.pointer (some ⟨o, 0, none⟩)] w fun e w' => e = .returned (.int .i64 err) ∧ w = w' := by
  have he' : (err == 0) = false := by simpa using he
  have he2 : (err != 0) = true := by simpa using he
  have HE := Lib.hid he
  clear he
  go_enter Tryz.func54, Tryz.ntmps54
  go_wp2_with fail
  refine (pickErr o err k w c6 c0 (fun h => absurd h HE.out)).mono ?_
  rintro r w' ⟨rfl, rfl⟩
  go_wp2
  go_ret
  exact ⟨rfl, rfl⟩

theorem all_take {α : Type} (p : α → Bool) (l : List α) (k : Nat) (h : k < l.length) (ha : (l.take k).all p = true) (hp : p l[k] = true) : (l.take (k + 1)).all p = true := by
  rw [List.take_succ_eq_append_getElem h, List.all_append, ha]; simp [hp]
theorem all_bad {α : Type} (p : α → Bool) (l : List α) (k : Nat) (h : k < l.length) (hp : p l[k] = false) : l.all p = false := by
  rw [List.all_eq_false]; exact ⟨l[k], List.getElem_mem h, by simp [hp]⟩

set_option maxHeartbeats 400000 in
set_option maxRecDepth 100000 in
theorem pickDoneF (o m lo hi : Nat) (v : JV) (an ai : Option Addr) (cn ci : Nat) (st : PS) (w : World) (hP : PickAt o m lo hi v an ai cn ci st w) (hn : ∀ i (h : i < v.names.length), v.names[i].size ≤ 4294967296) :
    Calls Tryz.prog 54 #[.pointer (some ⟨o, 0, none⟩)] w fun e w' => e = .returned (.int .i64 (pickDone v st)) ∧ w = w' := by
  have c6 : w.cell? ⟨o, 6, none⟩ = some (.int .i64 st.err) := box_cell hP.obj rfl
  have c0 : w.cell? ⟨o, 0, none⟩ = some (.int .u8 5) := (box_cell (j := 0) hP.obj rfl).trans (by rw [hP.kind]; rfl)
  by_cases he : st.err = 0
  · have c3 : w.cell? ⟨o, 3, none⟩ = some (.slice an v.names.length cn) := box_cell hP.obj rfl
    have c5 : w.cell? ⟨o, 5, none⟩ = some (.map (some m)) := box_cell hP.obj rfl
    rw [he] at c6
    have HX := Lib.hid (show pickDone v st = if v.names.all (fun n => st.asked.any fun a => decide (a = n)) then 0 else 11 by unfold pickDone; rw [if_neg (by simp [he])])
    have hnl := (v.wt_bd).2.1
    have hwt := hP.wt
    have HP := Lib.hid hP
    have HN := Lib.hid hn
    obtain ⟨nn, hnn⟩ : ∃ nn, nn = v.names.length := ⟨_, rfl⟩
    rw [← hnn] at c3 hnl
    have HNN := Lib.hid hnn
    clear hP he hn hnn
    go_enter Tryz.func54, Tryz.ntmps54
    go_wp2_with fail
    refine (pickErr o 0 5 w c6 c0 (fun _ => rfl)).mono ?_
    rintro r w' ⟨rfl, rfl⟩
    go_wp2
    clear c6 c0 c3
    go_loop [5, 17] (fun _ i => ∃ k : Nat, k ≤ nn ∧ i = .int .i64 k ∧ (v.names.take k).all (fun n => st.asked.any fun a => decide (a = n)) = true) (fun _ i => nn - (intOf i).toNat)
    case atStart => exact ⟨0, by omega, rfl, by simp⟩
    case round =>
      obtain ⟨k, hk, rfl, hall⟩ := hrel
      have HA := Lib.hid hall
      clear hall
      by_cases hlt : k < nn
      · have hlt' : k < v.names.length := by rw [← HNN.out]; exact hlt
        obtain ⟨_, _, _, h3, _⟩ : True ∧ True ∧ True ∧ StrsAt w lo hi an v.names ∧ True := by
          obtain ⟨an', cn', ai', ci', hx, _, _, h3, _⟩ := HP.out.rep.parts
          simp only [Value.agg.injEq, Array.mk.injEq, List.cons.injEq, and_true, Value.slice.injEq] at hx
          obtain ⟨_, _, _, ⟨rfl, _, _⟩, _⟩ := hx
          exact ⟨trivial, trivial, trivial, h3, trivial⟩
        obtain ⟨nb, noff, rfl, _, _, yn⟩ := h3.at k hlt'
        have hsz := HN.out k hlt'
        have HTK := Lib.hid (all_take (fun n => st.asked.any fun a => decide (a = n)) v.names k hlt' HA.out)
        have HTB := Lib.hid (all_bad (fun n => st.asked.any fun a => decide (a = n)) v.names k hlt')
        clear h3
        generalize v.names[k] = nk at *
        have hkey : keyOf Tryz.prog 9 (.string nk) = some (.string nk.data.toList) := keyOf_string_mk Tryz.underlying9 (by unfold maxLen; omega)
        obtain ⟨D, n, hown, hn, hD⟩ := HP.out.map
        obtain ⟨c, hat, hc0, hc1, hc2⟩ := hD.2 nk
        obtain ⟨c', hrun, hat', _⟩ := hown.lookup_int lawStr Tryz.underlying116 Tryz.underlying3 (zeroInt _) hkey
        rw [hat] at hat'
        simp only [DataW.lit.injEq, Lit.int.injEq, true_and] at hat'
        subst hat'
        clear hown hat hD hn hkey
        by_cases hc : c = 0
        · have hm := hc2.1 hc
          have HF := Lib.hid (HTB.out (by
            rw [List.any_eq_false]; intro a ha; simp only [decide_eq_true_eq]; intro e; subst e; exact hm ha))
          subst hc
          clear hc2 hm
          go_wp2
          go_ret
          exact ⟨by rw [HX.out, HF.out]; rfl, rfl⟩
        · have hm : nk ∈ st.asked := by
            by_cases h : nk ∈ st.asked
            · exact h
            · exact absurd (hc2.2 h) hc
          have HF := Lib.hid (HTK.out (by rw [List.any_eq_true]; exact ⟨nk, hm, by simp⟩))
          have hcb : (c == 0) = false := by simpa using hc
          clear hc2 hm hc
          go_wp2
          go_round
          case rel => exact ⟨k + 1, by omega, by go_num, HF.out⟩
          case measure => simp [intOf]; omega
      · have HF := Lib.hid (show v.names.all (fun n => st.asked.any fun a => decide (a = n)) = true by
          have := HA.out; rwa [List.take_of_length_le (by rw [← HNN.out]; omega)] at this)
        go_wp2
        go_ret
        exact ⟨by rw [HX.out, HF.out]; rfl, rfl⟩
  · have HX := Lib.hid (show pickDone v st = st.err by unfold pickDone; rw [if_pos he])
    refine (doneErr o st.err 5 w he c6 c0).mono ?_
    rintro e w' ⟨rfl, rfl⟩
    exact ⟨by rw [HX.out], rfl⟩

def OfBadPost (w : World) (e : Ending) (w' : World) : Prop := ∃ o, e = .returned (.pointer (some ⟨o, 0, none⟩)) ∧ w.heap.size ≤ o ∧ o < w'.heap.size ∧ PickBad o 10 w' ∧ Below w.heap.size w w'
set_option maxHeartbeats 400000 in
theorem pickOf_bad (k n : Int) (t : ByteArray) (a b : Value) (w : World) (hk : k ≠ 5) :
    Calls Tryz.prog 52 #[.agg #[.int .u8 k, .int .i64 n, .string t, a, b]] w (OfBadPost w) := by
  have hk' : (k == 5) = false := by simpa using hk
  have hk2 : (k != 5) = true := by simpa using hk
  clear hk
  go_enter Tryz.func52, Tryz.ntmps52
  go_wp2
  go_ret
  refine ⟨_, rfl, by omega, by simp, ⟨by decide, ?_, 0, ?_⟩, ((Below.refl _ _).alloc (Nat.le_refl _) _).alloc (by simp) _⟩
  · go_simp
  · go_simp

def OfPost (v : JV) (w : World) (e : Ending) (w' : World) : Prop := ∃ o m lo hi an ai cn ci, e = .returned (.pointer (some ⟨o, 0, none⟩)) ∧ PickAt o m lo hi v an ai cn ci ⟨[], 0⟩ w' ∧ w.heap.size ≤ o ∧ w.heap.size ≤ m ∧ Below w.heap.size w w'

set_option maxHeartbeats 400000 in
set_option maxRecDepth 100000 in
theorem pickOf_good (v : JV) (x : Value) (w : World) (lo hi : Nat) (hN : v.wt ≤ 4294967296) (hhi : hi ≤ w.heap.size) (hR : Rep w lo hi v x) (hk : v.kind = 5) (hr : rises v.names = true) (hl : v.names.length = v.items.length) (hS : ∀ k (h : k < v.items.length), Seen lo v.items[k]) :
    Calls Tryz.prog 52 #[x] w (OfPost v w) := by
  obtain ⟨an, cn, ai, ci, rfl, h1, h2, h3, h4⟩ := hR.parts
  obtain ⟨b1, b2, b3, b4⟩ := v.wt_bd
  rw [hl, hk]
  rw [hl, hk] at hR
  obtain ⟨nn, hnn⟩ : ∃ nn, nn = v.items.length := ⟨_, rfl⟩
  rw [← hnn] at hR b3 ⊢
  have HNN := Lib.hid hnn
  have H3 := Lib.hid h3
  have HR := Lib.hid hR
  have HRS := Lib.hid hr
  have HS := Lib.hid hS
  have HK := Lib.hid hk
  have HL := Lib.hid hl
  clear h1 h2 h3 h4 hR hr hS hk hnn hl
  have hmm := @run_makeMap Tryz.prog
  have HB0 := Lib.hid (show Below w.heap.size w (w.alloc (.cells #[.int .u8 5, .int .i64 v.n, .string v.t, .slice an nn cn, .slice ai nn ci] 29)) from (Below.refl _ _).alloc (Nat.le_refl _) _)
  have HX0 := Lib.hid (heap_alloc_new w (.cells #[.int .u8 5, .int .i64 v.n, .string v.t, .slice an nn cn, .slice ai nn ci] 29))
  go_enter Tryz.func52, Tryz.ntmps52
  go_wp2
  go_loopw [3] (fun i wr => ∃ k : Nat, 1 ≤ k ∧ (k ≤ nn ∨ k = 1) ∧ i = .int .i64 k ∧ Below (w.heap.size + 1) (w.alloc (.cells #[.int .u8 5, .int .i64 v.n, .string v.t, .slice an nn cn, .slice ai nn ci] 29)) wr) (fun i _ => nn - (intOf i).toNat)
  case atStart => exact ⟨1, by omega, .inr rfl, rfl, Below.refl _ _⟩
  case round =>
    obtain ⟨k, hk1, hk2, rfl, hbel⟩ := hrel
    have hz : w.heap.size + 1 ≤ wr.heap.size := by have := hbel.size; simpa using this
    have hx1 : wr.heap[w.heap.size]? = some (.cells #[.int .u8 5, .int .i64 v.n, .string v.t, .slice an nn cn, .slice ai nn ci] 29 (0, 0)) := by rw [hbel.block _ (by omega)]; exact HX0.out
    have HX1 := Lib.hid hx1
    have HBW := Lib.hid (show Below w.heap.size w wr from HB0.out.trans (hbel.mono (by omega)))
    have c3 : wr.cell? ⟨w.heap.size, 3, none⟩ = some (.slice an nn cn) := box_cell hx1 rfl
    have HB := Lib.hid hbel
    clear hx1 hbel
    by_cases hlt : k < nn
    · have hltn : k < v.names.length := by rw [HL.out, ← HNN.out]; exact hlt
      obtain ⟨b, off, rfl, _, hb, y1⟩ := (H3.out.below HBW.out hhi (Nat.le_refl _) (Nat.le_refl _)).at k hltn
      obtain ⟨b', off', hbb, _, _, y0⟩ := (H3.out.below HBW.out hhi (Nat.le_refl _) (Nat.le_refl _)).at (k - 1) (by omega)
      obtain ⟨rfl, rfl⟩ : b = b' ∧ off = off' := by simpa using hbb
      clear hbb
      have hless := rises_lt HRS.out (k - 1) k (by omega) hltn (by omega)
      unfold bl at hless
      generalize v.names[k - 1] = na at hless y0
      generalize v.names[k] = nb at hless y1
      have i0 : IntKind.i64.wrap ((k : Int) - 1) = (k : Int) - 1 := IntWalk.i64_in _ (by omega)
      have j0 : 0 ≤ (k : Int) - 1 := by omega
      have j1 : 1 ≤ (k : Int) := by omega
      have j2 : (k : Int) - 1 < (nn : Int) := by omega
      have j3 : (k : Int) < (nn : Int) := by omega
      have t0 : ((k : Int) - 1).toNat = k - 1 := by omega
      go_wp2_with fail
      go_quiet (fail)
      go_wp2
      go_roundw
      case rel => exact ⟨k + 1, by omega, by omega, by go_num, Below.drewN HB.out _⟩
      case measure => simp [intOf]; omega
    · have c0 : wr.cell? ⟨w.heap.size, 0, none⟩ = some (.int .u8 5) := box_cell HX1.out rfl
      have c1 : wr.cell? ⟨w.heap.size, 1, none⟩ = some (.int .i64 v.n) := box_cell HX1.out rfl
      have c2 : wr.cell? ⟨w.heap.size, 2, none⟩ = some (.string v.t) := box_cell HX1.out rfl
      have c4 : wr.cell? ⟨w.heap.size, 4, none⟩ = some (.slice ai nn ci) := box_cell HX1.out rfl
      have HC := Lib.hid (valueCopy v _ wr lo hi hN (by omega) (HR.out.below HBW.out hhi (Nat.le_refl _) (Nat.le_refl _)) HS.out)
      go_wp2_with fail
      refine HC.out.mono ?_
      clear HC c0 c1 c2 c3 c4
      rintro e w2 ⟨an2, cn2, ai2, ci2, rfl, hr2, hb2⟩
      have hz2 := hb2.size
      have HR2 := Lib.hid hr2
      have HB2 := Lib.hid (HBW.out.trans (hb2.mono (by omega)))
      clear hr2 hb2
      go_wp2
      go_ret
      refine ⟨w2.heap.size + 1, w2.heap.size, wr.heap.size, w2.heap.size, an2, ai2, cn2, ci2, rfl, ?_, by omega, by omega, (HB2.out.alloc (by omega) _).alloc (by simp; omega) _⟩
      have hbb : Below w2.heap.size w2 ((w2.alloc (.map #[] 0)).alloc (.cells #[.int .u8 v.kind, .int .i64 v.n, .string v.t, .slice an2 v.names.length cn2, .slice ai2 v.items.length ci2, .map (some w2.heap.size), .int .i64 0] 118)) := ((Below.refl _ _).alloc (Nat.le_refl _) _).alloc (by simp) _
      exact { obj := by
                have := heap_alloc_new (w2.alloc (.map #[] 0)) (.cells #[.int .u8 v.kind, .int .i64 v.n, .string v.t, .slice an2 v.names.length cn2, .slice ai2 v.items.length ci2, .map (some w2.heap.size), .int .i64 0] 118)
                rw [show (w2.alloc (.map #[] 0)).heap.size = w2.heap.size + 1 by simp] at this
                exact this
              map := ⟨_, 0, (World.ownsMap_made w2 _ _ _).alloc _, by omega, AskD.nil⟩
              rep := HR2.out.below hbb (Nat.le_refl _) (Nat.le_refl _) (Nat.le_refl _)
              pos := by omega
              out := ⟨by omega, by omega⟩
              le := hbb.size
              kind := HK.out
              rise := HRS.out
              len := HL.out
              wt := hN }

end Go.Proofs.YtcahpjejpimdhaaGreatDoor
