/- The contracts of legateref11's picker: Text, Done, Of. The contract of legateref11.Of. The contract of legateref14.Of. -/
import Derived.Test.YtcahpjejpimdhaaGreatDoorZb32
import Derived.Deep.QuietTactic
import Derived.BigQuiet
import Derived.Test.YtcahpjejpimdhaaGreatDoorZb15

namespace Go.Proofs.YtcahpjejpimdhaaGreatDoor
open Go.RowKit

def RTextPost (o base : Nat) (v : JV) (an ai : Option Addr) (cn ci : Nat) (y : ByteArray) (st : PS) (blk : Option Nat) (w : World) (e : Ending) (w' : World) : Prop :=
  ∃ blk', e = .returned (.string (pickText v y st).1) ∧ RefAt o base v an ai cn ci (pickText v y st).2 blk' w' ∧ (blk' = blk ∨ ∃ g, blk' = some g ∧ w.heap.size ≤ g) ∧ Touch (fun b => b = o ∨ blk = some b) w w'

set_option maxHeartbeats 400000 in
set_option maxRecDepth 100000 in
theorem refTextF (o base : Nat) (v : JV) (an ai : Option Addr) (cn ci : Nat) (y : ByteArray) (st : PS) (blk : Option Nat) (w : World) (hP : RefAt o base v an ai cn ci st blk w) (hv : v.wt ≤ 4294967296) (ha : st.asked.length ≤ 4294967290) :
    Calls Tryz.prog 57 #[.pointer (some ⟨o, 0, none⟩), .string y] w (RTextPost o base v an ai cn ci y st blk w) := by
  have HC := Lib.hid (refTake o base v an ai cn ci y 3 st blk w hP hv ha)
  have HT := Lib.hid (takeR_text v y st)
  clear hP
  go_enter Tryz.func57, Tryz.ntmps57
  go_wp2_with fail
  refine HC.out.mono ?_
  clear HC
  rintro e w1 ⟨blk', hcase, hR, hbk, hT⟩
  have HR := Lib.hid hR
  have HBK := Lib.hid hbk
  have HTO := Lib.hid hT
  clear hR hbk hT
  rcases hcase with ⟨h1, rfl⟩ | ⟨it, an', cn', ai', ci', h1, rfl, h2, h3⟩
  · have HX := Lib.hid (show pickText v y st = ({ data := #[] }, (takeR v y 3 st).2) by rw [HT.out, h1])
    clear h1
    unfold zeroAgg
    go_wp2
    go_ret
    unfold RTextPost
    rw [HX.out]
    exact ⟨blk', rfl, HR.out.below ((Below.refl _ _).alloc (Nat.le_refl _) _), HBK.out, HTO.out.alloc _⟩
  · have HX := Lib.hid (show pickText v y st = (it.t, (takeR v y 3 st).2) by rw [HT.out, h1])
    clear h1 h2 h3
    go_wp2
    go_ret
    unfold RTextPost
    rw [HX.out]
    exact ⟨blk', rfl, HR.out.below ((Below.refl _ _).alloc (Nat.le_refl _) _), HBK.out, HTO.out.alloc _⟩

theorem all_take2 {α : Type} (p : α → Bool) (l : List α) (k : Nat) (h : k < l.length) : (l.take (k + 1)).all p = ((l.take k).all p && p l[k]) := by
  rw [List.take_succ_eq_append_getElem h, List.all_append]; simp
theorem all_bad2 {α : Type} (p : α → Bool) (l : List α) (k : Nat) (h : k < l.length) (hp : p l[k] = false) : l.all p = false := by
  rw [List.all_eq_false]; exact ⟨l[k], List.getElem_mem h, by simp [hp]⟩
theorem any_take {α : Type} (p : α → Bool) (l : List α) (k : Nat) (h : k < l.length) : (l.take (k + 1)).any p = ((l.take k).any p || p l[k]) := by
  rw [List.take_succ_eq_append_getElem h, List.any_append]; simp

set_option maxHeartbeats 1000000 in
set_option maxRecDepth 100000 in
theorem refDoneF (o base : Nat) (v : JV) (an ai : Option Addr) (cn ci : Nat) (st : PS) (blk : Option Nat) (w : World) (hP : RefAt o base v an ai cn ci st blk w) (hv : v.wt ≤ 4294967296) (ha : st.asked.length ≤ 4294967290) :
    Calls Tryz.prog 58 #[.pointer (some ⟨o, 0, none⟩)] w fun e w' => e = .returned (.int .i64 (pickDone v st)) ∧ Below w.heap.size w w' := by
  have HP := Lib.hid hP
  obtain ⟨ask, L, hobj, hown, hblk, hL, hLl, hL6⟩ := hP.obj
  have hoz : o < w.heap.size := heap_lt hobj
  have c6 : w.cell? ⟨o, 6, none⟩ = some (.int .i64 st.err) := box_cell hobj rfl
  by_cases he : st.err = 0
  · have hLe := hL he
    have HD := Lib.hid (show pickDone v st = if v.names.all (fun n => st.asked.any fun a => decide (a = n)) then 0 else 11 by unfold pickDone; rw [if_neg (fun h => h he)])
    have HLA := Lib.hid (show ∀ n, st.asked.any (fun a => decide (a = n)) = L.any (fun a => decide (a = n)) from fun n => by rw [hLe, List.any_reverse])
    have hLb : L.length ≤ 4294967290 := by have := hL6 he; omega
    rw [he] at c6
    obtain ⟨b1, b2, b3, b4⟩ := v.wt_bd
    obtain ⟨an2, cn2, ai2, ci2, hx, _, _, h3, _⟩ := hP.rep.parts
    simp only [Value.agg.injEq, Array.mk.injEq, List.cons.injEq, Value.slice.injEq, true_and, and_true] at hx
    obtain ⟨⟨rfl, rfl⟩, rfl, rfl⟩ := hx
    have H3 := Lib.hid h3
    have HOB := Lib.hid hobj
    have HOW := Lib.hid hown
    have hbo : base ≤ w.heap.size := by have := hP.le; omega
    obtain ⟨aa, cap, hask, hca⟩ : ∃ aa cap, ask = .slice aa L.length cap ∧ ∀ w', Below w.heap.size w w' → ∀ k (h : k < L.length), ∃ g off, aa = some ⟨g, off, none⟩ ∧ w'.cell? ⟨g, off + k, none⟩ = some (.string L[k]) := by
      rcases hown.2 with ⟨h', hn⟩ | ⟨g, cap, cur, h', _⟩
      · have h0 : L = [] := by simpa using hn
        subst h0
        exact ⟨none, 0, h', fun _ _ k hk => by simp at hk⟩
      · refine ⟨some ⟨g, 0, none⟩, cap, h', fun w' hw' k hk => ⟨g, 0, rfl, ?_⟩⟩
        have ho := owns_below hown hw'
        rw [h'] at ho
        rw [Nat.zero_add, ho.cellAt k (by omega), List.getElem?_map, List.getElem?_eq_getElem hk]; rfl
    have HCA := Lib.hid hca
    subst hask
    clear hP hobj hown hblk hL hLl hL6 hLe h3 he hca
    go_enter Tryz.func58, Tryz.ntmps58
    go_wp2
    go_loopw [3, 4, 5] (fun i _ _ wr => ∃ k : Nat, k ≤ v.names.length ∧ i = .int .i64 k ∧ (v.names.take k).all (fun n => st.asked.any fun a => decide (a = n)) = true ∧ Below w.heap.size w wr) (fun i _ _ _ => v.names.length - (intOf i).toNat)
    case atStart => exact ⟨0, by omega, rfl, by simp, Below.refl _ _⟩
    case round =>
      obtain ⟨k, hk, rfl, hall, hbel⟩ := hrel
      have HAL := Lib.hid hall
      have HB := Lib.hid hbel
      have hobw : wr.heap[o]? = _ := (hbel.block o hoz).trans HOB.out
      have c3 : wr.cell? ⟨o, 3, none⟩ = some (.slice an v.names.length cn) := box_cell hobw rfl
      have c5 : wr.cell? ⟨o, 5, none⟩ = some (.slice aa L.length cap) := box_cell hobw rfl
      clear hall hbel hobw
      by_cases hlt : k < v.names.length
      · obtain ⟨b, off, hae, _, hb2, cn0⟩ := (H3.out.below HB.out hbo (Nat.le_refl _) (Nat.le_refl _)).at k hlt
        subst hae
        have HA2 := Lib.hid (all_take2 (fun n => st.asked.any fun a => decide (a = n)) v.names k hlt)
        have HA3 := Lib.hid (all_bad2 (fun n => st.asked.any fun a => decide (a = n)) v.names k hlt)
        rw [HLA.out] at HA2 HA3
        obtain ⟨nm, hnm⟩ : ∃ nm, nm = v.names[k] := ⟨_, rfl⟩
        rw [← hnm] at cn0 HA2 HA3
        clear hnm
        obtain ⟨wo, rfl⟩ : ∃ wo : World, wo = wr := ⟨_, rfl⟩
        go_wp2
        go_loopw [4, 5] (fun is j wr => ∃ q : Nat, q ≤ L.length ∧ j = .int .i64 q ∧ is = .bool ((L.take q).any fun a => decide (a = nm)) ∧ Below w.heap.size w wr) (fun _ j _ => L.length - (intOf j).toNat)
        case atStart => exact ⟨0, by omega, rfl, rfl, HB.out⟩
        case round =>
          obtain ⟨q, hq, rfl, rfl, hbel⟩ := hrel
          have HB2 := Lib.hid hbel
          have hobw : wr.heap[o]? = _ := (hbel.block o hoz).trans HOB.out
          have d3 : wr.cell? ⟨o, 3, none⟩ = some (.slice (some ⟨b, off, none⟩) v.names.length cn) := box_cell hobw rfl
          have d5 : wr.cell? ⟨o, 5, none⟩ = some (.slice aa L.length cap) := box_cell hobw rfl
          have dn : wr.cell? ⟨b, off + k, none⟩ = some (.string nm) := by
            have e1 : wo.cell? ⟨b, off + k, none⟩ = w.cell? ⟨b, off + k, none⟩ := HB.out.cell (show b < w.heap.size by omega)
            have e2 : wr.cell? ⟨b, off + k, none⟩ = w.cell? ⟨b, off + k, none⟩ := hbel.cell (show b < w.heap.size by omega)
            rw [e2, ← e1]; exact cn0
          clear hobw hbel
          have hki : (k : Int) < (v.names.length : Int) := by omega
          have hk0 : (0 : Int) ≤ (k : Int) := by omega
          by_cases hql : q < L.length
          · obtain ⟨g, off', hae, dq⟩ := HCA.out wr HB2.out q hql
            subst hae
            have HAN := Lib.hid (any_take (fun a => decide (a = nm)) L q hql)
            obtain ⟨isb, hisb⟩ : ∃ isb, isb = (L.take q).any (fun a => decide (a = nm)) := ⟨_, rfl⟩
            rw [← hisb] at HAN
            rw [← hisb]
            clear hisb
            obtain ⟨x, hx⟩ : ∃ x, x = L[q] := ⟨_, rfl⟩
            rw [← hx] at dq HAN
            clear hx
            have hqi : (q : Int) < (L.length : Int) := by omega
            have hq0 : (0 : Int) ≤ (q : Int) := by omega
            cases isb
            · by_cases hxn : x = nm
              · subst hxn
                rw [decide_eq_true rfl] at HAN
                go_wp2_with fail
                go_quiet (fail)
                go_wp2
                go_roundw
                case rel => exact ⟨q + 1, by omega, by go_num, by rw [HAN.out]; rfl, Below.drewN HB2.out _⟩
                case measure => simp [intOf]; omega
              · have hxn2 : (x.toList == nm.toList) = false := beq_eq_false_iff_ne.2 fun e => hxn (ba_ext2 e)
                rw [decide_eq_false hxn] at HAN
                clear hxn
                go_wp2_with fail
                go_quiet (fail)
                go_wp2
                go_roundw
                case rel => exact ⟨q + 1, by omega, by go_num, by rw [HAN.out]; rfl, Below.drewN HB2.out _⟩
                case measure => simp [intOf]; omega
            · rw [Bool.true_or] at HAN
              go_wp2_with fail
              go_quiet (fail)
              go_wp2
              go_roundw
              case rel => exact ⟨q + 1, by omega, by go_num, by rw [HAN.out], Below.drewN HB2.out _⟩
              case measure => simp [intOf]; omega
          · have hqe : L.take q = L := List.take_of_length_le (by omega)
            rw [hqe]
            clear hqe
            cases hany : L.any (fun a => decide (a = nm))
            · have HF := Lib.hid (show pickDone v st = 11 by rw [HD.out, HA3.out hany]; rfl)
              clear hany
              go_wp2
              go_ret
              exact ⟨ret_int HF.out.symm, HB2.out⟩
            · have HF := Lib.hid (show (v.names.take (k + 1)).all (fun n => st.asked.any fun a => decide (a = n)) = true by rw [HA2.out, HAL.out, hany]; rfl)
              clear hany
              go_wp2
              go_roundw
              case rel => exact ⟨k + 1, by omega, by go_num, HF.out, HB2.out⟩
              case measure => simp [intOf]; omega
      · have HF := Lib.hid (show pickDone v st = 0 by
          have h := HAL.out
          rw [List.take_of_length_le (by omega)] at h
          rw [HD.out, h]; rfl)
        go_wp2
        go_ret
        exact ⟨ret_int HF.out.symm, HB.out⟩
  · have HD := Lib.hid (show pickDone v st = st.err by unfold pickDone; rw [if_pos he])
    have he1 : (st.err == 0) = false := by simpa using he
    have he2 : (st.err != 0) = true := by simpa using he
    clear he hP hobj hown hblk hL hLl hL6
    go_enter Tryz.func58, Tryz.ntmps58
    go_wp2
    go_ret
    exact ⟨ret_int HD.out.symm, Below.refl _ _⟩

end Go.Proofs.YtcahpjejpimdhaaGreatDoor

namespace Go.Proofs.YtcahpjejpimdhaaGreatDoor
open Go.RowKit

def ROfPost (v : JV) (er : Int) (w : World) (e : Ending) (w' : World) : Prop :=
  ∃ o an ai cn ci, e = .returned (.pointer (some ⟨o, 0, none⟩)) ∧ RefAt o w.heap.size v an ai cn ci ⟨[], er⟩ none w' ∧ w.heap.size ≤ o ∧ Below w.heap.size w w'

theorem ref_made {v : JV} {w w' : World} {an ai : Option Addr} {cn ci o : Nat} {er : Int} (hobj : w'.heap[o]? = some (.cells #[.int .u8 v.kind, .int .i64 v.n, .string v.t, .slice an v.names.length cn, .slice ai v.items.length ci, .slice none 0 0, .int .i64 er] 122 (0, 0)))
    (hR : Rep w 0 w.heap.size v (.agg #[.int .u8 v.kind, .int .i64 v.n, .string v.t, .slice an v.names.length cn, .slice ai v.items.length ci])) (ho : w.heap.size ≤ o) (hb : Below w.heap.size w w') (hg : er = 0 → v.kind = 5) : RefAt o w.heap.size v an ai cn ci ⟨[], er⟩ none w' where
  obj := ⟨.slice none 0 0, [], hobj, ⟨rfl, .inl ⟨rfl, rfl⟩⟩, rfl, fun _ => rfl, by simp, fun _ => by simp⟩
  rep := hR.below hb (Nat.le_refl _) (Nat.le_refl _) (Nat.le_refl _)
  le := ho
  nb := by simp
  good := hg

set_option maxHeartbeats 400000 in
set_option maxRecDepth 100000 in
theorem refOf_bad (v : JV) (x : Value) (w : World) (hR : Rep w 0 w.heap.size v x) (hk : v.kind ≠ 5) : Calls Tryz.prog 56 #[x] w (ROfPost v 10 w) := by
  obtain ⟨an, cn, ai, ci, rfl, h1, h2, h3, h4⟩ := hR.parts
  have HR := Lib.hid hR
  have HK := Lib.hid hk
  have k1 : (v.kind == 5) = false := by simpa using hk
  have k2 : (v.kind != 5) = true := by simpa using hk
  clear h1 h2 h3 h4 hR hk
  go_enter Tryz.func56, Tryz.ntmps56
  go_wp2
  go_ret
  have hb : Below w.heap.size w ((w.alloc (.cells #[.int .u8 v.kind, .int .i64 v.n, .string v.t, .slice an v.names.length cn, .slice ai v.items.length ci] 29)).alloc (.cells #[.int .u8 v.kind, .int .i64 v.n, .string v.t, .slice an v.names.length cn, .slice ai v.items.length ci, .slice none 0 0, .int .i64 10] 122)) := ((Below.refl _ _).alloc (Nat.le_refl _) _).alloc (by simp) _
  refine ⟨w.heap.size + 1, an, ai, cn, ci, rfl, ref_made ?_ HR.out (by omega) hb (fun h => by cases h), by omega, hb⟩
  have := heap_alloc_new (w.alloc (.cells #[.int .u8 v.kind, .int .i64 v.n, .string v.t, .slice an v.names.length cn, .slice ai v.items.length ci] 29)) (.cells #[.int .u8 v.kind, .int .i64 v.n, .string v.t, .slice an v.names.length cn, .slice ai v.items.length ci, .slice none 0 0, .int .i64 10] 122)
  rwa [show (w.alloc (.cells #[.int .u8 v.kind, .int .i64 v.n, .string v.t, .slice an v.names.length cn, .slice ai v.items.length ci] 29)).heap.size = w.heap.size + 1 by simp] at this

set_option maxHeartbeats 400000 in
set_option maxRecDepth 100000 in
theorem refOf_good (v : JV) (x : Value) (w : World) (hN : v.wt ≤ 4294967296) (hR : Rep w 0 w.heap.size v x) (hk : v.kind = 5) (hr : rises v.names = true) (hl : v.names.length = v.items.length) : Calls Tryz.prog 56 #[x] w (ROfPost v 0 w) := by
  obtain ⟨an, cn, ai, ci, rfl, h1, h2, h3, h4⟩ := hR.parts
  obtain ⟨b1, b2, b3, b4⟩ := v.wt_bd
  have H3 := Lib.hid h3
  have HR := Lib.hid hR
  have HRS := Lib.hid hr
  have HK := Lib.hid hk
  rw [hl] at hR
  obtain ⟨nn, hnn⟩ : ∃ nn, nn = v.items.length := ⟨_, rfl⟩
  obtain ⟨W0, hW0⟩ : ∃ W0, W0 = (w.alloc (.cells #[.int .u8 v.kind, .int .i64 v.n, .string v.t, .slice an v.names.length cn, .slice ai v.items.length ci] 29)).alloc (.cells #[.int .u8 v.kind, .int .i64 v.n, .string v.t, .slice an v.names.length cn, .slice ai v.items.length ci, .slice none 0 0, .int .i64 0] 122) := ⟨_, rfl⟩
  have HBW0 := Lib.hid (show Below w.heap.size w W0 by rw [hW0]; exact ((Below.refl _ _).alloc (Nat.le_refl _) _).alloc (by simp) _)
  have HX0 := Lib.hid (show W0.heap[w.heap.size]? = some (.cells #[.int .u8 v.kind, .int .i64 v.n, .string v.t, .slice an v.names.length cn, .slice ai v.items.length ci] 29 (0, 0)) by rw [hW0, Below.heap_alloc _ _ _ (by simp)]; exact heap_alloc_new w _)
  have HO0 := Lib.hid (show W0.heap[w.heap.size + 1]? = some (.cells #[.int .u8 v.kind, .int .i64 v.n, .string v.t, .slice an v.names.length cn, .slice ai v.items.length ci, .slice none 0 0, .int .i64 0] 122 (0, 0)) by
    rw [hW0]
    have := heap_alloc_new (w.alloc (.cells #[.int .u8 v.kind, .int .i64 v.n, .string v.t, .slice an v.names.length cn, .slice ai v.items.length ci] 29)) (.cells #[.int .u8 v.kind, .int .i64 v.n, .string v.t, .slice an v.names.length cn, .slice ai v.items.length ci, .slice none 0 0, .int .i64 0] 122)
    rwa [show (w.alloc (.cells #[.int .u8 v.kind, .int .i64 v.n, .string v.t, .slice an v.names.length cn, .slice ai v.items.length ci] 29)).heap.size = w.heap.size + 1 by simp] at this)
  have hWz : w.heap.size + 2 ≤ W0.heap.size := by rw [hW0]; simp
  rw [hl, ← hnn, hk] at hW0 ⊢
  have HNN := Lib.hid hnn
  have HL := Lib.hid hl
  have HW0 := Lib.hid hW0
  rw [← hnn] at b3
  clear h1 h2 h3 h4 hR hr hk hnn hl hW0
  go_enter Tryz.func56, Tryz.ntmps56
  go_wp2_with fail
  rw [← HW0.out]
  go_loopw [4] (fun i wr => ∃ k : Nat, 1 ≤ k ∧ (k ≤ nn ∨ k = 1) ∧ i = .int .i64 k ∧ Below W0.heap.size W0 wr) (fun i _ => nn - (intOf i).toNat)
  case atStart => exact ⟨1, by omega, .inr rfl, rfl, Below.refl _ _⟩
  case round =>
    obtain ⟨k, hk1, hk2, rfl, hbel⟩ := hrel
    have hx1 : wr.heap[w.heap.size]? = some (.cells #[.int .u8 5, .int .i64 v.n, .string v.t, .slice an nn cn, .slice ai nn ci] 29 (0, 0)) := by
      rw [hbel.block _ (by omega)]
      have := HX0.out
      rw [HK.out, HL.out, ← HNN.out] at this
      exact this
    have HBW := Lib.hid (show Below w.heap.size w wr from HBW0.out.trans (hbel.mono (by omega)))
    have c3 : wr.cell? ⟨w.heap.size, 3, none⟩ = some (.slice an nn cn) := box_cell hx1 rfl
    have HB := Lib.hid hbel
    clear hx1 hbel
    by_cases hlt : k < nn
    · have hltn : k < v.names.length := by rw [HL.out, ← HNN.out]; exact hlt
      obtain ⟨b, off, hae, _, hb, y1⟩ := (H3.out.below HBW.out (Nat.le_refl _) (Nat.le_refl _) (Nat.le_refl _)).at k hltn
      obtain ⟨b', off', hbb, _, _, y0⟩ := (H3.out.below HBW.out (Nat.le_refl _) (Nat.le_refl _) (Nat.le_refl _)).at (k - 1) (by omega)
      subst hae
      obtain ⟨rfl, rfl⟩ : b = b' ∧ off = off' := by simpa using hbb
      clear hbb
      have hless := rises_lt HRS.out (k - 1) k (by omega) hltn (by omega)
      unfold bl at hless
      generalize v.names[k - 1] = na at hless y0
      generalize v.names[k] = nb at hless y1
      have i0 : IntKind.i64.wrap ((k : Int) - 1) = (k : Int) - 1 := IntWalk.i64_in _ (by omega)
      have j0 : 0 ≤ (k : Int) - 1 := by omega
      have j1 : 1 ≤ (k : Int) := by omega
      have j2 : (k : Int) - 1 < (nn : Int) := by omega
      have j3 : (k : Int) < (nn : Int) := by omega
      have t0 : ((k : Int) - 1).toNat = k - 1 := by omega
      go_wp2_with fail
      go_quiet (fail)
      go_wp2
      go_roundw
      case rel => exact ⟨k + 1, by omega, by omega, by go_num, Below.drewN HB.out _⟩
      case measure => simp [intOf]; omega
    · go_wp2
      go_ret
      exact ⟨w.heap.size + 1, an, ai, cn, ci, rfl, ref_made (by rw [HB.out.block _ (by omega)]; exact HO0.out) HR.out (by omega) HBW.out (fun _ => HK.out), by omega, HBW.out⟩

end Go.Proofs.YtcahpjejpimdhaaGreatDoor

namespace Go.Proofs.YtcahpjejpimdhaaGreatDoor
open Go.RowKit

theorem RefAt.other {o base p : Nat} {v : JV} {an ai : Option Addr} {cn ci : Nat} {st : PS} {blk : Option Nat} {w w' : World} (h : RefAt o base v an ai cn ci st blk w) (hk : ∀ k, k ≠ p → w'.heap[k]? = w.heap[k]?) (hp : p ≠ o) (hb : blk ≠ some p) (hbp : base ≤ p) : RefAt o base v an ai cn ci st blk w' where
  obj := by
    obtain ⟨ask, L, h1, h2, h3, h4, h5, h6⟩ := h.obj
    exact ⟨ask, L, by rw [hk o (Ne.symm hp)]; exact h1, owns_same h2 (fun g hg => hk g (fun e => hb (by rw [← h3, hg, e]))), h3, h4, h5, h6⟩
  rep := h.rep.carry (Nat.le_refl _) (Nat.le_refl _) fun b _ hlt => hk b (by omega)
  le := h.le
  nb := h.nb
  good := h.good

set_option maxHeartbeats 2000000 in
set_option maxRecDepth 100000 in
theorem ref14Of (v : JV) (x : Value) (w : World) (hN : v.wt ≤ 4294967296) (hR : Rep w 0 w.heap.size v x) :
    Calls Tryz.prog 24 #[x] w (KeyOfPost v w) := by
  obtain ⟨an, cn, ai, ci, hx, h1, h2, h3, h4⟩ := hR.parts
  have HR := Lib.hid hR
  clear h1 h2 h3 h4 hR
  subst hx
  have HB0 := Lib.hid (show Below w.heap.size w ((w.alloc (.cells #[.int .u8 v.kind, .int .i64 v.n, .string v.t, .slice an v.names.length cn, .slice ai v.items.length ci] 29)).alloc (.cells #[.string { data := #[] }, .string { data := #[] }] 23)) from ((Below.refl _ _).alloc (Nat.le_refl _) _).alloc (by simp) _)
  have HX0 := Lib.hid (show ((w.alloc (.cells #[.int .u8 v.kind, .int .i64 v.n, .string v.t, .slice an v.names.length cn, .slice ai v.items.length ci] 29)).alloc (.cells #[.string { data := #[] }, .string { data := #[] }] 23)).heap[w.heap.size]? = some (.cells #[.int .u8 v.kind, .int .i64 v.n, .string v.t, .slice an v.names.length cn, .slice ai v.items.length ci] 29 (0, 0)) by rw [Below.heap_alloc _ _ _ (by simp)]; exact heap_alloc_new w _)
  have hr0 := rowIs_box2 (w.alloc (.cells #[.int .u8 v.kind, .int .i64 v.n, .string v.t, .slice an v.names.length cn, .slice ai v.items.length ci] 29)) (.string { data := #[] }) (.string { data := #[] }) 23
  rw [show (w.alloc (.cells #[.int .u8 v.kind, .int .i64 v.n, .string v.t, .slice an v.names.length cn, .slice ai v.items.length ci] 29)).heap.size = w.heap.size + 1 by simp] at hr0
  have HR0 := Lib.hid hr0
  clear hr0
  have HM := Lib.hid (refMay v _ ((w.alloc (.cells #[.int .u8 v.kind, .int .i64 v.n, .string v.t, .slice an v.names.length cn, .slice ai v.items.length ci] 29)).alloc (.cells #[.string { data := #[] }, .string { data := #[] }] 23)) hN (HR.out.below HB0.out (Nat.le_refl _) (Nat.le_refl _) (by simp; omega)))
  cases hm : v.mayB
  · have HX := Lib.hid (show keyOfJ v = (({ data := #[] }, { data := #[] }), 3) by unfold keyOfJ; rw [if_pos hm])
    rw [hm] at HM
    clear hm
    go_enter Tryz.func24, Tryz.ntmps24
    go_wp2_with fail
    refine HM.out.mono ?_
    rintro e w1 ⟨rfl, hb1⟩
    have hres := below_row hb1 HR0.out (by simp)
    have HRS := Lib.hid hres
    have HB1 := Lib.hid (HB0.out.trans (hb1.mono (by simp; omega)))
    have t0 := hres.cell (i := 0) (by decide); have t1 := hres.cell (i := 1) (by decide)
    have s0 := hres.frozen 0; have s1 := hres.frozen 1
    simp only [pick2] at t0 t1
    clear hres hb1
    go_wp2
    refine bodyPost_ret (results_row_tmp Tryz.results24 _ _ (w.heap.size + 1) 23 _ (0, 0) _ rfl (row2_heap (set2 _ _ HRS.out)) Tryz.underlying23 rfl (by kernel_rfl) _ rfl) rfl ⟨?_, below2 _ _ HB1.out (by omega)⟩
    rw [HX.out]; rfl
  rw [hm] at HM
  have HMB := Lib.hid hm
  clear hm
  obtain ⟨er, her⟩ : ∃ er : Int, er = if v.kind = 5 then 0 else 10 := ⟨_, rfl⟩
  have HOFA := Lib.hid (show ∀ w' : World, Rep w' 0 w'.heap.size v (.agg #[.int .u8 v.kind, .int .i64 v.n, .string v.t, .slice an v.names.length cn, .slice ai v.items.length ci]) → Calls Tryz.prog 56 #[.agg #[.int .u8 v.kind, .int .i64 v.n, .string v.t, .slice an v.names.length cn, .slice ai v.items.length ci]] w' (ROfPost v er w') from fun w' h => by
    by_cases hk : v.kind = 5
    · obtain ⟨hri, hle, _⟩ := may_obj HMB.out hk
      rw [her, if_pos hk]; exact refOf_good v _ w' hN h hk hri hle
    · rw [her, if_neg hk]; exact refOf_bad v _ w' h hk)
  obtain ⟨st1, hst1⟩ : ∃ r, r = pickText v pubN ⟨[], er⟩ := ⟨_, rfl⟩
  obtain ⟨st2, hst2⟩ : ∃ r, r = pickText v schN st1.2 := ⟨_, rfl⟩
  obtain ⟨dn, hdn⟩ : ∃ r, r = pickDone v st2.2 := ⟨_, rfl⟩
  have HX := Lib.hid (show keyOfJ v = if dn ≠ 0 then (({ data := #[] }, { data := #[] }), dn) else if keyOk st2.1.data.toList st1.1.data.toList then ((st2.1, st1.1), 0) else (({ data := #[] }, { data := #[] }), 3) by
    unfold keyOfJ
    rw [if_neg (by rw [HMB.out]; simp)]
    by_cases hk : v.kind = 5
    · rw [if_pos hk] at her; subst her
      rw [if_neg (by simp [hk]), hdn, hst2, hst1]
    · rw [if_neg hk] at her; subst her
      have e1 : st1 = ({ data := #[] }, ⟨[], 10⟩) := by rw [hst1]; simp [pickText]
      have e2 : st2 = ({ data := #[] }, ⟨[], 10⟩) := by rw [hst2, e1]; simp [pickText]
      have e3 : dn = 10 := by rw [hdn, e2]; simp [pickDone]
      rw [if_pos hk, e3]; rfl)
  obtain ⟨z1, z2⟩ := text_size (y := pubN) (st := ⟨[], er⟩) hN
  obtain ⟨z3, z4⟩ := text_size (y := schN) (st := st1.2) hN
  rw [← hst1] at z1 z2
  rw [← hst2] at z3 z4
  simp only [List.length_nil] at z2
  have HST1 := Lib.hid hst1
  have HST2 := Lib.hid hst2
  have HDN := Lib.hid hdn
  clear hst1 hst2 hdn her
  go_enter Tryz.func24, Tryz.ntmps24
  go_wp2_with fail
  refine HM.out.mono ?_
  clear HM
  rintro e w1 ⟨rfl, hb1⟩
  have hz1 : w.heap.size + 2 ≤ w1.heap.size := by have := hb1.size; simp at this; omega
  have HB1 := Lib.hid (HB0.out.trans (hb1.mono (by simp; omega)))
  have HR1 := Lib.hid (below_row hb1 HR0.out (by simp))
  have hx1 : w1.heap[w.heap.size]? = some (.cells #[.int .u8 v.kind, .int .i64 v.n, .string v.t, .slice an v.names.length cn, .slice ai v.items.length ci] 29 (0, 0)) := by rw [hb1.block _ (by simp; omega)]; exact HX0.out
  have c0 : w1.cell? ⟨w.heap.size, 0, none⟩ = some (.int .u8 v.kind) := box_cell hx1 rfl
  have c1 : w1.cell? ⟨w.heap.size, 1, none⟩ = some (.int .i64 v.n) := box_cell hx1 rfl
  have c2 : w1.cell? ⟨w.heap.size, 2, none⟩ = some (.string v.t) := box_cell hx1 rfl
  have c3 : w1.cell? ⟨w.heap.size, 3, none⟩ = some (.slice an v.names.length cn) := box_cell hx1 rfl
  have c4 : w1.cell? ⟨w.heap.size, 4, none⟩ = some (.slice ai v.items.length ci) := box_cell hx1 rfl
  have HOF := Lib.hid (HOFA.out w1 (HR.out.below HB1.out (Nat.le_refl _) (Nat.le_refl _) (by omega)))
  clear hb1 hx1
  go_wp2_with fail
  refine HOF.out.mono ?_
  clear HOF HOFA c0 c1 c2 c3 c4 HR HX0 HB0 HR0
  rintro e w2 ⟨o, an2, ai2, cn2, ci2, rfl, hp2, ho2, hb2⟩
  have hz2 := hb2.size
  have hoz := hp2.lt
  have hP3 := hp2.below ((Below.refl _ _).alloc (Nat.le_refl _) (.cells #[.string { data := #[] }, .string { data := #[] }] 23))
  have HT1 := Lib.hid (refTextF o w1.heap.size v an2 ai2 cn2 ci2 pubN ⟨[], er⟩ none _ hP3 hN (by simp))
  have HR2 := Lib.hid ((below_row hb2 HR1.out (by omega)).alloc (.cells #[.string { data := #[] }, .string { data := #[] }] 23))
  have HK2 := Lib.hid (rowIs_box2 w2 (.string { data := #[] }) (.string { data := #[] }) 23)
  have HB2 := Lib.hid ((HB1.out.trans (hb2.mono (by omega))).alloc (by omega) (.cells #[.string { data := #[] }, .string { data := #[] }] 23))
  clear hp2 hb2 hP3 HR1 HB1
  go_wp2_with fail
  refine HT1.out.mono ?_
  clear HT1
  rintro e w3 ⟨blk1, rfl, hp3, hbk1, ht3⟩
  rw [← HST1.out] at hp3 ⊢
  have hz3 : w2.heap.size + 1 ≤ w3.heap.size := by have := ht3.size; simp at this; omega
  have hnb1 : ∀ q, q < w2.heap.size + 1 → blk1 ≠ some q := fun q hq e => by
    rcases hbk1 with h | ⟨g, h, hg⟩
    · rw [h] at e; cases e
    · rw [h] at e; simp at e hg; omega
  have hR3 := ht3.row HR2.out (by simp; omega)
  have hK3 := ht3.row HK2.out (by simp; omega)
  have HB3 := Lib.hid (HB2.out.trans (ht3.below (by simp; omega) fun k hk e => by simp at e; omega))
  have t1 := hK3.cell (i := 1) (by decide)
  have s1 := hK3.frozen 1
  simp only [pick2] at t1
  have HK3 := Lib.hid (show (w3.setCell ⟨w2.heap.size, 1, none⟩ (.string st1.1)).rowIs w2.heap.size 23 2 (pick2 (.string { data := #[] }) (.string st1.1)) from (hK3.set 1 (.string st1.1)).congr fun j hj => by rcases j with _ | _ | j <;> first | rfl | omega)
  have HR3 := Lib.hid (show (w3.setCell ⟨w2.heap.size, 1, none⟩ (.string st1.1)).rowIs (w.heap.size + 1) 23 2 (pick2 (.string { data := #[] }) (.string { data := #[] })) from hR3.of_block (Below.heap_setCell _ _ _ _ (by show w.heap.size + 1 ≠ w2.heap.size; omega)))
  have HP3 := Lib.hid (show RefAt o w1.heap.size v an2 ai2 cn2 ci2 st1.2 blk1 (w3.setCell ⟨w2.heap.size, 1, none⟩ (.string st1.1)) from hp3.other (p := w2.heap.size) (fun k hk => Below.heap_setCell _ _ _ _ hk) (by omega) (hnb1 _ (by omega)) (by omega))
  have HB3' := Lib.hid (show Below w.heap.size w (w3.setCell ⟨w2.heap.size, 1, none⟩ (.string st1.1)) from HB3.out.setCell (by show w.heap.size ≤ w2.heap.size; omega) _)
  have HN1 := Lib.hid hnb1
  clear hp3 hbk1 ht3 hnb1 hR3 hK3 HB3 HK2 HR2 HB2
  have HT2 := Lib.hid (refTextF o w1.heap.size v an2 ai2 cn2 ci2 schN st1.2 blk1 _ HP3.out hN (by omega))
  have hzs : (w3.setCell ⟨w2.heap.size, 1, none⟩ (.string st1.1)).heap.size = w3.heap.size := by simp [World.setCell]
  have HZS := Lib.hid hzs
  clear hzs
  go_wp2_with fail
  refine HT2.out.mono ?_
  clear HT2 t1 s1
  rintro e w4 ⟨blk2, rfl, hp4, hbk2, ht4⟩
  rw [← HST2.out] at hp4 ⊢
  have hz4 : w3.heap.size ≤ w4.heap.size := by have := ht4.size; rw [HZS.out] at this; exact this
  have hnb2 : ∀ q, q < w2.heap.size + 1 → blk2 ≠ some q := fun q hq e => by
    rcases hbk2 with h | ⟨g, h, hg⟩
    · exact HN1.out q hq (h ▸ e)
    · rw [h] at e; simp at e; rw [HZS.out] at hg; omega
  have hR4 := ht4.row HR3.out (fun h => by
    rcases h with h | h
    · omega
    · exact HN1.out _ (by omega) h)
  have hK4 := ht4.row HK3.out (fun h => by
    rcases h with h | h
    · omega
    · exact HN1.out _ (by omega) h)
  have HB4 := Lib.hid (show Below w.heap.size w w4 from HB3'.out.trans (ht4.below (by rw [HZS.out]; omega) fun k hk h => by
    rcases h with h | h
    · omega
    · exact HN1.out _ (by omega) h))
  have t0 := hK4.cell (i := 0) (by decide)
  have s0 := hK4.frozen 0
  simp only [pick2] at t0
  have HK4 := Lib.hid (show (w4.setCell ⟨w2.heap.size, 0, none⟩ (.string st2.1)).rowIs w2.heap.size 23 2 (pick2 (.string st2.1) (.string st1.1)) from (hK4.set 0 (.string st2.1)).congr fun j hj => by rcases j with _ | _ | j <;> first | rfl | omega)
  have HR4 := Lib.hid (show (w4.setCell ⟨w2.heap.size, 0, none⟩ (.string st2.1)).rowIs (w.heap.size + 1) 23 2 (pick2 (.string { data := #[] }) (.string { data := #[] })) from hR4.of_block (Below.heap_setCell _ _ _ _ (by show w.heap.size + 1 ≠ w2.heap.size; omega)))
  have HP4 := Lib.hid (show RefAt o w1.heap.size v an2 ai2 cn2 ci2 st2.2 blk2 (w4.setCell ⟨w2.heap.size, 0, none⟩ (.string st2.1)) from hp4.other (p := w2.heap.size) (fun k hk => Below.heap_setCell _ _ _ _ hk) (by omega) (hnb2 _ (by omega)) (by omega))
  have HB4' := Lib.hid (show Below w.heap.size w (w4.setCell ⟨w2.heap.size, 0, none⟩ (.string st2.1)) from HB4.out.setCell (by show w.heap.size ≤ w2.heap.size; omega) _)
  have HDO := Lib.hid (refDoneF o w1.heap.size v an2 ai2 cn2 ci2 st2.2 blk2 _ HP4.out hN (by omega))
  rw [← HDN.out] at HDO
  clear hp4 hbk2 ht4 hnb2 hR4 hK4 HB4 HK3 HR3 HP3 HB3' HN1
  go_wp2_with fail
  refine HDO.out.mono ?_
  clear HDO t0 s0
  rintro e w5 ⟨rfl, hb5⟩
  have hz5 : w4.heap.size ≤ w5.heap.size := by have := hb5.size; simpa [World.setCell] using this
  have HR5 := Lib.hid (below_row hb5 HR4.out (by simp [World.setCell]; omega))
  have HK5 := Lib.hid (below_row hb5 HK4.out (by simp [World.setCell]; omega))
  have HB5 := Lib.hid (HB4'.out.trans (hb5.mono HB4'.out.size))
  clear hb5 HR4 HK4 HB4' HP4
  have k0 := HK5.out.cell (i := 0) (by decide); have k1 := HK5.out.cell (i := 1) (by decide)
  have r0 := HR5.out.cell (i := 0) (by decide); have r1 := HR5.out.cell (i := 1) (by decide)
  have f0 := HR5.out.frozen 0; have f1 := HR5.out.frozen 1
  simp only [pick2] at k0 k1 r0 r1
  by_cases hd : dn = 0
  · rw [hd] at HX ⊢
    simp only [ne_eq, not_true_eq_false, if_false] at HX
    clear hd HDN
    have HKM := Lib.hid (ref14May st2.1 st1.1 w5 (by omega) (by omega))
    cases hko : keyOk st2.1.data.toList st1.1.data.toList
    · rw [hko] at HKM HX
      simp only [Bool.false_eq_true, if_false] at HX
      clear hko
      go_wp2_with fail
      refine HKM.out.mono ?_
      clear HKM k0 k1 r0 r1 f0 f1
      rintro e w6 ⟨rfl, hb6⟩
      have hz6 := hb6.size
      have HR6 := Lib.hid (below_row hb6 HR5.out (by omega))
      have HB6 := Lib.hid (HB5.out.trans (hb6.mono HB5.out.size))
      have r0 := HR6.out.cell (i := 0) (by decide); have r1 := HR6.out.cell (i := 1) (by decide)
      have f0 := HR6.out.frozen 0; have f1 := HR6.out.frozen 1
      simp only [pick2] at r0 r1
      clear hb6
      go_wp2
      exact bodyPost_ret (results_row_tmp Tryz.results24 _ _ (w.heap.size + 1) 23 #[.string { data := #[] }, .string { data := #[] }] (0, 0) _ rfl (row2_heap (set2 _ _ HR6.out)) Tryz.underlying23 rfl (by kernel_rfl) _ rfl) rfl ⟨by rw [HX.out] <;> rfl, below2 _ _ HB6.out (by omega)⟩
    · rw [hko] at HKM HX
      rw [if_pos rfl] at HX
      clear hko
      go_wp2_with fail
      refine HKM.out.mono ?_
      clear HKM k0 k1 r0 r1 f0 f1
      rintro e w6 ⟨rfl, hb6⟩
      have hz6 := hb6.size
      have HR6 := Lib.hid (below_row hb6 HR5.out (by omega))
      have HK6 := Lib.hid (below_row hb6 HK5.out (by omega))
      have HB6 := Lib.hid (HB5.out.trans (hb6.mono HB5.out.size))
      have k0 := HK6.out.cell (i := 0) (by decide); have k1 := HK6.out.cell (i := 1) (by decide)
      have r0 := HR6.out.cell (i := 0) (by decide); have r1 := HR6.out.cell (i := 1) (by decide)
      have f0 := HR6.out.frozen 0; have f1 := HR6.out.frozen 1
      simp only [pick2] at k0 k1 r0 r1
      have n1 : w2.heap.size ≠ w.heap.size + 1 := by omega
      clear hb6
      go_wp2
      exact bodyPost_ret (results_row_tmp Tryz.results24 _ _ (w.heap.size + 1) 23 #[.string st2.1, .string st1.1] (0, 0) _ rfl (row2_heap (set2 _ _ HR6.out)) Tryz.underlying23 rfl (by kernel_rfl) _ rfl) rfl ⟨by rw [HX.out] <;> rfl, below2 _ _ HB6.out (by omega)⟩
  · rw [if_pos hd] at HX
    have hd1 : (dn == 0) = false := by simpa using hd
    have hd2 : (dn != 0) = true := by simpa using hd
    clear hd HDN
    go_wp2
    exact bodyPost_ret (results_row_tmp Tryz.results24 _ _ (w.heap.size + 1) 23 #[.string { data := #[] }, .string { data := #[] }] (0, 0) _ rfl (row2_heap (set2 _ _ HR5.out)) Tryz.underlying23 rfl (by kernel_rfl) _ rfl) rfl ⟨by rw [HX.out] <;> rfl, below2 _ _ HB5.out (by omega)⟩

end Go.Proofs.YtcahpjejpimdhaaGreatDoor
