/- The contracts of legatelaw16.Long and legatelaw15.Long (of one authority): what is not long is few, and short. The contract of legatelaw17.long: what is not long is few, and short. -/
import Derived.Test.YtaekmmnpdbmoeaaGreatDoorJh30
import Derived.Test.YtaekmmnpdbmoeaaGreatDoorJh23
import Derived.Test.YtaekmmnpdbmoeaaGreatDoorJh28
import Derived.Test.YtaekmmnpdbmoeaaGreatDoorJh13

namespace Go.Proofs.YtaekmmnpdbmoeaaGreatDoor
open Go.RowKit

/-- A new row of one value, of four. -/
theorem vals_new1 {w : World} {u : JV} {a0 a1 a2 a3 a4 : Value} {T : Nat} (h : Rep w 0 w.heap.size u (.agg #[a0, a1, a2, a3, a4])) :
    ValsAt (w.alloc (.cells #[a0, a1, a2, a3, a4] T)) 0 (w.alloc (.cells #[a0, a1, a2, a3, a4] T)).heap.size (some ⟨w.heap.size, 0, none⟩) [u] := by
  have hi := heap_alloc_new w (.cells #[a0, a1, a2, a3, a4] T)
  have f : ∀ o, (w.alloc (.cells #[a0, a1, a2, a3, a4] T)).frozen? ⟨w.heap.size, o, none⟩ = false := fun o => by simp only [World.frozen?, hi]; simp
  have hu := h.below ((Below.refl _ _).alloc (Nat.le_refl _) (.cells #[a0, a1, a2, a3, a4] T)) (Nat.le_refl _) (Nat.le_refl _) (show w.heap.size ≤ (w.alloc (.cells #[a0, a1, a2, a3, a4] T)).heap.size by simp)
  refine .inr ⟨_, 0, rfl, Nat.zero_le _, by simp, ⟨_, T, (0, 0), hi, fun _ => rfl⟩, ?_⟩
  unfold RepL RepL
  exact ⟨⟨_, _, _, _, _, box_cell hi rfl, box_cell hi rfl, box_cell hi rfl, box_cell hi rfl, box_cell hi rfl, f _, hu⟩, trivial⟩
theorem vals_four {w : World} {u : JV} {a0 a1 a2 a3 a4 : Value} {b T : Nat} (hi : w.heap[b]? = some (.cells #[a0, a1, a2, a3, a4, a0, a1, a2, a3, a4, a0, a1, a2, a3, a4, a0, a1, a2, a3, a4] T (0, 0))) (hu : Rep w 0 w.heap.size u (.agg #[a0, a1, a2, a3, a4])) :
    ValsAt w 0 w.heap.size (some ⟨b, 0, none⟩) [u, u, u, u] := by
  have f : ∀ o, w.frozen? ⟨b, o, none⟩ = false := fun o => by simp [World.frozen?, hi]
  refine .inr ⟨_, 0, rfl, Nat.zero_le _, heap_lt hi, ⟨_, T, (0, 0), hi, fun _ => rfl⟩, ?_⟩
  unfold RepL RepL RepL RepL RepL
  exact ⟨⟨_, _, _, _, _, box_cell hi rfl, box_cell hi rfl, box_cell hi rfl, box_cell hi rfl, box_cell hi rfl, f _, hu⟩, ⟨_, _, _, _, _, box_cell hi rfl, box_cell hi rfl, box_cell hi rfl, box_cell hi rfl, box_cell hi rfl, f _, hu⟩, ⟨_, _, _, _, _, box_cell hi rfl, box_cell hi rfl, box_cell hi rfl, box_cell hi rfl, box_cell hi rfl, f _, hu⟩, ⟨_, _, _, _, _, box_cell hi rfl, box_cell hi rfl, box_cell hi rfl, box_cell hi rfl, box_cell hi rfl, f _, hu⟩, trivial⟩

def LongEPost (u : JV) (l : List Sig2) (w : World) (e : Ending) (w' : World) : Prop := ∃ b : Bool, e = .returned (.bool b) ∧ (b = false → l.length ≤ 40 ∧ (∀ s ∈ l, s.1.size ≤ 300 ∧ s.2.size ≤ 300) ∧ u.wt ≤ 20000) ∧ Below w.heap.size w w'

set_option maxHeartbeats 1000000 in
set_option maxRecDepth 100000 in
theorem lawLong16 (u : JV) (l : List Sig2) (an ai sa : Option Addr) (cn ci sc : Nat) (w : World) (hR : Rep w 0 w.heap.size u (.agg #[.int .u8 u.kind, .int .i64 u.n, .string u.t, .slice an u.names.length cn, .slice ai u.items.length ci])) (hK : KeysAt w 0 w.heap.size sa l) (hl : l.length ≤ 9223372036854775807) :
    Calls Tryz.prog 48 #[envV u an ai cn ci sa l.length sc] w (LongEPost u l w) := by
  unfold envV
  obtain ⟨W, hW⟩ : ∃ W, W = w.alloc (.cells #[.int .u8 u.kind, .int .i64 u.n, .string u.t, .slice an u.names.length cn, .slice ai u.items.length ci, .slice sa l.length sc] 47) := ⟨_, rfl⟩
  have HBW := Lib.hid (show Below w.heap.size w W by rw [hW]; exact (Below.refl _ _).alloc (Nat.le_refl _) _)
  have hz : W.heap.size = w.heap.size + 1 := by rw [hW]; simp
  have hx : W.heap[w.heap.size]? = some (.cells #[.int .u8 u.kind, .int .i64 u.n, .string u.t, .slice an u.names.length cn, .slice ai u.items.length ci, .slice sa l.length sc] 47 (0, 0)) := by rw [hW]; exact heap_alloc_new w _
  have HS := Lib.hid (show ∀ w' : World, Below W.heap.size W w' → w'.cell? ⟨w.heap.size, 0, none⟩ = some (.int .u8 u.kind) ∧ w'.cell? ⟨w.heap.size, 1, none⟩ = some (.int .i64 u.n) ∧ w'.cell? ⟨w.heap.size, 2, none⟩ = some (.string u.t) ∧ w'.cell? ⟨w.heap.size, 3, none⟩ = some (.slice an u.names.length cn) ∧ w'.cell? ⟨w.heap.size, 4, none⟩ = some (.slice ai u.items.length ci) ∧ w'.cell? ⟨w.heap.size, 5, none⟩ = some (.slice sa l.length sc) from fun w' h => by
    have y0 := (h.block _ (heap_lt hx)).trans hx
    exact ⟨box_cell y0 rfl, box_cell y0 rfl, box_cell y0 rfl, box_cell y0 rfl, box_cell y0 rfl, box_cell y0 rfl⟩)
  have HLL := Lib.hid (lawLong [u] _ 1 _ (vals_new1 (T := 44) (hR.below HBW.out (Nat.le_refl _) (Nat.le_refl _) HBW.out.size)))
  rw [hz] at HLL
  have HK := Lib.hid (hK.below HBW.out (Nat.le_refl _) (Nat.le_refl _) HBW.out.size)
  have HW := Lib.hid hW
  have HZ := Lib.hid hz
  clear hW hx hR hK hz
  obtain ⟨q0, q1, q2, q3, q4, q5⟩ := HS.out W (Below.refl _ _)
  by_cases h40 : l.length ≤ 40
  case neg =>
    have h40' : decide (40 < l.length) = true := by simp; omega
    go_enter Tryz.func48, Tryz.ntmps48
    go_wp2_with fail
    try rw [← HW.out]
    go_wp2
    go_ret
    exact ⟨true, rfl, (fun h => by cases h), by first | exact HBW.out | (rw [← HW.out]; exact HBW.out)⟩
  have h40' : decide (40 < l.length) = false := by simp; omega
  go_enter Tryz.func48, Tryz.ntmps48
  go_wp2_with fail
  rw [← HW.out]
  refine HLL.out.mono ?_
  clear HLL q0 q1 q2 q3 q4 q5
  rintro e w2 ⟨b, rfl, hb, hw2⟩
  have HB2 := Lib.hid (show Below W.heap.size W w2 by rw [← hw2]; exact (Below.refl _ _).alloc (Nat.le_refl _) _)
  clear hw2
  cases b
  case true =>
    clear hb
    go_wp2
    go_ret
    exact ⟨true, rfl, (fun h => by cases h), HBW.out.trans (HB2.out.mono HBW.out.size)⟩
  have hwt := hb rfl
  clear hb
  have HWT := Lib.hid (show u.wt ≤ 20000 by have : JV.wts [u] = u.wt := by simp [JV.wts]
                                            omega)
  clear hwt
  go_wp2_with fail
  go_loopw [3] (fun i wr => ∃ k : Nat, k ≤ l.length ∧ i = .int .i64 k ∧ (∀ j (h : j < l.length), j < k → l[j].1.size ≤ 300 ∧ l[j].2.size ≤ 300) ∧ Below W.heap.size W wr) (fun i _ => l.length - (intOf i).toNat)
  case atStart => exact ⟨0, by omega, rfl, fun j _ h => by omega, HB2.out⟩
  case round =>
    obtain ⟨k, hk, rfl, hal, hbel⟩ := hrel
    have HAL := Lib.hid hal
    have HB := Lib.hid hbel
    have HBZ := Lib.hid (HBW.out.trans (hbel.mono HBW.out.size))
    clear hal
    obtain ⟨q0, q1, q2, q3, q4, q5⟩ := HS.out wr hbel
    clear q0 q1 q2 q3 q4
    by_cases hlt : k < l.length
    · obtain ⟨b, off, ha, _, hb, e0, e1⟩ := (HK.out.below hbel (Nat.le_refl _) (Nat.le_refl _) hbel.size).at k hlt
      subst ha
      clear hbel
      obtain ⟨s0, hs0⟩ : ∃ s0, s0 = l[k].1 := ⟨_, rfl⟩
      obtain ⟨s1, hs1⟩ : ∃ s1, s1 = l[k].2 := ⟨_, rfl⟩
      rw [← hs0] at e0
      rw [← hs1] at e1
      have HS1 := Lib.hid (And.intro hs0 hs1)
      clear hs0 hs1
      by_cases g0 : s0.size ≤ 300
      · have g0' : decide (300 < s0.size) = false := by simp; omega
        by_cases g1 : s1.size ≤ 300
        · have g1' : decide (300 < s1.size) = false := by simp; omega
          go_wp2
          go_roundw
          case rel =>
            refine ⟨k + 1, by omega, by go_num, fun j hj hjk => ?_, HB.out⟩
            by_cases e : j = k
            · subst e; exact ⟨HS1.out.1 ▸ g0, HS1.out.2 ▸ g1⟩
            · exact HAL.out j hj (by omega)
          case measure => simp [intOf]; omega
        · have g1' : decide (300 < s1.size) = true := by simp; omega
          go_wp2
          go_ret
          exact ⟨true, rfl, (fun h => by cases h), HBZ.out⟩
      · have g0' : decide (300 < s0.size) = true := by simp; omega
        go_wp2
        go_ret
        exact ⟨true, rfl, (fun h => by cases h), HBZ.out⟩
    · clear hbel
      go_wp2
      go_ret
      refine ⟨false, rfl, fun _ => ⟨h40, fun x hx => ?_, HWT.out⟩, HBZ.out⟩
      obtain ⟨j, hj, rfl⟩ := List.getElem_of_mem hx
      exact HAL.out j hj (by omega)

def LongAPost (ids : List ByteArray) (w : World) (e : Ending) (w' : World) : Prop := ∃ b : Bool, e = .returned (.bool b) ∧ (b = false → ids.length ≤ 500 ∧ ∀ s ∈ ids, s.size ≤ 5000) ∧ w = w'
def AuthRel (ids : List ByteArray) (n j : Value) : Prop :=
  ∃ (q : Nat) (r : Int), q ≤ ids.length ∧ j = .int .i64 q ∧ n = .int .i64 r ∧ 0 ≤ r ∧ r ≤ 20000 ∧ 10 * (q : Int) ≤ r ∧ (r < 5000 → ∀ x (h : x < ids.length), x < q → ids[x].size ≤ 5000)
def AuthEnd (ids : List ByteArray) (n i : Value) : Prop :=
  (i = .int .i64 0 ∧ n = .int .i64 0) ∨ (i = .int .i64 1 ∧ ∃ r : Int, n = .int .i64 r ∧ 0 ≤ r ∧ r ≤ 20000 ∧ (r < 5000 → ids.length ≤ 500 ∧ ∀ s ∈ ids, s.size ≤ 5000))

set_option maxHeartbeats 1000000 in
set_option maxRecDepth 100000 in
theorem lawLong15 (t : Int) (ids : List ByteArray) (ia : Option Addr) (ic g : Nat) (w : World) (hg : w.heap[g]? = some (.cells #[.int .i64 t, .slice ia ids.length ic] 49 (0, 0))) (hS : StrsAt w 0 w.heap.size ia ids) (hl : ids.length ≤ 9223372036854775807) :
    Calls Tryz.prog 38 #[.slice (some ⟨g, 0, none⟩) 1 1] w (LongAPost ids w) := by
  have c0 : w.cell? ⟨g, 1, none⟩ = some (.slice ia ids.length ic) := box_cell hg rfl
  have HS := Lib.hid hS
  clear hS hg
  go_enter Tryz.func38, Tryz.ntmps38
  go_wp2_with fail
  go_loop [3, 4, 5] (fun n i _ => AuthEnd ids n i) (fun _ i _ => 1 - (intOf i).toNat)
  case atStart => exact .inl ⟨rfl, rfl⟩
  case round =>
    rcases hrel with ⟨rfl, rfl⟩ | ⟨rfl, r, rfl, hr0, hr1, hr2⟩
    · go_wp2_with fail
      go_loop [3, 5] (fun n j => AuthRel ids n j) (fun _ j => ids.length - (intOf j).toNat)
      case atStart => exact ⟨0, 0, Nat.zero_le _, rfl, rfl, by omega, by omega, by omega, fun _ x _ h => by omega⟩
      case round =>
        obtain ⟨q, r, hq, rfl, rfl, hr0, hr1, hq10, hr2⟩ := hrel
        have HR := Lib.hid hr2
        clear hr2
        by_cases hgo : q < ids.length ∧ r < 5000
        · obtain ⟨hlt, hn⟩ := hgo
          obtain ⟨b2, off2, ha2, _, _, e5⟩ := HS.out.at q hlt
          subst ha2
          obtain ⟨nm, hnm⟩ : ∃ nm, nm = ids[q] := ⟨_, rfl⟩
          have HNM := Lib.hid hnm
          rw [← hnm] at e5
          clear hnm
          obtain ⟨mn, hmn⟩ : ∃ mn : Int, (if (nm.size : Int) < 5000 then (nm.size : Int) else 5000) = mn := ⟨_, rfl⟩
          have mn0 : 0 ≤ mn := by rw [← hmn]; split <;> omega
          have mn1 : mn ≤ 5000 := by rw [← hmn]; split <;> omega
          have HMN := Lib.hid (show mn < 5000 → nm.size ≤ 5000 by rw [← hmn]; split <;> omega)
          have hq3 : (q : Int) < 5000 := by omega
          go_wp2
          go_round
          case rel =>
            refine ⟨q + 1, _, by omega, by go_num, rfl, by omega, by omega, by push_cast; omega, fun h x hx hxq => ?_⟩
            by_cases e : x = q
            · subst e; rw [← HNM.out]; exact HMN.out (by omega)
            · exact HR.out hn x hx (by omega)
          case measure => simp [intOf]; omega
        · have HX := Lib.hid (show r < 5000 → ids.length ≤ 500 ∧ ∀ s ∈ ids, s.size ≤ 5000 from fun h => by
            have hql : q = ids.length := by omega
            refine ⟨by omega, fun s hs => ?_⟩
            obtain ⟨j, hj, rfl⟩ := List.getElem_of_mem hs
            exact HR.out h j hj (by omega))
          clear HR
          have hdone : ∃ t : Bool, decide (q < ids.length) = t ∧ (t = true → decide (r < 5000) = false) := ⟨_, rfl, fun h => decide_eq_false fun h2 => hgo ⟨of_decide_eq_true h, h2⟩⟩
          obtain ⟨t', ht, ht2⟩ := hdone
          clear hgo
          cases t'
          all_goals
            (try have hq2 := ht2 rfl)
            clear ht2
            go_wp2
            go_round
            case rel => exact .inr ⟨by go_num, r, rfl, hr0, hr1, HX.out⟩
            case measure => simp [intOf]
    · have HX := Lib.hid hr2
      clear hr2
      go_wp2
      go_ret
      exact ⟨_, rfl, fun h => HX.out (by simpa using h), rfl⟩

end Go.Proofs.YtaekmmnpdbmoeaaGreatDoor

namespace Go.Proofs.YtaekmmnpdbmoeaaGreatDoor
open Go.RowKit

structure NotLong (u : JV) (l : List Sig2) (ids : List ByteArray) (keys : List Key2) : Prop where
  len : l.length ≤ 40
  sizes : ∀ s ∈ l, s.1.size ≤ 300 ∧ s.2.size ≤ 300
  wt : u.wt ≤ 20000
  idlen : ids.length ≤ 500
  idsizes : ∀ s ∈ ids, s.size ≤ 5000
  keylen : keys.length ≤ 40
  keysizes : ∀ k ∈ keys, k.1.size ≤ 300 ∧ k.2.size ≤ 300
/-- What comes in: an envelope, an authority, keys. -/
structure JudgeIn (w : World) (u : JV) (l : List Sig2) (an ai sa : Option Addr) (cn ci : Nat) (ids : List ByteArray) (ia : Option Addr) (keys : List Key2) (ka : Option Addr) : Prop where
  rep : Rep w 0 w.heap.size u (.agg #[.int .u8 u.kind, .int .i64 u.n, .string u.t, .slice an u.names.length cn, .slice ai u.items.length ci])
  sigs : KeysAt w 0 w.heap.size sa l
  strs : StrsAt w 0 w.heap.size ia ids
  rows : KeysAt w 0 w.heap.size ka keys
  lsig : l.length ≤ 9223372036854775807
  lids : ids.length ≤ 9223372036854775807
  lkeys : keys.length ≤ 9223372036854775807
theorem JudgeIn.below {w w' : World} {u : JV} {l : List Sig2} {an ai sa : Option Addr} {cn ci : Nat} {ids : List ByteArray} {ia : Option Addr} {keys : List Key2} {ka : Option Addr} (h : JudgeIn w u l an ai sa cn ci ids ia keys ka) (hb : Below w.heap.size w w') : JudgeIn w' u l an ai sa cn ci ids ia keys ka :=
  ⟨h.rep.below hb (Nat.le_refl _) (Nat.le_refl _) hb.size, h.sigs.below hb (Nat.le_refl _) (Nat.le_refl _) hb.size, h.strs.below hb (Nat.le_refl _) (Nat.le_refl _) hb.size, h.rows.below hb (Nat.le_refl _) (Nat.le_refl _) hb.size, h.lsig, h.lids, h.lkeys⟩
theorem NotLong.env {w : World} {u : JV} {l : List Sig2} {an ai sa : Option Addr} {cn ci : Nat} {ids : List ByteArray} {ia : Option Addr} {keys : List Key2} {ka : Option Addr} (n : NotLong u l ids keys) (h : JudgeIn w u l an ai sa cn ci ids ia keys ka) : EnvAt w u l an ai sa cn ci :=
  ⟨h.rep, h.sigs, by have := n.wt; omega, fun s hs => by have := n.sizes s hs; omega, h.lsig⟩
theorem NotLong.auth {w : World} {u : JV} {l : List Sig2} {an ai sa : Option Addr} {cn ci : Nat} {ids : List ByteArray} {ia : Option Addr} {keys : List Key2} {ka : Option Addr} (n : NotLong u l ids keys) (h : JudgeIn w u l an ai sa cn ci ids ia keys ka) : AuthAt w ids ia :=
  ⟨h.strs, fun s hs => by have := n.idsizes s hs; omega, h.lids⟩
theorem NotLong.row {w : World} {u : JV} {l : List Sig2} {an ai sa : Option Addr} {cn ci : Nat} {ids : List ByteArray} {ia : Option Addr} {keys : List Key2} {ka : Option Addr} (n : NotLong u l ids keys) (h : JudgeIn w u l an ai sa cn ci ids ia keys ka) : KeyRow w keys ka :=
  ⟨h.rows, by have := n.keylen; omega, n.keysizes⟩

def LongPost17 (u : JV) (l : List Sig2) (ids : List ByteArray) (keys : List Key2) (w : World) (e : Ending) (w' : World) : Prop := ∃ b : Bool, e = .returned (.bool b) ∧ (b = false → NotLong u l ids keys) ∧ Below w.heap.size w w'

set_option maxHeartbeats 1000000 in
set_option maxRecDepth 100000 in
theorem lawLong17 (u : JV) (l : List Sig2) (an ai sa : Option Addr) (cn ci sc : Nat) (t : Int) (ids : List ByteArray) (ia : Option Addr) (ic : Nat) (keys : List Key2) (ka : Option Addr) (kc : Nat) (w : World) (hI : JudgeIn w u l an ai sa cn ci ids ia keys ka) :
    Calls Tryz.prog 20 #[envV u an ai cn ci sa l.length sc, .agg #[.int .i64 t, .slice ia ids.length ic], .slice ka keys.length kc] w (LongPost17 u l ids keys w) := by
  obtain ⟨W, hW⟩ : ∃ W, W = (w.alloc (.cells #[.int .u8 u.kind, .int .i64 u.n, .string u.t, .slice an u.names.length cn, .slice ai u.items.length ci, .slice sa l.length sc] 47)).alloc (.cells #[.int .i64 t, .slice ia ids.length ic] 49) := ⟨_, rfl⟩
  have HBW := Lib.hid (show Below w.heap.size w W by rw [hW]; exact below_n2 w _ _)
  have hx0 : W.heap[w.heap.size]? = some (.cells #[.int .u8 u.kind, .int .i64 u.n, .string u.t, .slice an u.names.length cn, .slice ai u.items.length ci, .slice sa l.length sc] 47 (0, 0)) := by
    rw [hW, Below.heap_alloc _ _ _ (by simp)]; exact heap_alloc_new w _
  have hx1 : W.heap[w.heap.size + 1]? = some (.cells #[.int .i64 t, .slice ia ids.length ic] 49 (0, 0)) := by
    rw [hW]
    have := heap_alloc_new (w.alloc (.cells #[.int .u8 u.kind, .int .i64 u.n, .string u.t, .slice an u.names.length cn, .slice ai u.items.length ci, .slice sa l.length sc] 47)) (.cells #[.int .i64 t, .slice ia ids.length ic] 49)
    simpa using this
  have HS := Lib.hid (show ∀ w' : World, Below W.heap.size W w' → w'.cell? ⟨w.heap.size, 0, none⟩ = some (.int .u8 u.kind) ∧ w'.cell? ⟨w.heap.size, 1, none⟩ = some (.int .i64 u.n) ∧ w'.cell? ⟨w.heap.size, 2, none⟩ = some (.string u.t) ∧ w'.cell? ⟨w.heap.size, 3, none⟩ = some (.slice an u.names.length cn) ∧ w'.cell? ⟨w.heap.size, 4, none⟩ = some (.slice ai u.items.length ci) ∧ w'.cell? ⟨w.heap.size, 5, none⟩ = some (.slice sa l.length sc) ∧ w'.cell? ⟨w.heap.size + 1, 0, none⟩ = some (.int .i64 t) ∧ w'.cell? ⟨w.heap.size + 1, 1, none⟩ = some (.slice ia ids.length ic) from fun w' h => by
    have y0 := (h.block _ (heap_lt hx0)).trans hx0
    have y1 := (h.block _ (heap_lt hx1)).trans hx1
    exact ⟨box_cell y0 rfl, box_cell y0 rfl, box_cell y0 rfl, box_cell y0 rfl, box_cell y0 rfl, box_cell y0 rfl, box_cell y1 rfl, box_cell y1 rfl⟩)
  have HI := Lib.hid (hI.below HBW.out)
  have HW := Lib.hid hW
  have HL1 := Lib.hid (show Calls Tryz.prog 48 #[.agg #[.int .u8 u.kind, .int .i64 u.n, .string u.t, .slice an u.names.length cn, .slice ai u.items.length ci, .slice sa l.length sc]] W (LongEPost u l W) from lawLong16 u l an ai sa cn ci sc W HI.out.rep HI.out.sigs HI.out.lsig)
  have HL2 := Lib.hid (show ∀ w', Below W.heap.size W w' → Calls Tryz.prog 28 #[.slice (some ⟨w'.heap.size, 0, none⟩) 4 4] (w'.alloc (.cells #[.int .u8 u.kind, .int .i64 u.n, .string u.t, .slice an u.names.length cn, .slice ai u.items.length ci, .int .u8 u.kind, .int .i64 u.n, .string u.t, .slice an u.names.length cn, .slice ai u.items.length ci, .int .u8 u.kind, .int .i64 u.n, .string u.t, .slice an u.names.length cn, .slice ai u.items.length ci, .int .u8 u.kind, .int .i64 u.n, .string u.t, .slice an u.names.length cn, .slice ai u.items.length ci] 44)) (fun e w2 => ∃ b : Bool, e = .returned (.bool b) ∧ Below w'.heap.size w' w2) from fun w' h => by
    refine (lawLong [u, u, u, u] _ 4 _ (vals_four (heap_alloc_new w' _) ((HI.out.below h).rep.below ((Below.refl _ _).alloc (Nat.le_refl _) _) (Nat.le_refl _) (Nat.le_refl _) (by simp)))).mono ?_
    rintro e w2 ⟨b, rfl, _, rfl⟩
    exact ⟨b, rfl, (Below.refl _ _).alloc (Nat.le_refl _) _⟩)
  have HL3 := Lib.hid (show ∀ w', Below W.heap.size W w' → Calls Tryz.prog 38 #[.slice (some ⟨w'.heap.size, 0, none⟩) 1 1] (w'.alloc (.cells #[.int .i64 t, .slice ia ids.length ic] 49)) (fun e w2 => ∃ b : Bool, e = .returned (.bool b) ∧ (b = false → ids.length ≤ 500 ∧ ∀ s ∈ ids, s.size ≤ 5000) ∧ Below w'.heap.size w' w2) from fun w' h => by
    refine (lawLong15 t ids ia ic w'.heap.size _ (heap_alloc_new w' _) ((HI.out.below h).strs.below ((Below.refl _ _).alloc (Nat.le_refl _) _) (Nat.le_refl _) (Nat.le_refl _) (by simp)) HI.out.lids).mono ?_
    rintro e w2 ⟨b, rfl, hb, rfl⟩
    exact ⟨b, rfl, hb, (Below.refl _ _).alloc (Nat.le_refl _) _⟩)
  have HL4 := Lib.hid (show ∀ w', Below W.heap.size W w' → Calls Tryz.prog 13 #[.slice ka keys.length kc] w' (LongKPost keys w') from fun w' h => lawLongKeys keys ka kc w' (HI.out.below h).rows HI.out.lkeys)
  unfold envV
  clear hW hx0 hx1 hI
  obtain ⟨q0, q1, q2, q3, q4, q5, q6, q7⟩ := HS.out W (Below.refl _ _)
  go_enter Tryz.func20, Tryz.ntmps20
  go_wp2_with fail
  rw [← HW.out]
  refine HL1.out.mono ?_
  clear HL1 q0 q1 q2 q3 q4 q5 q6 q7
  rintro e w1 ⟨b, rfl, hb, hb1⟩
  have HB1 := Lib.hid hb1
  clear hb1
  cases b
  case true =>
    clear hb
    go_wp2
    go_ret
    exact ⟨true, rfl, (fun h => by cases h), HBW.out.trans (HB1.out.mono HBW.out.size)⟩
  have HE := Lib.hid (hb rfl)
  clear hb
  obtain ⟨q0, q1, q2, q3, q4, q5, q6, q7⟩ := HS.out w1 HB1.out
  go_wp2_with fail
  refine (HL2.out w1 HB1.out).mono ?_
  clear q0 q1 q2 q3 q4 q5 q6 q7
  rintro e w2 ⟨b, rfl, hb2⟩
  have HB2 := Lib.hid (HB1.out.trans (hb2.mono HB1.out.size))
  clear hb2
  cases b
  case true =>
    go_wp2
    go_ret
    exact ⟨true, rfl, (fun h => by cases h), HBW.out.trans (HB2.out.mono HBW.out.size)⟩
  obtain ⟨q0, q1, q2, q3, q4, q5, q6, q7⟩ := HS.out w2 HB2.out
  go_wp2_with fail
  refine (HL3.out w2 HB2.out).mono ?_
  clear q0 q1 q2 q3 q4 q5 q6 q7
  rintro e w3 ⟨b, rfl, hb, hb3⟩
  have HB3 := Lib.hid (HB2.out.trans (hb3.mono HB2.out.size))
  clear hb3
  cases b
  case true =>
    clear hb
    go_wp2
    go_ret
    exact ⟨true, rfl, (fun h => by cases h), HBW.out.trans (HB3.out.mono HBW.out.size)⟩
  have HA := Lib.hid (hb rfl)
  clear hb
  go_wp2_with fail
  refine (HL4.out w3 HB3.out).mono ?_
  rintro e w4 ⟨b, rfl, hb, hb4⟩
  have HB4 := Lib.hid (HB3.out.trans (hb4.mono HB3.out.size))
  have HK := Lib.hid hb
  clear hb4 hb
  go_wp2
  go_ret
  exact ⟨b, rfl, fun h => ⟨HE.out.1, HE.out.2.1, HE.out.2.2, HA.out.1, HA.out.2, (HK.out h).1, (HK.out h).2⟩, HBW.out.trans (HB4.out.mono HBW.out.size)⟩

end Go.Proofs.YtaekmmnpdbmoeaaGreatDoor
