/- The contracts of slices.Equal (texts), value.same (without pairs) and value.Same: equal in all parts. -/
import Derived.Test.YtcahpjejpimdhaaGreatDoorZt208

namespace Go.Proofs.YtcahpjejpimdhaaGreatDoor
open Go.RowKit

mutual
/-- Equal in all parts? -/
def JV.sameB : JV → JV → Bool
  | .mk k n t ns xs, .mk k' n' t' ns' xs' => decide (k = k') && (decide (n = n') && (decide (t = t') && (decide (ns = ns') && (decide (xs.length = xs'.length) && JV.sameL xs xs'))))
def JV.sameL : List JV → List JV → Bool
  | [], _ => true
  | _ :: _, [] => true
  | x :: xs, y :: ys => JV.sameB x y && JV.sameL xs ys
end
theorem JV.sameB_eq (v u : JV) : v.sameB u = (decide (v.kind = u.kind) && (decide (v.n = u.n) && (decide (v.t = u.t) && (decide (v.names = u.names) && (decide (v.items.length = u.items.length) && JV.sameL v.items u.items))))) := by
  cases v; cases u; rw [JV.sameB]; rfl
mutual
theorem JV.sameB_iff : ∀ (v u : JV), v.sameB u = true ↔ v = u
  | .mk k n t ns xs, .mk k' n' t' ns' xs' => by
    rw [JV.sameB]
    simp only [Bool.and_eq_true, decide_eq_true_eq]
    constructor
    · rintro ⟨rfl, rfl, rfl, rfl, hl, hs⟩
      rw [(JV.sameL_iff xs xs' hl).1 hs]
    · intro h
      injection h with h1 h2 h3 h4 h5
      subst h1 h2 h3 h4 h5
      exact ⟨rfl, rfl, rfl, rfl, rfl, (JV.sameL_iff xs xs rfl).2 rfl⟩
theorem JV.sameL_iff : ∀ (xs ys : List JV), xs.length = ys.length → (JV.sameL xs ys = true ↔ xs = ys)
  | [], [], _ => by simp [JV.sameL]
  | [], _ :: _, h => by simp at h
  | _ :: _, [], h => by simp at h
  | x :: xs, y :: ys, h => by
    rw [JV.sameL, Bool.and_eq_true, JV.sameB_iff x y, JV.sameL_iff xs ys (by simpa using h)]
    simp
end
theorem JV.sameL_take : ∀ (xs ys : List JV) (k : Nat) (h : k < xs.length) (h' : k < ys.length), JV.sameL (xs.take (k + 1)) (ys.take (k + 1)) = (JV.sameL (xs.take k) (ys.take k) && xs[k].sameB ys[k])
  | x :: xs, y :: ys, 0, _, _ => by simp [JV.sameL]
  | x :: xs, y :: ys, k + 1, h, h' => by
    simp only [List.take_succ_cons, JV.sameL, List.getElem_cons_succ]
    rw [JV.sameL_take xs ys k (by simpa using h) (by simpa using h'), Bool.and_assoc]
theorem JV.sameL_bad : ∀ (xs ys : List JV) (k : Nat) (h : k < xs.length) (h' : k < ys.length), xs[k].sameB ys[k] = false → JV.sameL xs ys = false
  | x :: xs, y :: ys, 0, _, _, e => by simp only [List.getElem_cons_zero] at e; simp [JV.sameL, e]
  | x :: xs, y :: ys, k + 1, h, h', e => by
    simp only [List.getElem_cons_succ] at e
    simp [JV.sameL, JV.sameL_bad xs ys k (by simpa using h) (by simpa using h') e]

theorem equalStrs (l m : List ByteArray) (a1 a2 : Option Addr) (c d : Nat) (w : World) (lo hi : Nat) (h1 : StrsAt w lo hi a1 l) (h2 : StrsAt w lo hi a2 m) (hl : l.length ≤ 4294967296) (hm : m.length ≤ 4294967296) :
    Calls Tryz.prog 99 #[.slice a1 l.length c, .slice a2 m.length d] w fun e w' => e = .returned (.bool (decide (l = m))) ∧ ∃ q, w' = w.drewN q := by
  by_cases hn : l.length = m.length
  · by_cases h0 : l = []
    · subst h0
      have hm0 : m = [] := List.eq_nil_of_length_eq_zero (by rw [← hn]; rfl)
      subst hm0
      refine (Tryz.slices_Equal_string_empty a1 a2 c 0 d w (by omega)).mono ?_
      rintro e w' ⟨rfl, rfl⟩
      exact ⟨rfl, 0, rfl⟩
    · have h0' : m ≠ [] := fun e => h0 (List.eq_nil_of_length_eq_zero (by rw [hn, e]; rfl))
      rcases h1 with h1 | ⟨b, off, rfl, _, _, hc⟩
      · exact absurd h1 h0
      rcases h2 with h2 | ⟨b', off', rfl, _, _, hc'⟩
      · exact absurd h2 h0'
      refine (Tryz.slices_Equal_string b off l.length c b' off' m.length d l m w (Nat.le_refl _) (Nat.le_refl _) (by omega) (by omega) (fun j hj => by rw [hc j hj, List.getD_eq_getElem?_getD, List.getElem?_eq_getElem hj]; rfl) (fun j hj => by rw [hc' j hj, List.getD_eq_getElem?_getD, List.getElem?_eq_getElem hj]; rfl)).mono ?_
      rintro e w' ⟨rfl, hq⟩
      exact ⟨by rw [List.take_length, List.take_length], hq⟩
  · refine (Tryz.slices_Equal_string_lens a1 a2 l.length c m.length d w hn).mono ?_
    rintro e w' ⟨rfl, rfl⟩
    exact ⟨by rw [decide_eq_false (fun e => hn (by rw [e]))], 0, rfl⟩

theorem ba_ext2 {a b : ByteArray} (h : a.toList = b.toList) : a = b := by
  rw [ByteArray.toList_eq, ByteArray.toList_eq] at h
  exact ByteArray.ext (Array.toList_inj.1 h)
def SamePost (v u : JV) (w : World) (e : Ending) (w' : World) : Prop := e = .returned (.bool (v.sameB u)) ∧ ∃ q, w' = w.drewN q
theorem VAt.open {w : World} {lo hi : Nat} {v : JV} {b o : Nat} (h : VAt w lo hi v b o) : ∃ an cn ai ci, w.cell? ⟨b, o, none⟩ = some (.int .u8 v.kind) ∧ w.cell? ⟨b, o + 1, none⟩ = some (.int .i64 v.n) ∧ w.cell? ⟨b, o + 2, none⟩ = some (.string v.t) ∧ w.cell? ⟨b, o + 3, none⟩ = some (.slice an v.names.length cn) ∧ w.cell? ⟨b, o + 4, none⟩ = some (.slice ai v.items.length ci) ∧ StrsAt w lo hi an v.names ∧ ValsAt w lo hi ai v.items := by
  obtain ⟨c0, c1, c2, c3, c4, e0, e1, e2, e3, e4, hr⟩ := h
  obtain ⟨an, cn, ai, ci, hx, _, _, h3, h4⟩ := hr.parts
  simp only [Value.agg.injEq, Array.mk.injEq, List.cons.injEq, and_true] at hx
  obtain ⟨rfl, rfl, rfl, rfl, rfl⟩ := hx
  exact ⟨an, cn, ai, ci, e0, e1, e2, e3, e4, h3, h4⟩

theorem VAt.drewN {w : World} {lo hi : Nat} {v : JV} {b o : Nat} (h : VAt w lo hi v b o) (n : Nat) : VAt (w.drewN n) lo hi v b o := by
  obtain ⟨c0, c1, c2, c3, c4, e0, e1, e2, e3, e4, hr⟩ := h
  exact ⟨c0, c1, c2, c3, c4, e0, e1, e2, e3, e4, Rep.carry (w := w) (w' := w.drewN n) (Nat.le_refl _) (Nat.le_refl _) (fun _ _ _ => rfl) _ _ hr⟩

set_option maxRecDepth 100000 in
set_option maxHeartbeats 2000000 in
theorem valuesame (N : Nat) : ∀ (v u : JV) (b o b' o' : Nat) (lo hi : Nat) (w : World), v.wt ≤ N → u.wt ≤ 4294967296 → N ≤ 4294967296 → VAt w lo hi v b o → VAt w lo hi u b' o' →
    Calls Tryz.prog 69 #[.pointer (some ⟨b, o, none⟩), .pointer (some ⟨b', o', none⟩), .pointer none] w (SamePost v u w) := by
  induction N with
  | zero => intro v u b o b' o' lo hi w h; have := v.wt_pos; omega
  | succ N ih =>
    intro v u b o b' o' lo hi w hN hU hM hV hW
    have IH := Lib.hid ih
    clear ih
    obtain ⟨an, cn, ai, ci, y0, y1, y2, y3, y4, hs, hv⟩ := hV.open
    obtain ⟨an', cn', ai', ci', z0, z1, z2, z3, z4, hs', hv'⟩ := hW.open
    have HEQ := Lib.hid (v.sameB_eq u)
    obtain ⟨b1, b2, b3, b4⟩ := v.wt_bd
    obtain ⟨d1, d2, d3, d4⟩ := u.wt_bd
    have HE := Lib.hid (fun (n : Nat) => equalStrs v.names u.names an an' cn cn' (w.drewN n) lo hi hs hs' (by omega) (by omega))
    have HV := Lib.hid hv
    have HV' := Lib.hid hv'
    clear hs hs' hv hv' hV hW
    by_cases hk : v.kind = u.kind
    case neg =>
      have t1 : (v.kind == u.kind) = false := by simpa using hk
      have t2 : (v.kind != u.kind) = true := by simpa using hk
      rw [decide_eq_false hk] at HEQ
      clear hk
      go_enter Tryz.func69, Tryz.ntmps69
      go_wp2_with fail
      go_quiet (fail)
      go_wp2
      go_ret
      exact ⟨by rw [HEQ.out]; simp, nq, rfl⟩
    have t1 : (v.kind != u.kind) = false := by simpa using hk
    rw [decide_eq_true hk] at HEQ
    clear hk
    by_cases hn : v.n = u.n
    case neg =>
      have t3 : (v.n != u.n) = true := by simpa using hn
      rw [decide_eq_false hn] at HEQ
      clear hn
      go_enter Tryz.func69, Tryz.ntmps69
      go_wp2_with fail
      go_quiet (fail)
      go_wp2
      go_ret
      exact ⟨by rw [HEQ.out]; simp, nq, rfl⟩
    have t2 : (v.n != u.n) = false := by simpa using hn
    rw [decide_eq_true hn] at HEQ
    clear hn
    by_cases ht : v.t = u.t
    case neg =>
      have t3 : (v.t.toList == u.t.toList) = false := beq_eq_false_iff_ne.2 (fun e => ht (ba_ext2 e))
      have t4 : (v.t.toList != u.t.toList) = true := bne_iff_ne.2 (fun e => ht (ba_ext2 e))
      rw [decide_eq_false ht] at HEQ
      clear ht
      go_enter Tryz.func69, Tryz.ntmps69
      go_wp2_with fail
      go_quiet (fail)
      go_wp2
      go_ret
      exact ⟨by rw [HEQ.out]; simp, nq, rfl⟩
    have t3 : (v.t.toList == u.t.toList) = true := by rw [ht]; simp
    have t4 : (v.t.toList != u.t.toList) = false := by rw [ht]; simp
    rw [decide_eq_true ht] at HEQ
    clear ht
    by_cases hm : v.names = u.names
    case neg =>
      rw [decide_eq_false hm] at HEQ HE
      clear hm
      go_enter Tryz.func69, Tryz.ntmps69
      go_wp2_with fail
      go_quiet ((go_at_call 99; exact Calls.quiet_of (HE.out _)))
      go_wp2
      go_ret
      exact ⟨by rw [HEQ.out]; simp, nq, rfl⟩
    rw [decide_eq_true hm] at HEQ HE
    clear hm
    by_cases hl : v.items.length = u.items.length
    case neg =>
      have t5 : ((v.items.length : Int) != (u.items.length : Int)) = true := by rw [bne_iff_ne]; omega
      have t6 : (v.items.length != u.items.length) = true := by rw [bne_iff_ne]; omega
      rw [decide_eq_false hl] at HEQ
      clear hl
      go_enter Tryz.func69, Tryz.ntmps69
      go_wp2_with fail
      go_quiet ((go_at_call 99; exact Calls.quiet_of (HE.out _)))
      go_wp2
      go_ret
      exact ⟨by rw [HEQ.out]; simp, nq, rfl⟩
    rw [decide_eq_true hl] at HEQ
    simp only [Bool.true_and] at HEQ
    obtain ⟨ni, hni⟩ : ∃ ni, ni = v.items.length := ⟨_, rfl⟩
    rw [← hl, ← hni] at z4
    rw [← hni] at y4 b3
    have HNI := Lib.hid hni
    have HNU := Lib.hid (show u.items.length = ni by rw [hni, hl])
    clear hl hni
    go_enter Tryz.func69, Tryz.ntmps69
    go_wp2_with fail
    go_quiet ((go_at_call 99; exact Calls.quiet_of (HE.out _)))
    go_wp2
    clear y0 y1 y2 y3 z0 z1 z2 z3 t1 t2 t3 t4 HE
    go_loopw [7, 88] (fun _ i wr => ∃ (k q : Nat), k ≤ ni ∧ i = .int .i64 k ∧ wr = w.drewN q ∧ JV.sameL (v.items.take k) (u.items.take k) = true) (fun _ i _ => ni - (intOf i).toNat)
    case atStart => exact ⟨0, nq, by omega, rfl, rfl, by simp [JV.sameL]⟩
    case round =>
      obtain ⟨k, q, hk, rfl, hq, hall⟩ := hrel
      have HQ := Lib.hid hq
      have HA := Lib.hid hall
      have c4 : wr.cell? ⟨b, o + 4, none⟩ = some (.slice ai ni ci) := by rw [hq]; exact y4
      have d4' : wr.cell? ⟨b', o' + 4, none⟩ = some (.slice ai' ni ci') := by rw [hq]; exact z4
      clear hq hall
      by_cases hlt : k < ni
      · have hltv : k < v.items.length := by rw [← HNI.out]; exact hlt
        have hltu : k < u.items.length := by rw [HNU.out]; exact hlt
        obtain ⟨p, f, e0, e1, e2, e3, e4, rfl, _, _, g0, g1, g2, g3, g4, hr⟩ := HV.out.at k hltv
        obtain ⟨p', f', e0', e1', e2', e3', e4', rfl, _, _, g0', g1', g2', g3', g4', hr'⟩ := HV'.out.at k hltu
        have hw1 := JV.wts_get v.items k hltv
        have hw2 := JV.wts_get u.items k hltu
        have HVA := Lib.hid (show VAt w lo hi v.items[k] p (f + k * 5) from ⟨_, _, _, _, _, g0, g1, g2, g3, g4, hr⟩)
        have HVB := Lib.hid (show VAt w lo hi u.items[k] p' (f' + k * 5) from ⟨_, _, _, _, _, g0', g1', g2', g3', g4', hr'⟩)
        have HTK := Lib.hid (JV.sameL_take v.items u.items k hltv hltu)
        have HTB := Lib.hid (JV.sameL_bad v.items u.items k hltv hltu)
        clear hr hr' g0 g1 g2 g3 g4 g0' g1' g2' g3' g4'
        generalize v.items[k] = it at *
        generalize u.items[k] = jt at *
        have HC := Lib.hid (show ∀ n, Calls Tryz.prog 69 #[.pointer (some ⟨p, f + k * 5, none⟩), .pointer (some ⟨p', f' + k * 5, none⟩), .pointer none] (wr.drewN n) (fun e w' => e = .returned (.bool (it.sameB jt)) ∧ ∃ m, w' = (wr.drewN n).drewN m) from fun n => by
          refine IH.out it jt p (f + k * 5) p' (f' + k * 5) lo hi (wr.drewN n) (by omega) (by omega) (by omega) ?_ ?_
          · rw [HQ.out]; exact (HVA.out.drewN q).drewN n
          · rw [HQ.out]; exact (HVB.out.drewN q).drewN n)
        have g1 : 0 ≤ (k : Int) := by omega
        have g2 : (k : Int) < (ni : Int) := by omega
        cases hsb : it.sameB jt
        · have HF := Lib.hid (HTB.out hsb)
          rw [hsb] at HC
          clear hsb
          go_wp2_with fail
          go_quiet ((go_at_call 69; exact Calls.quiet_of (HC.out _)))
          go_wp2
          go_ret
          exact ⟨by rw [HEQ.out, HF.out]; rfl, q + nq, by rw [HQ.out, World.drewN_drewN]⟩
        · have HF := Lib.hid (show JV.sameL (v.items.take (k + 1)) (u.items.take (k + 1)) = true by rw [HTK.out, HA.out, hsb]; rfl)
          rw [hsb] at HC
          clear hsb
          go_wp2_with fail
          go_quiet ((go_at_call 69; exact Calls.quiet_of (HC.out _)))
          go_wp2
          go_roundw
          case rel => exact ⟨k + 1, q + nq, by omega, by go_num, by rw [HQ.out, World.drewN_drewN], HF.out⟩
          case measure => simp [intOf]; omega
      · have HF := Lib.hid (show JV.sameL v.items u.items = true by
          have := HA.out; rwa [List.take_of_length_le (by rw [← HNI.out]; omega), List.take_of_length_le (by rw [HNU.out]; omega)] at this)
        go_wp2
        go_ret
        exact ⟨by rw [HEQ.out, HF.out]; rfl, q, by rw [HQ.out]⟩

theorem vat_box {w : World} {lo hi p T : Nat} {v : JV} {c0 c1 c2 c3 c4 : Value} (hp : w.heap[p]? = some (.cells #[c0, c1, c2, c3, c4] T (0, 0))) (hr : Rep w lo hi v (.agg #[c0, c1, c2, c3, c4])) : VAt w lo hi v p 0 :=
  ⟨c0, c1, c2, c3, c4, by simp [World.cell?, hp], by simp [World.cell?, hp], by simp [World.cell?, hp], by simp [World.cell?, hp], by simp [World.cell?, hp], hr⟩
set_option maxRecDepth 100000 in
set_option maxHeartbeats 1000000 in
theorem valueSame (v u : JV) (x y : Value) (w : World) (lo hi : Nat) (hv : v.wt ≤ 4294967296) (hu : u.wt ≤ 4294967296) (hhi : hi ≤ w.heap.size) (hR : Rep w lo hi v x) (hS : Rep w lo hi u y) (h1 : Seen lo v) (h2 : Seen lo u) :
    Calls Tryz.prog 31 #[x, y] w fun e w' => e = .returned (.bool (v.sameB u)) ∧ Below w.heap.size w w' := by
  obtain ⟨an, cn, ai, ci, hx, _, _, h3, h4⟩ := hR.parts
  obtain ⟨an', cn', ai', ci', hy, _, _, h3', h4'⟩ := hS.parts
  have HR := Lib.hid hR
  have HS := Lib.hid hS
  subst hx hy
  have HB0 := Lib.hid (show Below w.heap.size w ((w.alloc (.cells #[.int .u8 v.kind, .int .i64 v.n, .string v.t, .slice an v.names.length cn, .slice ai v.items.length ci] 29)).alloc (.cells #[.int .u8 u.kind, .int .i64 u.n, .string u.t, .slice an' u.names.length cn', .slice ai' u.items.length ci'] 29)) from ((Below.refl _ _).alloc (Nat.le_refl _) _).alloc (by simp) _)
  have HE1 := Lib.hid (endlessItem v ai ci lo hi _ hv (h4.below HB0.out hhi (Nat.le_refl _) (Nat.le_refl _)) h1)
  have HE2 := Lib.hid (endlessItem u ai' ci' lo hi _ hu (h4'.below HB0.out hhi (Nat.le_refl _) (Nat.le_refl _)) h2)
  have hx0 : ((w.alloc (.cells #[.int .u8 v.kind, .int .i64 v.n, .string v.t, .slice an v.names.length cn, .slice ai v.items.length ci] 29)).alloc (.cells #[.int .u8 u.kind, .int .i64 u.n, .string u.t, .slice an' u.names.length cn', .slice ai' u.items.length ci'] 29)).heap[w.heap.size]? = some (.cells #[.int .u8 v.kind, .int .i64 v.n, .string v.t, .slice an v.names.length cn, .slice ai v.items.length ci] 29 (0, 0)) := (Below.heap_alloc _ _ _ (by simp)).trans (heap_alloc_new w _)
  have hy0 : ((w.alloc (.cells #[.int .u8 v.kind, .int .i64 v.n, .string v.t, .slice an v.names.length cn, .slice ai v.items.length ci] 29)).alloc (.cells #[.int .u8 u.kind, .int .i64 u.n, .string u.t, .slice an' u.names.length cn', .slice ai' u.items.length ci'] 29)).heap[w.heap.size + 1]? = some (.cells #[.int .u8 u.kind, .int .i64 u.n, .string u.t, .slice an' u.names.length cn', .slice ai' u.items.length ci'] 29 (0, 0)) := by
    have := heap_alloc_new (w.alloc (.cells #[.int .u8 v.kind, .int .i64 v.n, .string v.t, .slice an v.names.length cn, .slice ai v.items.length ci] 29)) (.cells #[.int .u8 u.kind, .int .i64 u.n, .string u.t, .slice an' u.names.length cn', .slice ai' u.items.length ci'] 29)
    rwa [show (w.alloc (.cells #[.int .u8 v.kind, .int .i64 v.n, .string v.t, .slice an v.names.length cn, .slice ai v.items.length ci] 29)).heap.size = w.heap.size + 1 by simp] at this
  have HC := Lib.hid (valuesame 4294967296 v u w.heap.size 0 (w.heap.size + 1) 0 lo hi _ hv hu (Nat.le_refl _)
    (vat_box hx0 (HR.out.below HB0.out hhi (Nat.le_refl _) (Nat.le_refl _)))
    (vat_box hy0 (HS.out.below HB0.out hhi (Nat.le_refl _) (Nat.le_refl _))))
  clear h3 h4 h3' h4' hR hS hx0 hy0 HR HS
  go_enter Tryz.func31, Tryz.ntmps31
  go_wp2_with fail
  refine HE1.out.mono ?_
  rintro e w1 ⟨rfl, rfl⟩
  go_wp2_with fail
  refine HE2.out.mono ?_
  rintro e w1 ⟨rfl, rfl⟩
  go_wp2_with fail
  refine HC.out.mono ?_
  rintro e w1 ⟨rfl, q, rfl⟩
  go_wp2
  go_ret
  exact ⟨rfl, Below.drewN HB0.out _⟩

end Go.Proofs.YtcahpjejpimdhaaGreatDoor
