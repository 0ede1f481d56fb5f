/- The contracts of legateref14.Same (of keys) and legateref14.place. Plain: a key put at its place among rising ones; the front and the back of a row that the call owns. No program in sight. An object's variable, of which names and items are laid anew with one more at a place. No program in sight. The contract of legateref14.Table. The contract of key.Keys. The contracts of legateref08.May and legateref08.Get. -/
import Derived.Test.YtcahpjejpimdhaaGreatDoorZt231
import Derived.Test.YtcahpjejpimdhaaGreatDoorZt215
import Derived.Test.YtcahpjejpimdhaaGreatDoorZt209
import Derived.Test.YtcahpjejpimdhaaGreatDoorZt210
import Derived.Test.YtcahpjejpimdhaaGreatDoorZt220
import Derived.Deep.DeepCutAuto
import Derived.Test.YtcahpjejpimdhaaGreatDoorZt216
import Derived.Test.YtcahpjejpimdhaaGreatDoorZt213
import Derived.Test.YtcahpjejpimdhaaGreatDoorZt219
import Derived.Test.YtcahpjejpimdhaaGreatDoorZt211
import Derived.Test.YtcahpjejpimdhaaGreatDoorZt230

namespace Go.Proofs.YtcahpjejpimdhaaGreatDoor
open Go.RowKit

theorem ba_beq (a b : ByteArray) : (a.toList == b.toList) = decide (a = b) := by
  by_cases h : a = b
  · subst h; simp
  · rw [decide_eq_false h]
    cases hq : (a.toList == b.toList)
    · rfl
    · exact absurd (ba_ext (eq_of_beq hq)) h

set_option maxHeartbeats 1000000 in
set_option maxRecDepth 100000 in
theorem ref14Same (l m : List Key2) (a b : Option Addr) (c d : Nat) (w : World) (hA : KeysAt w 0 w.heap.size a l) (hB : KeysAt w 0 w.heap.size b m) (hl : l.length ≤ 4294967296) (_hm : m.length ≤ 4294967296) :
    Calls Tryz.prog 36 #[.slice a l.length c, .slice b m.length d] w fun e w' => e = .returned (.bool (decide (l = m))) ∧ Below w.heap.size w w' := by
  have HA := Lib.hid hA
  have HB := Lib.hid hB
  clear hA hB
  by_cases hlm : l.length = m.length
  case neg =>
    have h1 : ((l.length : Int) != (m.length : Int)) = true := by simp; omega
    have HD := Lib.hid (show decide (l = m) = false from decide_eq_false fun e => hlm (by rw [e]))
    go_enter Tryz.func36, Tryz.ntmps36
    go_wp2
    go_ret
    exact ⟨by rw [HD.out]; rfl, Below.refl _ _⟩
  obtain ⟨n, hn⟩ : ∃ n, n = l.length := ⟨_, rfl⟩
  have HNL := Lib.hid hn
  have HNM := Lib.hid (show n = m.length by rw [hn, hlm])
  rw [← hlm, ← hn]
  have hnb : n ≤ 4294967296 := by omega
  clear hlm hn hl
  go_enter Tryz.func36, Tryz.ntmps36
  go_wp2_with fail
  go_loopw [5] (fun i wr => ∃ k : Nat, k ≤ n ∧ i = .int .i64 k ∧ l.take k = m.take k ∧ Below w.heap.size w wr) (fun i _ => n - (intOf i).toNat)
  case atStart => exact ⟨0, by omega, rfl, rfl, Below.refl _ _⟩
  case round =>
    obtain ⟨k, hk, rfl, htk, hbk⟩ := hrel
    have HTK := Lib.hid htk
    have HBK := Lib.hid hbk
    clear htk hbk
    by_cases hlt : k < n
    · have hkl : k < l.length := by rw [← HNL.out]; exact hlt
      have hkm : k < m.length := by rw [← HNM.out]; exact hlt
      obtain ⟨p, f, ha, _, hp, e0, e1⟩ := (HA.out.below HBK.out (Nat.le_refl _) (Nat.le_refl _) (Nat.le_refl _)).at k hkl
      subst ha
      obtain ⟨q, g, ha, _, hq, f0, f1⟩ := (HB.out.below HBK.out (Nat.le_refl _) (Nat.le_refl _) (Nat.le_refl _)).at k hkm
      subst ha
      have HTS := Lib.hid (show l[k] = m[k] → l.take (k + 1) = m.take (k + 1) from fun e => by rw [List.take_succ_eq_append_getElem hkl, List.take_succ_eq_append_getElem hkm, HTK.out, e])
      have HNE := Lib.hid (show l[k] ≠ m[k] → decide (l = m) = false from fun e => decide_eq_false fun e2 => e (by subst e2; rfl))
      obtain ⟨x, hx⟩ : ∃ x : Key2, x = l[k] := ⟨_, rfl⟩
      obtain ⟨y, hy⟩ : ∃ y : Key2, y = m[k] := ⟨_, rfl⟩
      replace e0 := e0.trans (congrArg (fun z : Key2 => some (Value.string z.1)) hx.symm)
      replace e1 := e1.trans (congrArg (fun z : Key2 => some (Value.string z.2)) hx.symm)
      replace f0 := f0.trans (congrArg (fun z : Key2 => some (Value.string z.1)) hy.symm)
      replace f1 := f1.trans (congrArg (fun z : Key2 => some (Value.string z.2)) hy.symm)
      rw [← hx, ← hy] at HTS HNE
      clear hx hy
      obtain ⟨xs, xp⟩ := x
      obtain ⟨ys, yp⟩ := y
      replace e0 : wr.cell? ⟨p, f + k * 2, none⟩ = some (.string xs) := e0
      replace e1 : wr.cell? ⟨p, f + k * 2 + 1, none⟩ = some (.string xp) := e1
      replace f0 : wr.cell? ⟨q, g + k * 2, none⟩ = some (.string ys) := f0
      replace f1 : wr.cell? ⟨q, g + k * 2 + 1, none⟩ = some (.string yp) := f1
      have m1 : (0 : Int) ≤ (k : Int) := by omega
      have m2 : (k : Int) < (n : Int) := by omega
      have m3 : decide ((k : Int) < (n : Int)) = true := by simpa using hlt
      cases h1 : (xs.toList == ys.toList)
      · have HR := Lib.hid (HNE.out fun e => by rw [(Prod.mk.inj e).1] at h1; simp at h1)
        go_wp2_with fail
        go_quiet (fail)
        go_wp2
        go_ret
        exact ⟨by rw [HR.out]; rfl, Below.drewN HBK.out _⟩
      · cases h2 : (xp.toList == yp.toList)
        · have HR := Lib.hid (HNE.out fun e => by rw [(Prod.mk.inj e).2] at h2; simp at h2)
          go_wp2_with fail
          go_quiet (fail)
          go_wp2
          go_ret
          exact ⟨by rw [HR.out]; rfl, Below.drewN HBK.out _⟩
        · have HR := Lib.hid (HTS.out (by rw [ba_ext (eq_of_beq h1), ba_ext (eq_of_beq h2)]))
          go_wp2_with fail
          go_quiet (fail)
          go_wp2
          go_roundw
          case rel => exact ⟨k + 1, by omega, by go_num, HR.out, Below.drewN HBK.out _⟩
          case measure => simp [intOf]; omega
    · have m3 : decide ((k : Int) < (n : Int)) = false := by simpa using hlt
      have HR := Lib.hid (show decide (l = m) = true from decide_eq_true (by
        have := HTK.out
        rwa [List.take_of_length_le (by rw [← HNL.out]; omega), List.take_of_length_le (by rw [← HNM.out]; omega)] at this))
      go_wp2
      go_ret
      exact ⟨by rw [HR.out]; rfl, HBK.out⟩

/-- The place of a text among rising ones. -/
def PlacePost (l : List ByteArray) (x : ByteArray) (w : World) (e : Ending) (w' : World) : Prop :=
  ∃ r : Nat, e = .returned (.int .i64 r) ∧ r ≤ l.length ∧ (∀ t (h : t < l.length), t < r → bl l[t] x = true) ∧ (∀ h : r < l.length, bl l[r] x = false) ∧ Below w.heap.size w w'

set_option maxHeartbeats 1000000 in
set_option maxRecDepth 100000 in
theorem ref14place (l : List ByteArray) (x : ByteArray) (a : Option Addr) (c : Nat) (w : World) (hS : StrsAt w 0 w.heap.size a l) (hl : l.length ≤ 4294967296) :
    Calls Tryz.prog 73 #[.slice a l.length c, .string x] w (PlacePost l x w) := by
  have HS := Lib.hid hS
  obtain ⟨n, hn⟩ : ∃ n, n = l.length := ⟨_, rfl⟩
  have HNL := Lib.hid hn
  rw [← hn]
  rw [← hn] at hl
  clear hS hn
  go_enter Tryz.func73, Tryz.ntmps73
  go_wp2_with fail
  go_loopw [5] (fun i wr => ∃ k : Nat, k ≤ n ∧ i = .int .i64 k ∧ (∀ t (h : t < l.length), t < k → bl l[t] x = true) ∧ Below w.heap.size w wr) (fun i _ => n - (intOf i).toNat)
  case atStart => exact ⟨0, by omega, rfl, fun t h h0 => by omega, Below.refl _ _⟩
  case round =>
    obtain ⟨k, hk, rfl, hlo, hbk⟩ := hrel
    have HLO := Lib.hid hlo
    have HBK := Lib.hid hbk
    clear hlo hbk
    by_cases hlt : k < n
    · have hkl : k < l.length := by rw [← HNL.out]; exact hlt
      obtain ⟨p, f, ha, _, hp, e0⟩ := (HS.out.below HBK.out (Nat.le_refl _) (Nat.le_refl _) (Nat.le_refl _)).at k hkl
      subst ha
      have m1 : (0 : Int) ≤ (k : Int) := by omega
      have m2 : (k : Int) < (n : Int) := by omega
      have m3 : decide ((k : Int) < (n : Int)) = true := by simpa using hlt
      have HN1 := Lib.hid (show bl l[k] x = true → ∀ t (h : t < l.length), t < k + 1 → bl l[t] x = true from fun e t h ht => by
        by_cases he : t = k
        · subst he; exact e
        · exact HLO.out t h (by omega))
      have HN2 := Lib.hid (show bl l[k] x = false → ∀ h : k < l.length, bl l[k] x = false from fun e _ => e)
      obtain ⟨y, hy⟩ : ∃ y, y = l[k] := ⟨_, rfl⟩
      replace e0 := e0.trans (congrArg (fun z => some (Value.string z)) hy.symm)
      rw [← hy] at HN1
      have HY := Lib.hid hy
      clear hy
      cases hb : Op.bytesLess y.toList x.toList
      · have HF := Lib.hid (HN2.out (by rw [← HY.out]; exact hb))
        go_wp2
        go_ret
        exact ⟨k, rfl, by rw [← HNL.out]; exact hk, HLO.out, HF.out, HBK.out⟩
      · have HF := Lib.hid (HN1.out hb)
        go_wp2
        go_roundw
        case rel => exact ⟨k + 1, by omega, by go_num, HF.out, HBK.out⟩
        case measure => simp [intOf]; omega
    · have m3 : decide ((k : Int) < (n : Int)) = false := by simpa using hlt
      go_wp2
      go_ret
      exact ⟨k, rfl, by rw [← HNL.out]; exact hk, HLO.out, fun h => by rw [← HNL.out] at h; omega, HBK.out⟩

end Go.Proofs.YtcahpjejpimdhaaGreatDoor

namespace Go.Proofs.YtcahpjejpimdhaaGreatDoor
open Go.RowKit

theorem rises_pw {l : List ByteArray} : rises l = true ↔ l.Pairwise (fun a b => bl a b = true) := by
  constructor
  · intro h
    rw [List.pairwise_iff_getElem]
    exact fun i j hi hj hij => rises_lt h i j hi hj hij
  · intro h
    rw [List.pairwise_iff_getElem] at h
    exact rises_of fun i j hi hj hij => h i j hi hj hij
/-- A key more, at its place. -/
def insK (m : List Key2) (r : Nat) (x : Key2) : List Key2 := m.take r ++ [x] ++ m.drop r
theorem insK_perm (m : List Key2) (r : Nat) (x : Key2) : (insK m r x).Perm (m ++ [x]) := by
  unfold insK
  have h1 : (m.take r ++ [x] ++ m.drop r).Perm (m.take r ++ (m.drop r ++ [x])) := by
    rw [List.append_assoc]
    exact List.Perm.append_left _ List.perm_append_comm
  rw [← List.append_assoc, List.take_append_drop] at h1
  exact h1
theorem ids_ins (m : List Key2) (r : Nat) (x : Key2) : ids (insK m r x) = (ids m).take r ++ [id2 x] ++ (ids m).drop r := by
  unfold insK ids
  rw [List.map_append, List.map_append, List.map_take, List.map_drop]
  rfl
theorem objs_ins (m : List Key2) (r : Nat) (x : Key2) : (insK m r x).map obj2 = (m.map obj2).take r ++ [obj2 x] ++ (m.map obj2).drop r := by
  unfold insK
  rw [List.map_append, List.map_append, List.map_take, List.map_drop]
  rfl
/-- Where a text stands among rising ones, if it does. -/
theorem place_mem {l : List ByteArray} {x : ByteArray} {r : Nat} (hr : rises l = true) (hlo : ∀ t (h : t < l.length), t < r → bl l[t] x = true) (hhi : ∀ h : r < l.length, bl l[r] x = false) (hx : x ∈ l) : ∃ h : r < l.length, l[r] = x := by
  obtain ⟨j, hj, e⟩ := List.getElem_of_mem hx
  have h1 : r ≤ j := by
    rcases Nat.lt_or_ge j r with h | h
    · have := hlo j hj h
      rw [e, bl_irrefl] at this; cases this
    · exact h
  have hrl : r < l.length := by omega
  rcases Nat.lt_or_ge r j with h | h
  · have := rises_lt hr r j hrl hj h
    rw [e, hhi hrl] at this; cases this
  · obtain rfl : r = j := by omega
    exact ⟨hrl, e⟩
theorem rises_ins {l : List ByteArray} {x : ByteArray} {r : Nat} (hr : rises l = true) (hlo : ∀ t (h : t < l.length), t < r → bl l[t] x = true) (hhi : ∀ h : r < l.length, bl l[r] x = false) (hx : x ∉ l) : rises (l.take r ++ [x] ++ l.drop r) = true := by
  have hgt : ∀ t (h : t < l.length), r ≤ t → bl x l[t] = true := fun t h hrt => by
    have hrl : r < l.length := by omega
    have h0 : bl x l[r] = true := by
      cases hq : bl x l[r]
      · exact absurd (bl_tri hq (hhi hrl) ▸ List.getElem_mem hrl) hx
      · rfl
    rcases Nat.lt_or_ge r t with h' | h'
    · exact bl_trans h0 (rises_lt hr r t hrl h h')
    · obtain rfl : r = t := by omega
      exact h0
  rw [rises_pw] at hr ⊢
  have hsplit := hr
  rw [← List.take_append_drop r l, List.pairwise_append] at hsplit
  obtain ⟨p1, p2, p3⟩ := hsplit
  rw [List.append_assoc, List.pairwise_append]
  refine ⟨p1, ?_, ?_⟩
  · rw [List.singleton_append, List.pairwise_cons]
    refine ⟨fun y hy => ?_, p2⟩
    obtain ⟨j, hj, e⟩ := List.getElem_of_mem hy
    rw [List.getElem_drop] at e
    rw [← e]
    exact hgt _ _ (by omega)
  · intro a ha b hb
    rcases List.mem_append.1 hb with hb | hb
    · rw [List.mem_singleton] at hb
      subst hb
      obtain ⟨j, hj, e⟩ := List.getElem_of_mem ha
      rw [List.getElem_take] at e
      rw [← e]
      rw [List.length_take] at hj
      exact hlo j (by omega) (by omega)
    · exact p3 a ha b hb

theorem owns_cell {w : World} {base e size n cn : Nat} {an : Option Addr} {xs : List Value} (h : w.ownsRow base e size (.slice an n cn) n xs) (hn : 0 < n) : ∃ g, an = some ⟨g, 0, none⟩ ∧ n ≤ cn ∧ g < w.heap.size ∧ base ≤ g ∧ ∀ j u, xs[j]? = some u → w.cell? ⟨g, j, none⟩ = some u := by
  rcases h.2 with ⟨hv, h0⟩ | ⟨g, cap, cur, hv, hg, hh, hc, _⟩
  · omega
  · simp only [Value.slice.injEq, true_and] at hv
    obtain ⟨rfl, rfl⟩ := hv
    refine ⟨g, rfl, hc, heap_lt hh, hg, fun j u hu => ?_⟩
    have := h.cells (g := g) rfl j u hu
    rwa [show (⟨g, 0, none⟩ : Addr).add j = ⟨g, j, none⟩ by unfold Addr.add; split <;> simp_all] at this
theorem owns_cap {w : World} {base e size n cn : Nat} {an : Option Addr} {xs : List Value} (h : w.ownsRow base e size (.slice an n cn) n xs) : n ≤ cn := by
  rcases h.2 with ⟨hv, h0⟩ | ⟨g, cap, cur, hv, hg, hh, hc, _⟩
  · omega
  · simp only [Value.slice.injEq, true_and] at hv
    obtain ⟨rfl, rfl⟩ := hv
    exact hc
theorem add_none (g o j : Nat) : (⟨g, o, none⟩ : Addr).add j = ⟨g, o + j, none⟩ := by unfold Addr.add; split <;> simp_all
/-- The front of a row. -/
theorem src_front {w w' : World} {base e size n cn : Nat} {an : Option Addr} {xs : List Value} (h : w.ownsRow base e size (.slice an n cn) n xs) (r : Nat) (hr : r ≤ n) (hb : Below w.heap.size w w') :
    0 < r → ∃ ad, an = some ad ∧ ∀ j u, (xs.take (r * size))[j]? = some u → w'.cell? (ad.add j) = some u := fun h0 => by
  obtain ⟨g, rfl, hc, hg, _, hcell⟩ := owns_cell h (by omega)
  refine ⟨⟨g, 0, none⟩, rfl, fun j u hu => ?_⟩
  rw [add_none, Nat.zero_add, hb.cell hg]
  refine hcell j u ?_
  rw [List.getElem?_take] at hu
  split at hu
  · exact hu
  · cases hu
/-- The back of a row. -/
theorem src_back {w w' : World} {base e size n cn : Nat} {an : Option Addr} {xs : List Value} (h : w.ownsRow base e size (.slice an n cn) n xs) (r : Nat) (hr : r ≤ n) (hw : ∀ g, an = some ⟨g, 0, none⟩ → w'.heap[g]? = w.heap[g]?) (z : Nat) (hz : z = r * size) :
    0 < n - r → ∃ ad, (if cn = r then an else an.map (fun x => x.add z)) = some ad ∧ ∀ j u, (xs.drop (r * size))[j]? = some u → w'.cell? (ad.add j) = some u := fun h0 => by
  obtain ⟨g, rfl, hc, hg, _, hcell⟩ := owns_cell h (by omega)
  subst hz
  refine ⟨⟨g, r * size, none⟩, ?_, fun j u hu => ?_⟩
  · rw [if_neg (by omega)]
    simp [add_none]
  · rw [add_none, World.cell?_of_block (w := w) (hw g rfl)]
    refine hcell _ u ?_
    rw [List.getElem?_drop] at hu
    exact hu

end Go.Proofs.YtcahpjejpimdhaaGreatDoor

namespace Go.Proofs.YtcahpjejpimdhaaGreatDoor
open Go.RowKit

theorem RepRow.ins {w : World} {base : Nat} {X : Nat → Prop} {l : List JV} {cs : List Value} (h : RepRow w base X l cs) (r : Nat) (hr : r ≤ l.length) (v : JV) (lo hi : Nat) (an : Option Addr) (cn : Nat) (ai : Option Addr) (ci : Nat) (h1 : base ≤ lo) (h2 : hi ≤ w.heap.size) (h3 : ∀ b, X b → ¬ (lo ≤ b ∧ b < hi))
    (hrp : Rep w lo hi v (.agg #[.int .u8 v.kind, .int .i64 v.n, .string v.t, .slice an v.names.length cn, .slice ai v.items.length ci])) :
    RepRow w base X (l.take r ++ [v] ++ l.drop r) (cs.take (r * 5) ++ [.int .u8 v.kind, .int .i64 v.n, .string v.t, .slice an v.names.length cn, .slice ai v.items.length ci] ++ cs.drop (r * 5)) := by
  have hl := h.1
  have hlt : (cs.take (r * 5)).length = r * 5 := by rw [List.length_take]; omega
  refine ⟨by simp [hl]; omega, fun i hi' => ?_⟩
  have hil : i < l.length + 1 := by simp at hi'; omega
  have get : ∀ c, c < 5 → (cs.take (r * 5) ++ [.int .u8 v.kind, .int .i64 v.n, .string v.t, .slice an v.names.length cn, .slice ai v.items.length ci] ++ cs.drop (r * 5))[5 * i + c]? = if i < r then cs[5 * i + c]? else if i = r then [.int .u8 v.kind, .int .i64 v.n, .string v.t, .slice an v.names.length cn, .slice ai v.items.length ci][c]? else cs[5 * (i - 1) + c]? := fun c hc => by
    rw [List.append_assoc]
    by_cases e1 : i < r
    · rw [if_pos e1, List.getElem?_append_left (by rw [hlt]; omega), List.getElem?_take, if_pos (by omega)]
    · rw [if_neg e1, List.getElem?_append_right (by rw [hlt]; omega), hlt]
      by_cases e2 : i = r
      · rw [if_pos e2, List.getElem?_append_left (by simp; omega)]
        congr 1
        omega
      · rw [if_neg e2, List.getElem?_append_right (by simp; omega), List.getElem?_drop]
        congr 1
        simp
        omega
  by_cases e1 : i < r
  · obtain ⟨lo', hi'', an', cn', ai', ci', k1, k2, k3, e0, f1, f2, f3, f4, hr'⟩ := h.2 i (by omega)
    have ei : (l.take r ++ [v] ++ l.drop r)[i] = l[i]'(by omega) := by
      rw [List.getElem_append_left (by simp; omega), List.getElem_append_left (by simp; omega), List.getElem_take]
    rw [ei]
    have g0 := get 0 (by omega); have g1 := get 1 (by omega); have g2 := get 2 (by omega); have g3 := get 3 (by omega); have g4 := get 4 (by omega)
    rw [if_pos e1] at g0 g1 g2 g3 g4
    exact ⟨lo', hi'', an', cn', ai', ci', k1, k2, k3, g0.trans e0, g1.trans f1, g2.trans f2, g3.trans f3, g4.trans f4, hr'⟩
  · by_cases e2 : i = r
    · subst e2
      have ei : (l.take i ++ [v] ++ l.drop i)[i] = v := by
        rw [List.getElem_append_left (by simp; omega), List.getElem_append_right (by rw [List.length_take]; omega)]
        simp
      rw [ei]
      have g0 := get 0 (by omega); have g1 := get 1 (by omega); have g2 := get 2 (by omega); have g3 := get 3 (by omega); have g4 := get 4 (by omega)
      rw [if_neg e1, if_pos rfl] at g0 g1 g2 g3 g4
      exact ⟨lo, hi, an, cn, ai, ci, h1, h2, h3, g0, g1, g2, g3, g4, hrp⟩
    · obtain ⟨lo', hi'', an', cn', ai', ci', k1, k2, k3, e0, f1, f2, f3, f4, hr'⟩ := h.2 (i - 1) (by omega)
      have ei : (l.take r ++ [v] ++ l.drop r)[i] = l[i - 1]'(by omega) := by
        rw [List.getElem_append_right (by simp; omega), List.getElem_drop]
        congr 1
        simp
        omega
      rw [ei]
      have g0 := get 0 (by omega); have g1 := get 1 (by omega); have g2 := get 2 (by omega); have g3 := get 3 (by omega); have g4 := get 4 (by omega)
      rw [if_neg e1, if_neg e2] at g0 g1 g2 g3 g4
      exact ⟨lo', hi'', an', cn', ai', ci', k1, k2, k3, g0.trans e0, g1.trans f1, g2.trans f2, g3.trans f3, g4.trans f4, hr'⟩

theorem repRow_one {w : World} {base : Nat} {X : Nat → Prop} {l : List JV} {cs : List Value} (h : RepRow w base X l cs) : ∀ u ∈ cs, u.oneCell' = true := fun u hu => by
  obtain ⟨j, hj, e⟩ := List.getElem_of_mem hu
  have hl := h.1
  obtain ⟨lo, hi, an, cn, ai, ci, _, _, _, e0, e1, e2, e3, e4, _⟩ := h.2 (j / 5) (by omega)
  have hm : j % 5 < 5 := Nat.mod_lt _ (by decide)
  have hj2 : cs[j]? = some u := by rw [List.getElem?_eq_getElem hj, e]
  have hje : j = 5 * (j / 5) + j % 5 := by omega
  rw [hje] at hj2
  match hq : j % 5, hm with
  | 0, _ => rw [hq, Nat.add_zero, e0] at hj2; cases hj2; rfl
  | 1, _ => rw [hq, e1] at hj2; cases hj2; rfl
  | 2, _ => rw [hq, e2] at hj2; cases hj2; rfl
  | 3, _ => rw [hq, e3] at hj2; cases hj2; rfl
  | 4, _ => rw [hq, e4] at hj2; cases hj2; rfl

theorem ins_obj {W W3 w' : World} {cb T e1 e5 : Nat} {vn vi vn2 vi2 : Value} {ns : List ByteArray} {its : List JV} {cs : List Value} {x : ByteArray} {it : JV} {r lo hi cn ci : Nat} {an ai : Option Addr}
    (h : ObjAt W W3 cb T e1 e5 vn vi ns its cs) (ht : Touch (· = cb) W3 w') (hrow : w'.rowIs cb T 5 (pick5 (.int .u8 5) (.int .i64 0) (.string { data := #[] }) vn2 vi2))
    (hn : w'.ownsRow W3.heap.size e1 1 vn2 (ns.length + 1) ((ns.take r ++ [x] ++ ns.drop r).map .string))
    (hi2 : w'.ownsRow W3.heap.size e5 5 vi2 (its.length + 1) (cs.take (r * 5) ++ [.int .u8 it.kind, .int .i64 it.n, .string it.t, .slice an it.names.length cn, .slice ai it.items.length ci] ++ cs.drop (r * 5)))
    (hne : ∀ b, vn2.ownBlock = some b → vi2.ownBlock ≠ some b) (hr : r ≤ its.length) (hrn : r ≤ ns.length) (hlo : W.heap.size ≤ lo) (hhi : hi ≤ W3.heap.size) (hcb : cb < lo)
    (hvn : ∀ b, vn.ownBlock = some b → b < lo) (hvi : ∀ b, vi.ownBlock = some b → b < lo)
    (hrep : Rep W3 lo hi it (.agg #[.int .u8 it.kind, .int .i64 it.n, .string it.t, .slice an it.names.length cn, .slice ai it.items.length ci])) :
    ObjAt W w' cb T e1 e5 vn2 vi2 (ns.take r ++ [x] ++ ns.drop r) (its.take r ++ [it] ++ its.drop r) (cs.take (r * 5) ++ [.int .u8 it.kind, .int .i64 it.n, .string it.t, .slice an it.names.length cn, .slice ai it.items.length ci] ++ cs.drop (r * 5)) where
  lt := h.lt
  touch := h.touch.trans ht
  row := hrow
  names := by
    rw [show (ns.take r ++ [x] ++ ns.drop r).length = ns.length + 1 by simp; omega]
    exact owns_mono hn h.touch.size
  items := by
    rw [show (its.take r ++ [it] ++ its.drop r).length = its.length + 1 by simp; omega]
    exact owns_mono hi2 h.touch.size
  reps := by
    have := h.reps.ins r hr it lo hi an cn ai ci hlo hhi (fun b hb => by
      rcases hb with rfl | hb | hb
      · omega
      · have := hvn b hb; omega
      · have := hvi b hb; omega) hrep
    refine this.carry ht.size (Nat.le_refl _) (fun b hb hx => ht.block b hb fun e => hx (.inl e)) fun b hb => ?_
    rcases hb with rfl | hb | hb
    · exact .inl (.inl rfl)
    · exact .inr (hn.lt b hb).1
    · exact .inr (hi2.lt b hb).1
  ne := hne

theorem owns_grow {w w' : World} {base e size n : Nat} {v : Value} {xs : List Value} {row : Option Nat} (h : w.ownsRow base e size v n xs) (hg : w.grownBy w' row) (hne : ∀ b, v.ownBlock = some b → some b ≠ row) : w'.ownsRow base e size v n xs :=
  owns_of_block h fun b hb => hg.block b (h.lt b hb).2 (hne b hb)
theorem owns_set {w : World} {base e size n cb j : Nat} {v u : Value} {xs : List Value} (h : w.ownsRow base e size v n xs) (hcb : cb < base) : (w.setCell ⟨cb, j, none⟩ u).ownsRow base e size v n xs :=
  owns_of_block h fun b hb => Below.heap_setCell _ _ _ _ (fun (e : b = cb) => by have := (h.lt b hb).1; omega)
theorem set34 {W : World} {b t : Nat} {v0 v1 v2 x y : Value} (v3 v4 : Value) (h : W.rowIs b t 5 (pick5 v0 v1 v2 x y)) : ((W.setCell ⟨b, 3, none⟩ v3).setCell ⟨b, 4, none⟩ v4).rowIs b t 5 (pick5 v0 v1 v2 v3 v4) :=
  ((h.set 3 v3).set 4 v4).congr fun j hj => by
    rcases j with _ | _ | _ | _ | _ | j <;> first | rfl | omega
/-- .. the two stores. -/
theorem ins_done {W W3 wf : World} {cb T e1 e5 : Nat} {vn vi vn2 vi2 : Value} {ns : List ByteArray} {its : List JV} {cs : List Value} {x : ByteArray} {it : JV} {r lo hi cn ci : Nat} {an ai : Option Addr}
    (h : ObjAt W W3 cb T e1 e5 vn vi ns its cs) (hb : Below W3.heap.size W3 wf) (hcb3 : cb < W3.heap.size)
    (hn : wf.ownsRow W3.heap.size e1 1 vn2 (ns.length + 1) ((ns.take r ++ [x] ++ ns.drop r).map .string))
    (hi2 : wf.ownsRow W3.heap.size e5 5 vi2 (its.length + 1) (cs.take (r * 5) ++ [.int .u8 it.kind, .int .i64 it.n, .string it.t, .slice an it.names.length cn, .slice ai it.items.length ci] ++ cs.drop (r * 5)))
    (hne : ∀ b, vn2.ownBlock = some b → vi2.ownBlock ≠ some b) (hr : r ≤ its.length) (hrn : r ≤ ns.length) (hlo : W.heap.size ≤ lo) (hhi : hi ≤ W3.heap.size) (hcb : cb < lo)
    (hvn : ∀ b, vn.ownBlock = some b → b < lo) (hvi : ∀ b, vi.ownBlock = some b → b < lo)
    (hrep : Rep W3 lo hi it (.agg #[.int .u8 it.kind, .int .i64 it.n, .string it.t, .slice an it.names.length cn, .slice ai it.items.length ci])) :
    ObjAt W ((wf.setCell ⟨cb, 3, none⟩ vn2).setCell ⟨cb, 4, none⟩ vi2) cb T e1 e5 vn2 vi2 (ns.take r ++ [x] ++ ns.drop r) (its.take r ++ [it] ++ its.drop r) (cs.take (r * 5) ++ [.int .u8 it.kind, .int .i64 it.n, .string it.t, .slice an it.names.length cn, .slice ai it.items.length ci] ++ cs.drop (r * 5)) := by
  have t0 : Touch (· = cb) W3 wf := Touch.of_below hb (Nat.le_refl _)
  have t1 : Touch (· = cb) W3 (wf.setCell ⟨cb, 3, none⟩ vn2) := t0.setCell (.inl rfl) _
  have t2 : Touch (· = cb) W3 ((wf.setCell ⟨cb, 3, none⟩ vn2).setCell ⟨cb, 4, none⟩ vi2) := t1.setCell (.inl rfl) _
  exact ins_obj h t2 (set34 _ _ (below_row hb h.row hcb3)) (owns_set (owns_set hn hcb3) hcb3) (owns_set (owns_set hi2 hcb3) hcb3) hne hr hrn hlo hhi hcb hvn hvi hrep

end Go.Proofs.YtcahpjejpimdhaaGreatDoor

namespace Go.Proofs.YtcahpjejpimdhaaGreatDoor
open Go.RowKit

theorem kept_two {w w6 : World} {E X : Obj} (h : ((w.alloc E).alloc X).drew.grownBy w6 (some w.heap.size)) : w6.heap[w.heap.size + 1]? = some X :=
  (h.block (w.heap.size + 1) (show w.heap.size + 1 < ((w.alloc E).alloc X).heap.size by simp) (by simp)).trans (heap_two w E X)
theorem kept_old {w w6 : World} {E X : Obj} (h : ((w.alloc X).alloc E).drew.grownBy w6 (some (w.heap.size + 1))) : w6.heap[w.heap.size]? = some X :=
  (h.block w.heap.size (show w.heap.size < ((w.alloc X).alloc E).heap.size by simp; omega) (by simp)).trans (heap_old w X E)

set_option maxHeartbeats 4000000 in
set_option maxRecDepth 100000 in
theorem ref14Table (l : List Key2) (a : Option Addr) (c : Nat) (w : World) (hK : KeysAt w 0 w.heap.size a l) (hl : l.length ≤ 40) (hs : ∀ k ∈ l, k.1.size ≤ 300 ∧ k.2.size ≤ 300) :
    Calls Tryz.prog 33 #[.slice a l.length c] w (TabAny l w) := by
  have HK := Lib.hid hK
  have HS := Lib.hid hs
  clear hK hs
  have HR0 := Lib.hid (rowIs_box5 w (.int .u8 0) (.int .i64 0) (.string { data := #[] }) (.slice none 0 0) (.slice none 0 0) 29)
  have HB0 := Lib.hid (show Below w.heap.size w (w.alloc (.cells #[.int .u8 0, .int .i64 0, .string { data := #[] }, .slice none 0 0, .slice none 0 0] 29)) from (Below.refl _ _).alloc (Nat.le_refl _) _)
  have HNO := Lib.hid (show ∀ (E : Int) (w' : World), tabE l = E → E ≠ 0 → Below w.heap.size w w' → TabAny l w (.returned (.tuple #[.agg #[.int .u8 0, .int .i64 0, .string { data := #[] }, .slice none 0 0, .slice none 0 0], .int .i64 E])) w' from fun E w' he h0 hb =>
    ⟨zeroJ, fun h => absurd (he.symm.trans h) h0, fun _ => rfl, by decide, none, 0, none, 0, by rw [he]; rfl, rep_zeroJ _ _ _, hb⟩)
  obtain ⟨n, hn⟩ : ∃ n, n = l.length := ⟨_, rfl⟩
  have HN := Lib.hid hn
  rw [← hn]
  rw [← hn] at hl
  clear hn
  by_cases h32 : n ≤ 32
  case neg =>
    have h32' : decide (32 < n) = true := by simp; omega
    have h33' : decide (32 < (n : Int)) = true := by simp; omega
    have HE := Lib.hid (show tabE l = 5 by unfold tabE; rw [if_pos (by rw [← HN.out]; omega)])
    go_enter Tryz.func33, Tryz.ntmps33
    go_wp2
    refine bodyPost_ret (results_row_tmp Tryz.results33 _ _ w.heap.size 29 _ (0, 0) _ rfl (heap_alloc_new w _) Tryz.underlying29 rfl (by kernel_rfl) _ rfl) rfl (HNO.out 5 _ HE.out (by decide) HB0.out)
  have h32' : decide (32 < n) = false := by simp; omega
  have h33' : decide (32 < (n : Int)) = false := by simp; omega
  have HE := Lib.hid (show tabE l = tabErr [] l by unfold tabE; rw [if_neg (by rw [← HN.out]; omega)])
  obtain ⟨i1, hi1, hy0, hy1, hy2⟩ := info_parts infoValue
  obtain ⟨i2, hi2, hx0, hx1, hx2⟩ := info_parts infoStr
  go_enter Tryz.func33, Tryz.ntmps33
  go_wp2_with fail
  obtain ⟨w0, hw0⟩ : ∃ w0, w0 = w.alloc (.cells #[.int .u8 0, .int .i64 0, .string { data := #[] }, .slice none 0 0, .slice none 0 0] 29) := ⟨_, rfl⟩
  have hz0 : w0.heap.size = w.heap.size + 1 := by rw [hw0]; simp
  rw [← hw0] at HB0 HR0
  rw [← hw0, ← hz0]
  clear hw0
  have HO := Lib.hid (show ObjAt (w0.alloc (.cells #[.int .u8 5, .int .i64 0, .string { data := #[] }, .slice none 0 0, .slice none 0 0] 29)) (w0.alloc (.cells #[.int .u8 5, .int .i64 0, .string { data := #[] }, .slice none 0 0, .slice none 0 0] 29)) w0.heap.size 29 9 29 (.slice none 0 0) (.slice none 0 0) [] [] [] from
    ⟨by simp, Touch.refl _ _, rowIs_box5 _ _ _ _ _ _ _, World.ownsRow_nil _ _ _ _, World.ownsRow_nil _ _ _ _, RepRow.nil _ _ _, fun b hb => by simp [Value.ownBlock] at hb⟩)
  have HBW := Lib.hid (show Below w.heap.size w (w0.alloc (.cells #[.int .u8 5, .int .i64 0, .string { data := #[] }, .slice none 0 0, .slice none 0 0] 29)) from HB0.out.alloc HB0.out.size _)
  have HRW := Lib.hid (show (w0.alloc (.cells #[.int .u8 5, .int .i64 0, .string { data := #[] }, .slice none 0 0, .slice none 0 0] 29)).rowIs w.heap.size 29 5 (pick5 (.int .u8 0) (.int .i64 0) (.string { data := #[] }) (.slice none 0 0) (.slice none 0 0)) from HR0.out.alloc _)
  have hcb0 : w.heap.size < w0.heap.size := by omega
  clear HB0 HR0 hz0
  generalize (w0.alloc (.cells #[.int .u8 5, .int .i64 0, .string { data := #[] }, .slice none 0 0, .slice none 0 0] 29)) = W at HO HBW HRW ⊢
  generalize w0.heap.size = cb at HO hcb0 ⊢
  have HBT := Lib.hid (show ∀ w', Touch (· = cb) W w' → Below w.heap.size w w' from fun w' h => HBW.out.trans (h.below HBW.out.size fun j hj e => by omega))
  go_loopw [5, 6, 7, 8, 9, 10, 11, 12] (fun i _ _ _ _ _ _ _ wr => ∃ (k : Nat) (m : List Key2) (cs : List Value) (vn vi : Value), k ≤ n ∧ i = .int .i64 k ∧ m.Perm (l.take k) ∧ rises (ids m) = true ∧ tabErr [] l = tabErr (ids (l.take k)) (l.drop k) ∧ ObjAt W wr cb 29 9 29 vn vi (ids m) (m.map obj2) cs) (fun i _ _ _ _ _ _ _ _ => n - (intOf i).toNat)
  case atStart => exact ⟨0, [], [], .slice none 0 0, .slice none 0 0, by omega, rfl, by simp, rfl, by simp [ids], HO.out⟩
  case round =>
    obtain ⟨k, m, cs, vn, vi, hk, rfl, hpm, hrm, herr, hobj⟩ := hrel
    have HPM := Lib.hid hpm
    have HRM := Lib.hid hrm
    have HER := Lib.hid herr
    have HOB := Lib.hid hobj
    have hml : m.length ≤ 40 := by rw [hpm.length_eq, List.length_take]; omega
    have HMK := Lib.hid (show k ≤ n → m.length = k from fun h => by rw [hpm.length_eq, List.length_take, ← HN.out]; omega)
    clear hpm hrm herr hobj
    by_cases hlt : k < n
    · have hkl : k < l.length := by rw [← HN.out]; exact hlt
      have HBR := Lib.hid (HBT.out wr HOB.out.touch)
      obtain ⟨b, off, ha, _, hb, e0, e1⟩ := (HK.out.below HBR.out (Nat.le_refl _) (Nat.le_refl _) HBR.out.size).at k hkl
      subst ha
      obtain ⟨hs1, hs2⟩ := HS.out l[k] (List.getElem_mem hkl)
      have HST := Lib.hid (tabErr_step l k hkl)
      have HTK := Lib.hid (show l.take (k + 1) = l.take k ++ [l[k]] from List.take_succ_eq_append_getElem hkl)
      obtain ⟨x, hx⟩ : ∃ x, x = l[k] := ⟨_, rfl⟩
      replace e0 := e0.trans (congrArg (fun z : Key2 => some (Value.string z.1)) hx.symm)
      replace e1 := e1.trans (congrArg (fun z : Key2 => some (Value.string z.2)) hx.symm)
      rw [← hx] at hs1 hs2 HST HTK
      have HXK := Lib.hid hx
      clear hx
      obtain ⟨xs, xp⟩ := x
      replace hs1 : xs.size ≤ 300 := hs1
      replace hs2 : xp.size ≤ 300 := hs2
      replace e0 : wr.cell? ⟨b, off + k * 2, none⟩ = some (.string xs) := e0
      replace e1 : wr.cell? ⟨b, off + k * 2 + 1, none⟩ = some (.string xp) := e1
      have m1 : (0 : Int) ≤ (k : Int) := by omega
      have m2 : (k : Int) < (n : Int) := by omega
      have m3 : decide ((k : Int) < (n : Int)) = true := by simpa using hlt
      have HID := Lib.hid (ref14ID xs xp wr (by omega) (by omega))
      unfold KeyIdPost at HID
      cases hok : keyOk xs.data.toList xp.data.toList
      · rw [hok, if_neg (by simp)] at HID
        have HTE := Lib.hid (show tabE l = 3 by rw [HE.out, HER.out, HST.out]; unfold ok2; rw [if_neg (by simp [hok])])
        clear hok
        obtain ⟨ID, hID⟩ : ∃ ID : ByteArray, ID = ⟨(keyId xs.data.toList xp.data.toList).toArray⟩ := ⟨_, rfl⟩
        rw [← hID] at HID
        clear hID
        go_wp2_with fail
        refine HID.out.mono ?_
        clear HID
        rintro e w1 ⟨rfl, hb1⟩
        have HO1 := Lib.hid (HOB.out.below hb1)
        have hrow := HO1.out.touch.row HRW.out (by omega)
        have HRS := Lib.hid hrow
        have t0 := hrow.cell (i := 0) (by decide); have t1 := hrow.cell (i := 1) (by decide); have t2 := hrow.cell (i := 2) (by decide); have t3 := hrow.cell (i := 3) (by decide); have t4 := hrow.cell (i := 4) (by decide)
        have s0 := hrow.frozen 0; have s1 := hrow.frozen 1; have s2 := hrow.frozen 2; have s3 := hrow.frozen 3; have s4 := hrow.frozen 4
        simp only [pick5] at t0 t1 t2 t3 t4
        have HBE := Lib.hid (HBT.out w1 HO1.out.touch)
        clear hrow hb1
        go_wp2
        refine bodyPost_ret (results_row_tmp Tryz.results33 _ _ w.heap.size 29 _ (0, 0) _ rfl (row5_heap (set5 _ _ _ _ _ HRS.out)) Tryz.underlying29 rfl (by kernel_rfl) _ rfl) rfl (HNO.out 3 _ HTE.out (by decide) (below5 _ _ _ _ _ HBE.out (Nat.le_refl _)))
      rw [hok, if_pos rfl] at HID
      have HOK := Lib.hid hok
      clear hok
      obtain ⟨ID, hID⟩ : ∃ ID : ByteArray, ID = ⟨(keyId xs.data.toList xp.data.toList).toArray⟩ := ⟨_, rfl⟩
      rw [← hID] at HID
      have HIE := Lib.hid (show ID = id2 (xs, xp) from hID)
      clear hID
      go_wp2_with fail
      refine HID.out.mono ?_
      clear HID e0 e1
      rintro e w1 ⟨rfl, hb1⟩
      have HO1 := Lib.hid (HOB.out.below hb1)
      clear hb1 HOB HBR
      obtain ⟨an, cn, ai, ci, hvn, hvi, hrep⟩ := HO1.out.done
      obtain ⟨an', cn', ai', ci', hxx, _, _, hSN, _⟩ := hrep.parts
      replace hxx : Value.agg #[.int .u8 5, .int .i64 0, .string { data := #[] }, .slice an (ids m).length cn, .slice ai (m.map obj2).length ci] = .agg #[.int .u8 5, .int .i64 0, .string { data := #[] }, .slice an' (ids m).length cn', .slice ai' (m.map obj2).length ci'] := hxx
      simp only [Value.agg.injEq, Array.mk.injEq, List.cons.injEq, Value.slice.injEq, true_and, and_true] at hxx
      obtain ⟨⟨rfl, rfl⟩, rfl, rfl⟩ := hxx
      obtain ⟨ml, hml2⟩ : ∃ ml, ml = m.length := ⟨_, rfl⟩
      have hl1 : (ids m).length = ml := by unfold ids; rw [List.length_map, hml2]
      have hl2 : (m.map obj2).length = ml := by rw [List.length_map, hml2]
      have HPL := Lib.hid (ref14place (ids m) ID an cn w1 (hSN.carry (Nat.zero_le _) (Nat.le_refl _) (fun _ _ _ => rfl)) (by omega))
      rw [hl1] at HPL hvn
      rw [hl2] at hvi
      subst hvn
      subst hvi
      have HL1 := Lib.hid hl1
      have HL2 := Lib.hid hl2
      have HML := Lib.hid hml2
      have hmb : ml ≤ 40 := by omega
      have HSN := Lib.hid hSN
      unfold PlacePost at HPL
      have c3 : w1.cell? ⟨cb, 3, none⟩ = some (.slice an ml cn) := HO1.out.row.cell (by decide)
      clear hrep hSN hl1 hl2 hml2 hml
      go_wp2_with fail
      refine HPL.out.mono ?_
      clear HPL c3
      rintro e w2 ⟨r, rfl, hrl, hlo, hhi, hb2⟩
      rw [HL1.out] at hrl
      have HLO := Lib.hid hlo
      have HHI := Lib.hid hhi
      have HO2 := Lib.hid (HO1.out.below hb2)
      have HSN2 := Lib.hid (HSN.out.below hb2 (Nat.le_refl _) (Nat.le_refl _) (Nat.le_refl _))
      clear hlo hhi hb2 HO1 HSN
      have c3 : w2.cell? ⟨cb, 3, none⟩ = some (.slice an ml cn) := HO2.out.row.cell (by decide)
      have HHAS := Lib.hid (show hasId (ids (l.take k)) ID = true ↔ ∃ h : r < (ids m).length, (ids m)[r] = ID from by
        rw [hasId_iff]
        have hiff : ID ∈ ids (l.take k) ↔ ID ∈ ids m := by
          unfold ids
          exact ((HPM.out.map id2).mem_iff).symm
        rw [hiff]
        exact ⟨fun h => place_mem HRM.out HLO.out HHI.out h, fun ⟨h, e⟩ => e ▸ List.getElem_mem h⟩)
      have q0 : (0 : Int) ≤ (r : Int) := by omega
      go_upto_region 11 with fail
      go_cut [53] (fun s53 wx => s53 = .bool (hasId (ids (l.take k)) ID) ∧ wx = w2)
      case first =>
        by_cases hrm2 : r < ml
        · have hru : r < (ids m).length := by rw [HL1.out]; exact hrm2
          obtain ⟨pb, pf, ha, _, hpb, y1⟩ := HSN2.out.at r hru
          subst ha
          obtain ⟨y, hy⟩ : ∃ y, y = (ids m)[r] := ⟨_, rfl⟩
          replace y1 := y1.trans (congrArg (fun z => some (Value.string z)) hy.symm)
          have HQ := Lib.hid (show hasId (ids (l.take k)) ID = (y.toList == ID.toList) from by
            rw [Bool.eq_iff_iff, HHAS.out]
            constructor
            · rintro ⟨_, e⟩; rw [hy, e]; simp
            · intro e; exact ⟨hru, by rw [← hy]; exact ba_ext (eq_of_beq e)⟩)
          clear hy
          have q1 : (r : Int) < (ml : Int) := by omega
          have q2 : decide ((r : Int) < (ml : Int)) = true := by simpa using hrm2
          go_wp2_with fail
          go_meet
          exact ⟨by rw [HQ.out], rfl⟩
        · have q1 : ¬ (r : Int) < (ml : Int) := by omega
          have q2 : decide ((r : Int) < (ml : Int)) = false := by simpa using hrm2
          have HQ := Lib.hid (show hasId (ids (l.take k)) ID = false from by
            cases hq : hasId (ids (l.take k)) ID
            · rfl
            · obtain ⟨h, _⟩ := HHAS.out.1 hq
              rw [HL1.out] at h; omega)
          go_wp2_with fail
          go_meet
          exact ⟨by rw [HQ.out], rfl⟩
      case rest =>
        obtain ⟨hs53, hwc⟩ := hcut
        subst hs53
        subst hwc
        clear c3
        cases hhas : hasId (ids (l.take k)) ID
        case true =>
          have HTE := Lib.hid (show tabE l = 7 by rw [HE.out, HER.out, HST.out]; rw [if_pos (show ok2 (xs, xp) = true from HOK.out), ← HIE.out, if_pos hhas])
          have hrow := HO2.out.touch.row HRW.out (by omega)
          have HRS := Lib.hid hrow
          have t0 := hrow.cell (i := 0) (by decide); have t1 := hrow.cell (i := 1) (by decide); have t2 := hrow.cell (i := 2) (by decide); have t3 := hrow.cell (i := 3) (by decide); have t4 := hrow.cell (i := 4) (by decide)
          have s0 := hrow.frozen 0; have s1 := hrow.frozen 1; have s2 := hrow.frozen 2; have s3 := hrow.frozen 3; have s4 := hrow.frozen 4
          simp only [pick5] at t0 t1 t2 t3 t4
          have HBE := Lib.hid (HBT.out wc HO2.out.touch)
          clear hrow hhas
          go_wp2
          refine bodyPost_ret (results_row_tmp Tryz.results33 _ _ w.heap.size 29 _ (0, 0) _ rfl (row5_heap (set5 _ _ _ _ _ HRS.out)) Tryz.underlying29 rfl (by kernel_rfl) _ rfl) rfl (HNO.out 7 _ HTE.out (by decide) (below5 _ _ _ _ _ HBE.out (Nat.le_refl _)))
        have HNX := Lib.hid (show tabErr (ids (l.take k)) (l.drop k) = tabErr (ids (l.take (k + 1))) (l.drop (k + 1)) from by rw [HST.out, if_pos (show ok2 (xs, xp) = true from HOK.out), ← HIE.out, hhas]; rfl)
        have HNM := Lib.hid (show ID ∉ ids m from fun h => by
          have := HHAS.out.2 (place_mem HRM.out HLO.out HHI.out h)
          rw [hhas] at this; cases this)
        clear hhas
        have HBR := Lib.hid (HBT.out wc HO2.out.touch)
        obtain ⟨b', off', ha, _, hb', e0, e1⟩ := (HK.out.below HBR.out (Nat.le_refl _) (Nat.le_refl _) HBR.out.size).at k hkl
        simp only [Option.some.injEq, Addr.mk.injEq, and_true] at ha
        obtain ⟨rfl, rfl⟩ := ha
        replace e0 : wc.cell? ⟨b, off + k * 2, none⟩ = some (.string xs) := e0.trans (congrArg (fun z : Key2 => some (Value.string z.1)) HXK.out.symm)
        replace e1 : wc.cell? ⟨b, off + k * 2 + 1, none⟩ = some (.string xp) := e1.trans (congrArg (fun z : Key2 => some (Value.string z.2)) HXK.out.symm)
        have HVY := Lib.hid (ref14Value_yes xs xp wc (by omega) (by omega) HOK.out)
        unfold KeyValPost at HVY
        go_wp2_with fail
        refine HVY.out.mono ?_
        clear HVY e0 e1
        rintro e w3 ⟨qn, qc, qi, qd, rfl, hr3, hb3⟩
        obtain ⟨W3, hW3⟩ : ∃ W3, W3 = w3.alloc (.cells #[.int .u8 5, .int .i64 0, .string { data := #[] }, .slice qn 2 qc, .slice qi 2 qd] 29) := ⟨_, rfl⟩
        have hbW : Below wc.heap.size wc W3 := by rw [hW3]; exact below_now hb3
        have hz3 : wc.heap.size ≤ w3.heap.size := hb3.size
        have hzW : w3.heap.size + 1 ≤ W3.heap.size := by rw [hW3]; simp
        have hz3W : w3.heap.size ≤ W3.heap.size := by omega
        have HO3 := Lib.hid (HO2.out.below hbW)
        have HXB := Lib.hid (show W3.heap[w3.heap.size]? = some (.cells #[.int .u8 5, .int .i64 0, .string { data := #[] }, .slice qn 2 qc, .slice qi 2 qd] 29 (0, 0)) by rw [hW3]; exact heap_alloc_new w3 _)
        have HRX := Lib.hid (show Rep W3 wc.heap.size w3.heap.size (keyJ xs xp) (.agg #[.int .u8 5, .int .i64 0, .string { data := #[] }, .slice qn 2 qc, .slice qi 2 qd]) by
          rw [hW3]; exact Rep.carry (Nat.le_refl _) (Nat.le_refl _) (fun b _ h => Below.heap_alloc _ _ _ h) _ _ hr3)
        have hcbw : cb < wc.heap.size := HO2.out.row.lt
        have HVN := Lib.hid (show ∀ b, (Value.slice an ml cn).ownBlock = some b → b < wc.heap.size from fun b h => (HO2.out.names.lt b h).2)
        have HVI := Lib.hid (show ∀ b, (Value.slice ai ml ci).ownBlock = some b → b < wc.heap.size from fun b h => (HO2.out.items.lt b h).2)
        have hWz : W.heap.size ≤ wc.heap.size := HO2.out.touch.size
        have HW3 := Lib.hid hW3
        clear hr3 hb3 hW3 hbW HO2 HSN2 HBR
        have HNA := Lib.hid (show W3.ownsRow W.heap.size 9 1 (.slice an ml cn) ml ((ids m).map .string) by have := HO3.out.names; rwa [HL1.out] at this)
        have HIA := Lib.hid (show W3.ownsRow W.heap.size 29 5 (.slice ai ml ci) ml cs by have := HO3.out.items; rwa [HL2.out] at this)
        have hcn : ml ≤ cn := owns_cap HNA.out
        have hci : ml ≤ ci := owns_cap HIA.out
        have q3 : (r : Int) ≤ (cn : Int) := by omega
        have q4 : (r : Int) ≤ (ci : Int) := by omega
        have q5 : (r : Int) ≤ (ml : Int) := by omega
        have q6 : (r : Int).toNat = r := by omega
        have hcb3 : cb < W3.heap.size := by omega
        have hcb3' : ¬ cb = W3.heap.size := by omega
        have c3 : W3.cell? ⟨cb, 3, none⟩ = some (.slice an ml cn) := HO3.out.row.cell (by decide)
        go_upto_region 14 with fail
        rw [← HW3.out]
        clear HW3
        have HON := Lib.hid (show ∀ u ∈ ((ids m).map Value.string).take (r * 1), u.oneCell' = true from fun u hu => by
          obtain ⟨s, _, rfl⟩ := List.mem_map.1 (List.mem_of_mem_take hu); rfl)
        go_cut [11] (fun s11 wx => ∃ a5 c5, s11 = .slice a5 (r + 1) c5 ∧ wx.ownsRow W3.heap.size 9 1 (.slice a5 (r + 1) c5) (r + 1) (((ids m).map Value.string).take (r * 1) ++ [.string ID]) ∧ Below W3.heap.size W3 wx)
        case first =>
          have c3' : (W3.alloc (.cells #[] 9)).cell? ⟨cb, 3, none⟩ = some (.slice an ml cn) := (cell_alloc_lt _ hcb3).trans (HO3.out.row.cell (by decide))
          go_wp2_with (first | (at_builtin; refine wpList_append_any _ rfl (.tmp 63) (.tmp 67) 26 rfl W3.heap.size 9 i2 _ 1 16 Tryz.underlying26 hi2 hx0 hx1 hx2 rfl (by decide) (.slice (some ⟨W3.heap.size, 0, none⟩) 0 0) 0 [] rfl (World.ownsRow_lit W3 #[] 0 (Nat.le_refl _) (by unfold maxLen; omega) rfl) _ r cn (((ids m).map Value.string).take (r * 1)) rfl (by rw [List.length_take, List.length_map, HL1.out]; omega) (src_front HNA.out r hrl ((Below.refl _ _).alloc (Nat.le_refl _) _)) HON.out (by unfold maxLen; omega) (by omega) (by simp) (W3.heap.size + 1) (by simp) ?_; intro a4 c4' w4 hown4 hgrow4 hat4; rw [Nat.zero_add] at hown4 ⊢; have HO4 := Lib.hid hown4; have HB4 := Lib.hid (below_grown ((Below.refl W3.heap.size W3).alloc (Nat.le_refl _) _) (by simp) hgrow4 (fun b hb => by simp [Value.ownBlock] at hb; omega)); have hz4 : W3.heap.size + 1 ≤ w4.heap.size := (by have := hgrow4.size; simpa using this); clear hown4 hgrow4 hat4) | (at_builtin; refine wpList_append_any _ rfl (.tmp 68) (.tmp 70) 26 rfl W3.heap.size 9 i2 _ 1 16 Tryz.underlying26 hi2 hx0 hx1 hx2 rfl (by decide) (.slice a4 r c4') r ([] ++ ((ids m).map Value.string).take (r * 1)) rfl (HO4.out.alloc _) (some ⟨w4.heap.size, 0, none⟩) 1 1 [.string ID] rfl rfl (fun _ => ⟨_, rfl, World.news_of_block (cs := #[.string ID]) (t := 9) (fr := (0, 0)) (heap_alloc_new w4 _)⟩) (by simp [Value.oneCell']) (by unfold maxLen; omega) (by omega) (by simp; omega) (w4.heap.size + 1) (by simp) ?_; intro a5 c5 w5 hown5 hgrow5 hat5; have HO5 := Lib.hid hown5; have HB5 := Lib.hid (below_grown (HB4.out.alloc (by omega) _) (by simp; omega) hgrow5 (fun b hb => (HO4.out.lt b hb).1)); clear hown5 hgrow5 hat5))
          go_meet
          exact ⟨a5, c5, rfl, HO5.out, HB5.out⟩
        case rest =>
          obtain ⟨a5, c5, hs11, hown5, hb5⟩ := hcut
          subst hs11
          obtain ⟨w5, hw5⟩ : ∃ w5, w5 = wc := ⟨_, rfl⟩
          rw [← hw5] at hown5 hb5
          rw [← hw5]
          clear hw5
          have HN5 := Lib.hid hown5
          have HB5 := Lib.hid hb5
          have hz5 : W3.heap.size ≤ w5.heap.size := hb5.size
          clear hown5 hb5 c3 HON
          have HI5 := Lib.hid (owns_below HIA.out HB5.out)
          have hcb5 : cb < w5.heap.size := by omega
          have hcb5' : ¬ cb = w5.heap.size := by omega
          have hcb5'' : ¬ cb = w5.heap.size + 1 := by omega
          have hxb5 : w3.heap.size < w5.heap.size := by omega
          have hxb5' : ¬ w3.heap.size = w5.heap.size := by omega
          have c4 : w5.cell? ⟨cb, 4, none⟩ = some (.slice ai ml ci) := by rw [HB5.out.cell hcb3]; exact HO3.out.row.cell (by decide)
          obtain ⟨d0, d1, d2, d3, d4⟩ := kcells5 HXB.out HB5.out
          have HX5 := Lib.hid (kept_blk HB5.out HXB.out)
          have HOI := Lib.hid (show ∀ u ∈ cs, u.oneCell' = true from fun u hu => repRow_one HO3.out.reps u hu)
          have hcsl : cs.length = 5 * ml := by have := HO3.out.reps.1; rw [HL2.out] at this; exact this
          have HCL := Lib.hid hcsl
          have HNW := Lib.hid (show ∀ (X : World) (g : Nat), X.heap[g]? = some (.cells #[.int .u8 5, .int .i64 0, .string { data := #[] }, .slice qn 2 qc, .slice qi 2 qd] 29 (0, 0)) → 0 < 1 → ∃ ad, (some (⟨g, 0, none⟩ : Addr)) = some ad ∧ ∀ j u, (Array.toList #[.int .u8 5, .int .i64 0, .string { data := #[] }, .slice qn 2 qc, .slice qi 2 qd])[j]? = some u → X.cell? (ad.add j) = some u from fun X g h _ => ⟨_, rfl, World.news_of_block h⟩)
          clear hcsl
          go_upto_region 15 with fail
          go_cut [12] (fun s12 wx => ∃ a7 c7, s12 = .slice a7 (r + 1) c7 ∧ wx.ownsRow w5.heap.size 29 5 (.slice a7 (r + 1) c7) (r + 1) (cs.take (r * 5) ++ [.int .u8 5, .int .i64 0, .string { data := #[] }, .slice qn 2 qc, .slice qi 2 qd]) ∧ Below w5.heap.size w5 wx)
          case first =>
            have HE1 := Lib.hid (show (w5.drew.alloc (.cells #[] 29)).ownsRow w5.heap.size 29 5 (.slice (some ⟨w5.heap.size, 0, none⟩) 0 0) 0 [] from World.ownsRow_lit w5.drew #[] 0 (Nat.le_refl _) (by unfold maxLen; omega) rfl)
            have HE2 := Lib.hid (show ∀ X : Obj, ((w5.drew.alloc X).alloc (.cells #[] 29)).ownsRow w5.heap.size 29 5 (.slice (some ⟨w5.heap.size + 1, 0, none⟩) 0 0) 0 [] from fun X => by
              have := World.ownsRow_lit (base := w5.heap.size) (e := 29) (size := 5) (w5.drew.alloc X) #[] 0 (by simp) (by unfold maxLen; omega) rfl
              rwa [show (w5.drew.alloc X).heap.size = w5.heap.size + 1 by simp] at this)
            go_region_law (first | (refine step_append_any _ (by rfl) (.tmp 72) (.tmp 76) 27 (by rfl) w5.heap.size 29 i1 _ 5 80 Tryz.underlying27 hi1 hy0 hy1 hy2 rfl (by decide) (.slice (some ⟨w5.heap.size, 0, none⟩) 0 0) 0 [] (by rfl) (by first | exact HE1.out | exact HE2.out _ | exact HE1.out.alloc _) _ r ci (cs.take (r * 5)) (by rfl) (by rw [List.length_take, HCL.out]; omega) (src_front HI5.out r hrl (by first | exact (Below.refl _ _).drew.alloc (Nat.le_refl _) _ | exact ((Below.refl _ _).drew.alloc (Nat.le_refl _) _).alloc (by simp) _)) (fun u hu => HOI.out u (List.mem_of_mem_take hu)) (by unfold maxLen; omega) (by omega) (by first | omega | (simp <;> omega)) _ rfl ?_; go_loud (intro a6 c6 w6 hown6 hgrow6 hat6; rw [Nat.zero_add] at hown6 ⊢; have HO6 := Lib.hid hown6; have HB6 := Lib.hid (below_grown (B := w5.heap.size) (W := w5) (by first | exact (Below.refl _ _).drew.alloc (Nat.le_refl _) _ | exact ((Below.refl _ _).drew.alloc (Nat.le_refl _) _).alloc (by simp) _) (by first | omega | (simp <;> omega)) hgrow6 (fun b hb => by simp [Value.ownBlock] at hb; omega)); have hz6 : w5.heap.size ≤ w6.heap.size := HB6.out.size; obtain ⟨f0, f1, f2, f3, f4⟩ := kcells5 HX5.out HB6.out; (first | (have HI := Lib.hid (kept_two hgrow6)) | skip); clear hown6 hgrow6 hat6)) | (refine step_append_any _ (by rfl) (.tmp 72) (.tmp 76) 27 (by rfl) w5.heap.size 29 i1 _ 5 80 Tryz.underlying27 hi1 hy0 hy1 hy2 rfl (by decide) (.slice (some ⟨w5.heap.size + 1, 0, none⟩) 0 0) 0 [] (by rfl) (by first | exact HE1.out | exact HE2.out _ | exact HE1.out.alloc _) _ r ci (cs.take (r * 5)) (by rfl) (by rw [List.length_take, HCL.out]; omega) (src_front HI5.out r hrl (by first | exact (Below.refl _ _).drew.alloc (Nat.le_refl _) _ | exact ((Below.refl _ _).drew.alloc (Nat.le_refl _) _).alloc (by simp) _)) (fun u hu => HOI.out u (List.mem_of_mem_take hu)) (by unfold maxLen; omega) (by omega) (by first | omega | (simp <;> omega)) _ rfl ?_; go_loud (intro a6 c6 w6 hown6 hgrow6 hat6; rw [Nat.zero_add] at hown6 ⊢; have HO6 := Lib.hid hown6; have HB6 := Lib.hid (below_grown (B := w5.heap.size) (W := w5) (by first | exact (Below.refl _ _).drew.alloc (Nat.le_refl _) _ | exact ((Below.refl _ _).drew.alloc (Nat.le_refl _) _).alloc (by simp) _) (by first | omega | (simp <;> omega)) hgrow6 (fun b hb => by simp [Value.ownBlock] at hb; omega)); have hz6 : w5.heap.size ≤ w6.heap.size := HB6.out.size; obtain ⟨f0, f1, f2, f3, f4⟩ := kcells5 HX5.out HB6.out; have HI := Lib.hid (kept_old hgrow6); clear hown6 hgrow6 hat6)) | (refine step_append_any _ (by rfl) (.tmp 77) (.tmp 79) 27 (by rfl) w5.heap.size 29 i1 _ 5 80 Tryz.underlying27 hi1 hy0 hy1 hy2 rfl (by decide) (.slice a6 r c6) r ([] ++ cs.take (r * 5)) (by rfl) (by first | exact HO6.out.alloc _ | exact HO6.out) _ 1 1 (Array.toList #[.int .u8 5, .int .i64 0, .string { data := #[] }, .slice qn 2 qc, .slice qi 2 qd]) (by rfl) (by rfl) (by first | exact HNW.out _ _ (heap_alloc_new _ _) | exact HNW.out _ _ HI.out) (by simp [Value.oneCell']) (by unfold maxLen; omega) (by omega) (by first | omega | (simp <;> omega)) _ rfl ?_; go_loud (intro a7 c7 w7 hown7 hgrow7 hat7; have HO7 := Lib.hid hown7; have HB7 := Lib.hid (below_grown (B := w5.heap.size) (W := w5) (by first | exact HB6.out.alloc hz6 _ | exact HB6.out) (by first | omega | (simp <;> omega)) hgrow7 (fun b hb => (HO6.out.lt b hb).1)); clear hown7 hgrow7 hat7)))
            all_goals
              go_wp2_with fail
              go_meet
              exact ⟨a7, c7, rfl, HO7.out, HB7.out⟩
          case rest =>
            obtain ⟨a7, c7, hs12, hown7, hb7⟩ := hcut
            subst hs12
            obtain ⟨w8, hw8⟩ : ∃ w8, w8 = wc := ⟨_, rfl⟩
            rw [← hw8] at hown7 hb7
            rw [← hw8]
            clear hw8 c4 d0 d1 d2 d3 d4 HNW HX5 HXB
            have HI8 := Lib.hid hown7
            have HB8 := Lib.hid hb7
            have hz8 : w5.heap.size ≤ w8.heap.size := hb7.size
            have HN8 := Lib.hid (owns_below HN5.out hb7)
            have HW8 := Lib.hid (HB5.out.trans (hb7.mono HB5.out.size))
            clear hown7 hb7 HI5
            have HNK5 := Lib.hid (show ∀ b, (Value.slice a5 (r + 1) c5).ownBlock = some b → W3.heap.size ≤ b ∧ b < w5.heap.size from fun b hb => HN5.out.lt b hb)
            have HIK7 := Lib.hid (show ∀ b, (Value.slice a7 (r + 1) c7).ownBlock = some b → w5.heap.size ≤ b ∧ b < w8.heap.size from fun b hb => HI8.out.lt b hb)
            have HSN := Lib.hid (show ∀ X : World, Below W3.heap.size W3 X → 0 < ml - r → ∃ ad, (if cn = r then an else an.map (fun x => x.add r)) = some ad ∧ ∀ j u, (((ids m).map Value.string).drop (r * 1))[j]? = some u → X.cell? (ad.add j) = some u from fun X hX => src_back HNA.out r hrl (fun g hg => hX.block g (by have := HVN.out g (by rw [hg]; rfl); omega)) r (by omega))
            have HSI := Lib.hid (show ∀ X : World, Below W3.heap.size W3 X → 0 < ml - r → ∃ ad, (if ci = r then ai else ai.map (fun x => x.add (r * 5))) = some ad ∧ ∀ j u, (cs.drop (r * 5))[j]? = some u → X.cell? (ad.add j) = some u from fun X hX => src_back HIA.out r hrl (fun g hg => hX.block g (by have := HVI.out g (by rw [hg]; rfl); omega)) (r * 5) rfl)
            have HON := Lib.hid (show ∀ u ∈ ((ids m).map Value.string).drop (r * 1), u.oneCell' = true from fun u hu => by
              obtain ⟨s, _, rfl⟩ := List.mem_map.1 (List.mem_of_mem_drop hu); rfl)
            have hsum : r + 1 + (ml - r) = ml + 1 := by omega
            have HSUM := Lib.hid hsum
            clear hsum
            have hcb8 : cb < w8.heap.size := by omega
            have c3 : w8.cell? ⟨cb, 3, none⟩ = some (.slice an ml cn) := by rw [HW8.out.cell hcb3]; exact HO3.out.row.cell (by decide)
            have c4 : w8.cell? ⟨cb, 4, none⟩ = some (.slice ai ml ci) := by rw [HW8.out.cell hcb3]; exact HO3.out.row.cell (by decide)
            have HC3 := Lib.hid (show ∀ X : World, Below W3.heap.size W3 X → X.cell? ⟨cb, 3, none⟩ = some (.slice an ml cn) ∧ X.cell? ⟨cb, 4, none⟩ = some (.slice ai ml ci) ∧ X.frozen? ⟨cb, 3, none⟩ = false ∧ X.frozen? ⟨cb, 4, none⟩ = false from fun X hX => ⟨by rw [hX.cell hcb3]; exact HO3.out.row.cell (by decide), by rw [hX.cell hcb3]; exact HO3.out.row.cell (by decide), by rw [hX.frozen hcb3]; exact HO3.out.row.frozen 3, by rw [hX.frozen hcb3]; exact HO3.out.row.frozen 4⟩)
            go_wp2_with fail
            go_region_law (first | (refine step_append_any _ (by rfl) (.tmp 81) (.tmp 85) 26 (by rfl) W3.heap.size 9 i2 _ 1 16 Tryz.underlying26 hi2 hx0 hx1 hx2 rfl (by decide) (.slice a5 (r + 1) c5) (r + 1) (((ids m).map Value.string).take (r * 1) ++ [.string ID]) (by rfl) (by first | exact HNK.out | exact HN8.out) _ (ml - r) (cn - r) (((ids m).map Value.string).drop (r * 1)) (by rfl) (by rw [List.length_drop, List.length_map, HL1.out]; omega) (by first | exact HSN.out _ HBI.out | exact HSN.out _ HW8.out.drew) HON.out (by unfold maxLen; omega) (by omega) (by first | omega | (simp <;> omega)) _ rfl ?_; go_loud (intro aN cN wN hownN hgrowN hatN; rw [HSUM.out] at hownN hatN ⊢; have HND := Lib.hid hownN; have HAN := Lib.hid hatN; have HBN := Lib.hid (below_grown (B := W3.heap.size) (W := W3) (by first | exact HBI.out | exact HW8.out.drew) (by first | omega | (simp <;> omega)) hgrowN (fun b hb => (HNK5.out b hb).1)); (first | (have HIK := Lib.hid (owns_grow HID2.out hgrowN (fun b hb e => by have := (HID2.out.lt b hb).1; have := (HNK5.out b e.symm).2; omega))) | (have HIK := Lib.hid (owns_grow (w := w8.drew) HI8.out hgrowN (fun b hb e => by have := (HIK7.out b hb).1; have := (HNK5.out b e.symm).2; omega)))); obtain ⟨k3, k4, l3, l4⟩ := HC3.out wN HBN.out; have hzN : w8.heap.size ≤ wN.heap.size := (by have := hgrowN.size; first | exact this | (exact Nat.le_trans hzI this)); clear hownN hgrowN hatN)) | (refine step_append_any _ (by rfl) (.tmp 87) (.tmp 91) 27 (by rfl) w5.heap.size 29 i1 _ 5 80 Tryz.underlying27 hi1 hy0 hy1 hy2 rfl (by decide) (.slice a7 (r + 1) c7) (r + 1) (cs.take (r * 5) ++ [.int .u8 5, .int .i64 0, .string { data := #[] }, .slice qn 2 qc, .slice qi 2 qd]) (by rfl) (by first | exact HIK.out | exact HI8.out) _ (ml - r) (ci - r) (cs.drop (r * 5)) (by rfl) (by rw [List.length_drop, HCL.out]; omega) (by first | exact HSI.out _ HBN.out | exact HSI.out _ HW8.out.drew) (fun u hu => HOI.out u (List.mem_of_mem_drop hu)) (by unfold maxLen; omega) (by omega) (by first | omega | (simp <;> omega)) _ rfl ?_; go_loud (intro aI cI wI hownI hgrowI hatI; rw [HSUM.out] at hownI hatI ⊢; have HID2 := Lib.hid hownI; have HAI := Lib.hid hatI; have HBI := Lib.hid (below_grown (B := W3.heap.size) (W := W3) (by first | exact HBN.out | exact HW8.out.drew) (by first | omega | (simp <;> omega)) hgrowI (fun b hb => by have := (HIK7.out b hb).1; omega)); (first | (have HNK := Lib.hid (owns_grow HND.out hgrowI (fun b hb e => by have h1 := HIK7.out b e.symm; rcases HAN.out with h | h; (rw [hb] at h; have := HNK5.out b h.symm; omega); (rw [hb] at h; have h2 := Option.some.inj h; have h3 : b = w8.heap.size := h2; omega)))) | (have HNK := Lib.hid (owns_grow (w := w8.drew) HN8.out hgrowI (fun b hb e => by have := (HNK5.out b hb).2; have := (HIK7.out b e.symm).1; omega)))); obtain ⟨k3, k4, l3, l4⟩ := HC3.out wI HBI.out; have hzI : w8.heap.size ≤ wI.heap.size := (by have := hgrowI.size; first | exact this | (exact Nat.le_trans hzN this)); clear hownI hgrowI hatI)))
            all_goals
              have HNE := Lib.hid (show ∀ b, (Value.slice aN (ml + 1) cN).ownBlock = some b → (Value.slice aI (ml + 1) cI).ownBlock ≠ some b from fun b hb hb' => by
                have q1 := (HND.out.lt b hb).2
                rcases HAI.out with e | e
                · have q2 := HIK7.out b (by rw [← e]; exact hb')
                  rcases HAN.out with f | f
                  · have q3 := HNK5.out b (by rw [← f]; exact hb)
                    omega
                  · have q4 : b = _ := Option.some.inj (hb.symm.trans f)
                    have q5 : b < w8.heap.size := q2.2
                    rw [q4] at q5
                    simp at q5
                · have q4 : b = _ := Option.some.inj (hb'.symm.trans e)
                  rw [q4] at q1
                  simp at q1)
              go_wp2_with fail
              go_roundw
              case rel =>
                have hl1 : (ids m).length = ml := HL1.out
                have hl2 : (m.map obj2).length = ml := HL2.out
                refine ⟨k + 1, insK m r (xs, xp), cs.take (r * 5) ++ [.int .u8 5, .int .i64 0, .string { data := #[] }, .slice qn 2 qc, .slice qi 2 qd] ++ cs.drop (r * 5), .slice aN (ml + 1) cN, .slice aI (ml + 1) cI, by omega, by go_num, ?_, ?_, HER.out.trans HNX.out, ?_⟩
                · rw [HTK.out]
                  exact (insK_perm _ _ _).trans (HPM.out.append_right _)
                · rw [ids_ins, ← HIE.out]
                  exact rises_ins HRM.out HLO.out HHI.out HNM.out
                · rw [ids_ins, objs_ins, ← HIE.out]
                  refine ins_done (it := keyJ xs xp) HO3.out HBI.out hcb3 ?_ ?_ HNE.out (by omega) (by omega) hWz hz3W hcbw HVN.out HVI.out HRX.out
                  · rw [hl1, List.map_append, List.map_append, List.map_take, List.map_drop]
                    have := HNK.out
                    rwa [Nat.mul_one] at this
                  · rw [hl2]
                    exact owns_mono (base' := W3.heap.size) HID2.out hz5
              case measure => simp [intOf]; omega
    · obtain rfl : k = n := by omega
      have hlk : l.take k = l := List.take_of_length_le (by rw [← HN.out]; exact Nat.le_refl _)
      have HTE := Lib.hid (show tabE l = 0 by
        rw [HE.out, HER.out, List.drop_of_length_le (by rw [← HN.out]; exact Nat.le_refl _)]; rfl)
      rw [hlk] at HPM
      have HMK2 := Lib.hid (HMK.out (Nat.le_refl _))
      clear hlk
      have HWJ := Lib.hid (show (tabJ m).wt ≤ 4294967296 by
        have := tabJ_wt (m := m) (fun q hq => HS.out q (HPM.out.subset hq))
        omega)
      have HLN := Lib.hid (show (ids m).length = m.length by simp [ids])
      have HLI := Lib.hid (show (m.map obj2).length = m.length by simp)
      obtain ⟨an, cn, ai, ci, rfl, rfl, hrep⟩ := HOB.out.done
      obtain ⟨ml, hml2⟩ : ∃ ml, ml = m.length := ⟨_, rfl⟩
      rw [← hml2] at HLN HLI
      have HRP := Lib.hid hrep
      have hrow := HOB.out.row
      have hres := HOB.out.touch.row HRW.out (by omega)
      rw [HLN.out, HLI.out] at hrow
      have r0 := hrow.cell (i := 0) (by decide); have r1 := hrow.cell (i := 1) (by decide); have r2 := hrow.cell (i := 2) (by decide); have r3 := hrow.cell (i := 3) (by decide); have r4 := hrow.cell (i := 4) (by decide)
      have t0 := hres.cell (i := 0) (by decide); have t1 := hres.cell (i := 1) (by decide); have t2 := hres.cell (i := 2) (by decide); have t3 := hres.cell (i := 3) (by decide); have t4 := hres.cell (i := 4) (by decide)
      have s0 := hres.frozen 0; have s1 := hres.frozen 1; have s2 := hres.frozen 2; have s3 := hres.frozen 3; have s4 := hres.frozen 4
      simp only [pick5] at r0 r1 r2 r3 r4 t0 t1 t2 t3 t4
      have HRS := Lib.hid hres
      have HBR := Lib.hid (HBT.out wr HOB.out.touch)
      have HWZ := Lib.hid (show w.heap.size < W.heap.size by have := HOB.out.lt; omega)
      have m3 : decide ((k : Int) < (k : Int)) = false := by simp
      clear hrow hres hrep HOB hml2 hml HMK2 HMK
      go_wp2
      refine bodyPost_ret (results_row_tmp Tryz.results33 _ _ w.heap.size 29 _ (0, 0) _ rfl (row5_heap (set5 _ _ _ _ _ HRS.out)) Tryz.underlying29 rfl (by kernel_rfl) _ rfl) rfl
        ⟨tabJ m, fun _ => ⟨m, HPM.out, HRM.out, rfl⟩, fun h => absurd HTE.out h, HWJ.out, an, cn, ai, ci, ?_, ?_, below5 _ _ _ _ _ HBR.out (Nat.le_refl _)⟩
      · rw [HTE.out]
        show _ = Ending.returned (.tuple #[.agg #[.int .u8 5, .int .i64 0, .string { data := #[] }, .slice an (ids m).length cn, .slice ai (m.map obj2).length ci], .int .i64 0])
        rw [HLN.out, HLI.out]; rfl
      · exact Rep.carry (Nat.le_of_lt HWZ.out) (show wr.heap.size ≤ _ by simp [World.setCell]) (fun j hj _ => heap5 _ _ _ _ _ (by have := HWZ.out; omega)) _ _ HRP.out

end Go.Proofs.YtcahpjejpimdhaaGreatDoor

namespace Go.Proofs.YtcahpjejpimdhaaGreatDoor
open Go.RowKit

theorem keyOfJ_ok {v : JV} (h : (keyOfJ v).2 = 0) : keyOk (keyOfJ v).1.1.data.toList (keyOfJ v).1.2.data.toList = true ∧ (keyOfJ v).1.1.size ≤ 64 ∧ (keyOfJ v).1.2.size ≤ 128 := by
  have h2 : keyOk (keyOfJ v).1.1.data.toList (keyOfJ v).1.2.data.toList = true := by
    unfold keyOfJ at h ⊢
    split at h
    · cases h
    next c1 =>
    rw [if_neg c1]
    split at h
    · cases h
    next c2 =>
    rw [if_neg c2]
    split at h
    · next c3 => exact absurd h c3
    next c3 =>
    rw [if_neg c3]
    split at h
    · next c4 => rw [if_pos c4]; exact c4
    · cases h
  obtain ⟨_, _, a, b⟩ := key_txt h2
  exact ⟨h2, a, b⟩
/-- The keys of a table's entries; or why there are none. -/
def keysL : List ByteArray → List JV → List Key2 → List Key2 × Int
  | id :: ns, it :: its, acc => if (keyOfJ it).2 ≠ 0 then ([], (keyOfJ it).2) else if (idOf (keyOfJ it).1.1 (keyOfJ it).1.2).toList == id.toList then keysL ns its (acc ++ [(keyOfJ it).1]) else ([], 3)
  | _, _, acc => (acc, 0)
def stepL (r : Key2 × Int) (id : ByteArray) (ns : List ByteArray) (its : List JV) (acc : List Key2) : List Key2 × Int :=
  if r.2 ≠ 0 then ([], r.2) else if (idOf r.1.1 r.1.2).toList == id.toList then keysL ns its (acc ++ [r.1]) else ([], 3)
theorem keysL_nil (its : List JV) (acc : List Key2) : keysL [] its acc = (acc, 0) := by
  unfold keysL; rfl
theorem keysL_step (ns : List ByteArray) (its : List JV) (k : Nat) (acc : List Key2) (h : k < ns.length) (h' : k < its.length) : keysL (ns.drop k) (its.drop k) acc = stepL (keyOfJ its[k]) ns[k] (ns.drop (k + 1)) (its.drop (k + 1)) acc := by
  rw [List.drop_eq_getElem_cons h, List.drop_eq_getElem_cons h', keysL, stepL]
def keysJ (v : JV) : List Key2 × Int := if v.mayB = false then ([], 3) else if v.kind ≠ 5 then ([], 10) else if 32 < v.names.length then ([], 5) else keysL v.names v.items []
def KeysPost (v : JV) (w : World) (e : Ending) (w' : World) : Prop :=
  ∃ val, e = .returned (.tuple #[val, .int .i64 (keysJ v).2]) ∧ w'.ownsRow w.heap.size 23 2 val (keysJ v).1.length ((keysJ v).1.flatMap encK) ∧ Below w.heap.size w w'

set_option maxHeartbeats 2000000 in
set_option maxRecDepth 100000 in
theorem keyKeys (v : JV) (x : Value) (w : World) (hN : v.wt ≤ 4294967296) (hR : Rep w 0 w.heap.size v x) (hT : Tabs w) :
    Calls Tryz.prog 35 #[x] w (KeysPost v w) := by
  obtain ⟨an, cn, ai, ci, hx, h1, h2, h3, h4⟩ := hR.parts
  have HR := Lib.hid hR
  have H3 := Lib.hid h3
  have H4 := Lib.hid h4
  obtain ⟨b1, b2, b3, b4⟩ := v.wt_bd
  clear h1 h2 h3 h4 hR
  subst hx
  have HT := Lib.hid hT
  clear hT
  have HB0 := Lib.hid (show Below w.heap.size w (w.alloc (.cells #[.int .u8 v.kind, .int .i64 v.n, .string v.t, .slice an v.names.length cn, .slice ai v.items.length ci] 29)) from (Below.refl _ _).alloc (Nat.le_refl _) _)
  have HX0 := Lib.hid (heap_alloc_new w (.cells #[.int .u8 v.kind, .int .i64 v.n, .string v.t, .slice an v.names.length cn, .slice ai v.items.length ci] 29))
  have HM := Lib.hid (valueMay v _ (w.alloc (.cells #[.int .u8 v.kind, .int .i64 v.n, .string v.t, .slice an v.names.length cn, .slice ai v.items.length ci] 29)) hN (HR.out.below HB0.out (Nat.le_refl _) (Nat.le_refl _) (by simp)))
  cases hm : v.mayB
  · have HK := Lib.hid (show keysJ v = ([], 3) by unfold keysJ; rw [if_pos hm])
    rw [hm] at HM
    clear hm
    go_enter Tryz.func35, Tryz.ntmps35
    go_wp2_with fail
    refine HM.out.mono ?_
    rintro e w1 ⟨rfl, hb1⟩
    have HB1 := Lib.hid (HB0.out.trans (hb1.mono (by simp)))
    clear hb1
    go_wp2
    go_ret2
    exact ⟨.slice none 0 0, by rw [HK.out] <;> rfl, by rw [HK.out]; exact World.ownsRow_nil _ _ _ _, HB1.out⟩
  rw [hm] at HM
  have HMB := Lib.hid hm
  clear hm
  by_cases hk5 : v.kind = 5
  case neg =>
    have HK := Lib.hid (show keysJ v = ([], 10) by unfold keysJ; rw [if_neg (by simp [HMB.out]), if_pos hk5])
    have t1 : (v.kind != 5) = true := by simpa using hk5
    clear hk5
    go_enter Tryz.func35, Tryz.ntmps35
    go_wp2_with fail
    refine HM.out.mono ?_
    rintro e w1 ⟨rfl, hb1⟩
    have hx1 : w1.heap[w.heap.size]? = some (.cells #[.int .u8 v.kind, .int .i64 v.n, .string v.t, .slice an v.names.length cn, .slice ai v.items.length ci] 29 (0, 0)) := by rw [hb1.block _ (by simp)]; exact HX0.out
    have HB1 := Lib.hid (HB0.out.trans (hb1.mono (by simp)))
    have c0 : w1.cell? ⟨w.heap.size, 0, none⟩ = some (.int .u8 v.kind) := box_cell hx1 rfl
    clear hb1 hx1
    go_wp2
    go_ret2
    exact ⟨.slice none 0 0, by rw [HK.out] <;> rfl, by rw [HK.out]; exact World.ownsRow_nil _ _ _ _, HB1.out⟩
  have t1 : (v.kind != 5) = false := by simpa using hk5
  obtain ⟨_, hll, _⟩ := may_obj HMB.out hk5
  have HK5 := Lib.hid hk5
  clear hk5
  obtain ⟨nn, hnn⟩ : ∃ nn, nn = v.names.length := ⟨_, rfl⟩
  rw [← hll, ← hnn] at HM HX0 HB0
  rw [← hll, ← hnn]
  have HNN := Lib.hid hnn
  have HNI := Lib.hid (show v.items.length = nn by rw [hnn, hll])
  clear hnn hll
  by_cases h32 : nn ≤ 32
  case neg =>
    have HK := Lib.hid (show keysJ v = ([], 5) by unfold keysJ; rw [if_neg (by simp [HMB.out]), if_neg (by simp [HK5.out]), if_pos (by rw [← HNN.out]; omega)])
    have t2 : decide (32 < (nn : Int)) = true := by simp; omega
    go_enter Tryz.func35, Tryz.ntmps35
    go_wp2_with fail
    refine HM.out.mono ?_
    rintro e w1 ⟨rfl, hb1⟩
    have hx1 : w1.heap[w.heap.size]? = some (.cells #[.int .u8 v.kind, .int .i64 v.n, .string v.t, .slice an nn cn, .slice ai nn ci] 29 (0, 0)) := by rw [hb1.block _ (by simp)]; exact HX0.out
    have HB1 := Lib.hid (HB0.out.trans (hb1.mono (by simp)))
    have c0 : w1.cell? ⟨w.heap.size, 0, none⟩ = some (.int .u8 v.kind) := box_cell hx1 rfl
    have c3 : w1.cell? ⟨w.heap.size, 3, none⟩ = some (.slice an nn cn) := box_cell hx1 rfl
    clear hb1 hx1
    go_wp2
    go_ret2
    exact ⟨.slice none 0 0, by rw [HK.out] <;> rfl, by rw [HK.out]; exact World.ownsRow_nil _ _ _ _, HB1.out⟩
  have t2 : decide (32 < (nn : Int)) = false := by simp; omega
  have HKJ := Lib.hid (show keysJ v = keysL v.names v.items [] by unfold keysJ; rw [if_neg (by simp [HMB.out]), if_neg (by simp [HK5.out]), if_neg (by rw [← HNN.out]; omega)])
  obtain ⟨i3, hi3, iz0, iz1, iz2⟩ := info_parts infoKey
  go_enter Tryz.func35, Tryz.ntmps35
  go_wp2_with fail
  refine HM.out.mono ?_
  clear HM
  rintro e w1 ⟨rfl, hb1⟩
  have hx1 : w1.heap[w.heap.size]? = some (.cells #[.int .u8 v.kind, .int .i64 v.n, .string v.t, .slice an nn cn, .slice ai nn ci] 29 (0, 0)) := by rw [hb1.block _ (by simp)]; exact HX0.out
  have HX1 := Lib.hid hx1
  have HB1 := Lib.hid (HB0.out.trans (hb1.mono (by simp)))
  have hz1 : w.heap.size < w1.heap.size := heap_lt hx1
  have c0 : w1.cell? ⟨w.heap.size, 0, none⟩ = some (.int .u8 v.kind) := box_cell hx1 rfl
  have c3 : w1.cell? ⟨w.heap.size, 3, none⟩ = some (.slice an nn cn) := box_cell hx1 rfl
  clear hb1 hx1 HB0 HX0
  go_wp2_with fail
  clear c0 c3
  go_loopw [4, 5, 6, 7, 8, 9, 23] (fun ks _ _ _ _ _ i wr => ∃ (k : Nat) (acc : List Key2), k ≤ nn ∧ i = .int .i64 k ∧ acc.length = k ∧ keysJ v = keysL (v.names.drop k) (v.items.drop k) acc ∧ wr.ownsRow w1.heap.size 23 2 ks k (acc.flatMap encK) ∧ Below w1.heap.size w1 wr) (fun ks _ _ _ _ _ i _ => nn - (intOf i).toNat)
  case atStart => exact ⟨0, [], by omega, rfl, rfl, HKJ.out, World.ownsRow_nil _ _ _ _, Below.refl _ _⟩
  case round =>
    obtain ⟨k, acc, hk, rfl, hac, hkj, hown, hbel⟩ := hrel
    obtain ⟨am, cm, hv0, _⟩ := owns_keys hown hac.symm
    rw [hac] at hv0
    subst hv0
    have HKK := Lib.hid hkj
    have HO := Lib.hid hown
    have HB := Lib.hid hbel
    have HBT := Lib.hid (HB1.out.trans (hbel.mono HB1.out.size))
    have hzw : w1.heap.size ≤ wr.heap.size := hbel.size
    have hxw : wr.heap[w.heap.size]? = some (.cells #[.int .u8 v.kind, .int .i64 v.n, .string v.t, .slice an nn cn, .slice ai nn ci] 29 (0, 0)) := by rw [hbel.block _ hz1]; exact HX1.out
    have HXW := Lib.hid hxw
    have c3 : wr.cell? ⟨w.heap.size, 3, none⟩ = some (.slice an nn cn) := box_cell hxw rfl
    have c4 : wr.cell? ⟨w.heap.size, 4, none⟩ = some (.slice ai nn ci) := box_cell hxw rfl
    clear hkj hown hbel hxw
    by_cases hlt : k < nn
    · have hlv : k < v.names.length := by rw [← HNN.out]; exact hlt
      have hli : k < v.items.length := by rw [HNI.out]; exact hlt
      have HST := Lib.hid (keysL_step v.names v.items k acc hlv hli)
      obtain ⟨p, f, ha, _, hpb, y1⟩ := (H3.out.below HBT.out (Nat.le_refl _) (Nat.le_refl _) (Nat.le_refl _)).at k hlv
      subst ha
      obtain ⟨p', f', e0, e1, e2, e3, e4, ha, _, hpb', g0, g1, g2, g3, g4, hr⟩ := (H4.out.below HBT.out (Nat.le_refl _) (Nat.le_refl _) (Nat.le_refl _)).at k hli
      subst ha
      have hw1 := JV.wts_get v.items k hli
      have HOF := Lib.hid (keyOfW v.items[k] _ wr w.heap.size (by omega) (by have := HBT.out.size; omega) hr)
      unfold KeyOfPost at HOF
      have HKO := Lib.hid (@keyOfJ_ok v.items[k])
      obtain ⟨K, hK⟩ : ∃ K, K = keyOfJ v.items[k] := ⟨_, rfl⟩
      obtain ⟨nk, hnk⟩ : ∃ nk, nk = v.names[k] := ⟨_, rfl⟩
      rw [← hK] at HOF HKO
      replace HST := Lib.hid (HST.out.trans (congrArg (fun z => stepL z v.names[k] (v.names.drop (k + 1)) (v.items.drop (k + 1)) acc) hK.symm))
      replace HST := Lib.hid (HST.out.trans (congrArg (fun z => stepL K z (v.names.drop (k + 1)) (v.items.drop (k + 1)) acc) hnk.symm))
      replace y1 := y1.trans (congrArg (fun z => some (Value.string z)) hnk.symm)
      clear hK hnk hr hw1 hlv hli
      obtain ⟨⟨sch, kp⟩, ke⟩ := K
      have q0 : (0 : Int) ≤ (k : Int) := by omega
      have q1 : (k : Int) < (nn : Int) := by omega
      by_cases hke : ke = 0
      case neg =>
        have t3 : (ke != 0) = true := by simpa using hke
        have HKE := Lib.hid (show keysJ v = ([], ke) by rw [HKK.out, HST.out]; unfold stepL; rw [if_pos hke])
        clear hke
        go_wp2_with fail
        refine HOF.out.mono ?_
        rintro e w2 ⟨rfl, hb2⟩
        have HB2 := Lib.hid ((HBT.out.trans (hb2.mono HBT.out.size)).alloc (by have := HBT.out.size; have := hb2.size; omega) (.cells #[.string sch, .string kp] 23))
        clear hb2
        go_wp2
        go_ret2
        exact ⟨.slice none 0 0, by rw [HKE.out] <;> rfl, by rw [HKE.out]; exact World.ownsRow_nil _ _ _ _, HB2.out⟩
      subst hke
      obtain ⟨hok, hsz1, hsz2⟩ := HKO.out rfl
      replace hok : keyOk sch.data.toList kp.data.toList = true := hok
      replace hsz1 : sch.size ≤ 64 := hsz1
      replace hsz2 : kp.size ≤ 128 := hsz2
      go_wp2_with fail
      refine HOF.out.mono ?_
      clear HOF
      rintro e w2 ⟨rfl, hb2⟩
      have hz2 : wr.heap.size ≤ w2.heap.size := hb2.size
      obtain ⟨W2, hW2⟩ : ∃ W2, W2 = w2.alloc (.cells #[.string sch, .string kp] 23) := ⟨_, rfl⟩
      have hb22 : Below wr.heap.size wr W2 := by rw [hW2]; exact hb2.alloc hb2.size _
      have HB2 := Lib.hid (HB.out.trans (hb22.mono hzw))
      have HBT2 := Lib.hid (HBT.out.trans (hb22.mono HBT.out.size))
      have HO2 := Lib.hid (owns_below HO.out hb22)
      have HX2 := Lib.hid (show W2.heap[w2.heap.size]? = some (.cells #[.string sch, .string kp] 23 (0, 0)) by rw [hW2]; exact heap_alloc_new w2 _)
      have HID := Lib.hid (keyID sch kp W2 (by omega) (by omega) (HT.out.below HBT2.out))
      unfold KeyIdPost at HID
      rw [hok, if_pos rfl] at HID
      obtain ⟨ID, hID⟩ : ∃ ID : ByteArray, ID = ⟨(keyId sch.data.toList kp.data.toList).toArray⟩ := ⟨_, rfl⟩
      rw [← hID] at HID
      replace HST := Lib.hid (show keysL (v.names.drop k) (v.items.drop k) acc = if (ID.toList == nk.toList) = true then keysL (v.names.drop (k + 1)) (v.items.drop (k + 1)) (acc ++ [(sch, kp)]) else ([], 3) by rw [HST.out]; unfold stepL; rw [if_neg (by simp)]; rw [hID]; rfl)
      have hzW : W2.heap.size = w2.heap.size + 1 := by rw [hW2]; simp
      have HW2 := Lib.hid hW2
      clear hID hok hb2 hb22 hW2
      go_wp2_with fail
      rw [← HW2.out]
      refine HID.out.mono ?_
      clear HID HW2
      rintro e w3 ⟨rfl, hb3⟩
      have hz3 : W2.heap.size ≤ w3.heap.size := hb3.size
      have HB3 := Lib.hid (HB2.out.trans (hb3.mono (by omega)))
      have HBT3 := Lib.hid (HBT2.out.trans (hb3.mono (HBT2.out.size)))
      have HO3 := Lib.hid (owns_below HO2.out hb3)
      have hx3 : w3.heap[w2.heap.size]? = some (.cells #[.string sch, .string kp] 23 (0, 0)) := by rw [hb3.block _ (heap_lt HX2.out)]; exact HX2.out
      have x0 : w3.cell? ⟨w2.heap.size, 0, none⟩ = some (.string sch) := box_cell hx3 rfl
      have x1 : w3.cell? ⟨w2.heap.size, 1, none⟩ = some (.string kp) := box_cell hx3 rfl
      clear hb3 hx3 g0 g1 g2 g3 g4 c3 c4 y1
      cases hq : (ID.toList == nk.toList)
      · have t4 : (ID.toList != nk.toList) = true := by simpa [bne] using hq
        have HKE := Lib.hid (show keysJ v = ([], 3) by rw [HKK.out, HST.out, hq]; rfl)
        go_wp2_with fail
        skip
        go_ret2
        exact ⟨.slice none 0 0, by rw [HKE.out] <;> rfl, by rw [HKE.out]; exact World.ownsRow_nil _ _ _ _, HBT3.out⟩
      · have t4 : (ID.toList != nk.toList) = false := by simpa [bne] using hq
        have HKE := Lib.hid (show keysJ v = keysL (v.names.drop (k + 1)) (v.items.drop (k + 1)) (acc ++ [(sch, kp)]) by rw [HKK.out, HST.out, hq]; rfl)
        go_wp2_with (at_builtin; refine wpList_append_lies _ rfl (.tmp 51) (.tmp 53) 43 rfl w1.heap.size 23 i3 _ 2 32 Tryz.underlying43 hi3 iz0 iz1 iz2 rfl (by decide) (.slice am k cm) k (acc.flatMap encK) rfl (HO3.out.alloc _) ⟨w3.heap.size, 0, none⟩ 1 1 [.string sch, .string kp] rfl rfl (World.news_of_block (cs := #[.string sch, .string kp]) (t := 23) (fr := (0, 0)) (heap_alloc_new w3 _)) (by simp [Value.oneCell']) (by omega) (by unfold maxLen; omega) (by omega) (by simp; omega) (w3.heap.size + 1) (by simp) ?_; intro g1 cap2 w6 hown6 hgrow6 hat6 hlt6; have HO6 := Lib.hid hown6; have HG6 := Lib.hid hgrow6; clear hown6 hgrow6 hat6)
        go_roundw
        case rel =>
          refine ⟨k + 1, acc ++ [(sch, kp)], by omega, by go_num, by simp [hac], HKE.out, ?_, below_grown (HB3.out.alloc (by omega) _) (by simp; omega) HG6.out (fun b hb => (HO3.out.lt b hb).1)⟩
          rw [List.flatMap_append]
          simpa [encK] using HO6.out
        case measure => simp [intOf]; omega
    · obtain rfl : k = nn := by omega
      have HKE := Lib.hid (show keysJ v = (acc, 0) by
        rw [HKK.out, List.drop_of_length_le (by rw [← HNN.out]; exact Nat.le_refl _), keysL_nil])
      go_wp2
      go_ret2
      exact ⟨_, by rw [HKE.out] <;> rfl, by rw [HKE.out]; have := owns_mono (base' := w.heap.size) HO.out (Nat.le_of_lt hz1); show wr.ownsRow _ _ _ _ acc.length _; rw [hac]; exact this, HBT.out⟩

end Go.Proofs.YtcahpjejpimdhaaGreatDoor

namespace Go.Proofs.YtcahpjejpimdhaaGreatDoor
open Go.RowKit

set_option maxHeartbeats 400000 in
theorem refMay (v : JV) (x : Value) (w : World) (hv : v.wt ≤ 4294967296) (hR : Rep w 0 w.heap.size v x) :
    Calls Tryz.prog 55 #[x] w fun e w' => e = .returned (.bool v.mayB) ∧ Below w.heap.size w w' := by
  obtain ⟨an, cn, ai, ci, rfl, h1, h2, h3, h4⟩ := hR.parts
  clear h1 h2 h3 h4
  have HX0 := Lib.hid (heap_alloc_new w (.cells #[.int .u8 v.kind, .int .i64 v.n, .string v.t, .slice an v.names.length cn, .slice ai v.items.length ci] 29))
  have HB0 := Lib.hid (show Below w.heap.size w (w.alloc (.cells #[.int .u8 v.kind, .int .i64 v.n, .string v.t, .slice an v.names.length cn, .slice ai v.items.length ci] 29)) from (Below.refl _ _).alloc (Nat.le_refl _) _)
  have HR := Lib.hid hR
  have HM := Lib.hid v.mayB_iff
  clear hR
  have hc := JV.count_le v
  have hd := JV.depth_le v
  have HP := Lib.hid (refPart 4294967296 v _ _ hv (Nat.le_refl _) (HR.out.below HB0.out (Nat.le_refl _) (Nat.le_refl _) (by simp)))
  cases hp : v.partB
  · rw [hp] at HP HM
    clear hp
    go_enter Tryz.func55, Tryz.ntmps55
    go_wp2_with fail
    refine HP.out.mono ?_
    rintro e w1 ⟨rfl, hb1⟩
    have HB1 := Lib.hid (HB0.out.trans (hb1.mono (by simp)))
    clear hb1
    go_wp2
    go_ret
    exact ⟨by rw [HM.out] <;> rfl, HB1.out⟩
  rw [hp, Bool.true_and] at HM
  rw [hp] at HP
  clear hp
  obtain ⟨W0, hW0⟩ : ∃ W0, W0 = w.alloc (.cells #[.int .u8 v.kind, .int .i64 v.n, .string v.t, .slice an v.names.length cn, .slice ai v.items.length ci] 29) := ⟨_, rfl⟩
  have hzz : w.heap.size < W0.heap.size := by rw [hW0]; simp
  have HLA := Lib.hid (show ∀ w1, Below W0.heap.size W0 w1 → Below w.heap.size w w1 ∧ w1.heap[w.heap.size]? = some (.cells #[.int .u8 v.kind, .int .i64 v.n, .string v.t, .slice an v.names.length cn, .slice ai v.items.length ci] 29 (0, 0)) from fun w1 h => by
    rw [hW0] at h
    exact ⟨HB0.out.trans (h.mono (by simp)), by rw [h.block _ (by simp)]; exact HX0.out⟩)
  rw [← hW0] at HP
  have HW0 := Lib.hid hW0
  clear hW0
  go_enter Tryz.func55, Tryz.ntmps55
  go_wp2_with fail
  rw [← HW0.out]
  refine HP.out.mono ?_
  rintro e w1 ⟨rfl, hb1⟩
  obtain ⟨hB1, hx1⟩ := HLA.out w1 hb1
  have HB1 := Lib.hid hB1
  have HBA := Lib.hid hb1
  have HX1 := Lib.hid hx1
  have c0 : w1.cell? ⟨w.heap.size, 0, none⟩ = some (.int .u8 v.kind) := box_cell hx1 rfl
  have c1 : w1.cell? ⟨w.heap.size, 1, none⟩ = some (.int .i64 v.n) := box_cell hx1 rfl
  have c2 : w1.cell? ⟨w.heap.size, 2, none⟩ = some (.string v.t) := box_cell hx1 rfl
  have c3 : w1.cell? ⟨w.heap.size, 3, none⟩ = some (.slice an v.names.length cn) := box_cell hx1 rfl
  have c4 : w1.cell? ⟨w.heap.size, 4, none⟩ = some (.slice ai v.items.length ci) := box_cell hx1 rfl
  clear hb1 hx1 hB1
  have HC := Lib.hid (refCount 4294967296 v _ w1 hv (Nat.le_refl _) (HR.out.below HB1.out (Nat.le_refl _) (Nat.le_refl _) HB1.out.size))
  obtain ⟨c, hcc⟩ : ∃ c : Nat, c = v.count := ⟨_, rfl⟩
  rw [← hcc] at HC hc HM
  clear hcc
  go_wp2_with fail
  refine HC.out.mono ?_
  clear HC c0 c1 c2 c3 c4
  rintro e w2 ⟨rfl, hb2⟩
  obtain ⟨hB2, hx2⟩ := HLA.out w2 (HBA.out.trans (hb2.mono HBA.out.size))
  have HB2 := Lib.hid hB2
  have c0 : w2.cell? ⟨w.heap.size, 0, none⟩ = some (.int .u8 v.kind) := box_cell hx2 rfl
  have c1 : w2.cell? ⟨w.heap.size, 1, none⟩ = some (.int .i64 v.n) := box_cell hx2 rfl
  have c2 : w2.cell? ⟨w.heap.size, 2, none⟩ = some (.string v.t) := box_cell hx2 rfl
  have c3 : w2.cell? ⟨w.heap.size, 3, none⟩ = some (.slice an v.names.length cn) := box_cell hx2 rfl
  have c4 : w2.cell? ⟨w.heap.size, 4, none⟩ = some (.slice ai v.items.length ci) := box_cell hx2 rfl
  clear hb2 hx2 hB2
  by_cases h8 : c ≤ 8192
  · rw [decide_eq_true h8, Bool.true_and] at HM
    have h8' : (c : Int) ≤ 8192 := by omega
    have HD := Lib.hid (refDepth 4294967296 v _ w2 hv (Nat.le_refl _) (HR.out.below HB2.out (Nat.le_refl _) (Nat.le_refl _) HB2.out.size))
    obtain ⟨d, hdd⟩ : ∃ d : Nat, d = v.depth := ⟨_, rfl⟩
    rw [← hdd] at HD hd HM
    clear hdd
    go_wp2_with fail
    refine HD.out.mono ?_
    clear HD
    rintro e w3 ⟨rfl, hb3⟩
    have HB3 := Lib.hid (HB2.out.trans (hb3.mono HB2.out.size))
    clear hb3
    by_cases h12 : d ≤ 12
    · rw [decide_eq_true h12] at HM
      have h12' : (d : Int) ≤ 12 := by omega
      go_wp2
      go_ret
      exact ⟨by rw [HM.out] <;> rfl, HB3.out⟩
    · rw [decide_eq_false h12] at HM
      have h12' : ¬ (d : Int) ≤ 12 := by omega
      have h13 : decide ((d : Int) ≤ 12) = false := decide_eq_false h12'
      go_wp2
      go_ret
      exact ⟨by rw [HM.out] <;> rfl, HB3.out⟩
  · rw [decide_eq_false h8, Bool.false_and] at HM
    have h8' : ¬ (c : Int) ≤ 8192 := by omega
    have h9 : decide ((c : Int) ≤ 8192) = false := decide_eq_false h8'
    go_wp2
    go_ret
    exact ⟨by rw [HM.out] <;> rfl, HB2.out⟩

/-- What legateref08.Get tells of an object. -/
def RefGetPost (v : JV) (y : ByteArray) (hi : Nat) (w : World) (e : Ending) (w' : World) : Prop :=
  (v.look y = none ∧ e = .returned (.tuple #[zeroAgg, .bool false]) ∨ ∃ it an cn ai ci, v.look y = some it ∧ e = .returned (.tuple #[.agg #[.int .u8 it.kind, .int .i64 it.n, .string it.t, .slice an it.names.length cn, .slice ai it.items.length ci], .bool true]) ∧ it.wt ≤ v.wt ∧
    Rep w 0 hi it (.agg #[.int .u8 it.kind, .int .i64 it.n, .string it.t, .slice an it.names.length cn, .slice ai it.items.length ci])) ∧ Below w.heap.size w w'

theorem lookL_drop : ∀ (ns : List ByteArray) (xs : List JV) (y : ByteArray) (k : Nat) (h : k < ns.length), lookL (ns.drop k) (xs.drop k) y = if h' : k < xs.length then (if ns[k] = y then some xs[k] else lookL (ns.drop (k + 1)) (xs.drop (k + 1)) y) else none
  | ns, xs, y, k, h => by
    rw [List.drop_eq_getElem_cons h]
    by_cases h' : k < xs.length
    · rw [dif_pos h', List.drop_eq_getElem_cons h', lookL]
    · have e : xs.drop k = [] := List.drop_eq_nil_of_le (by omega)
      rw [dif_neg h', e]; simp [lookL]

set_option maxHeartbeats 1000000 in
set_option maxRecDepth 100000 in
theorem refGet (v : JV) (x : Value) (y : ByteArray) (w : World) (hi : Nat) (hhi : hi ≤ w.heap.size) (hv : v.wt ≤ 4294967296) (hk : v.kind = 5) (hR : Rep w 0 hi v x) :
    Calls Tryz.prog 117 #[x, .string y] w (RefGetPost v y hi w) := by
  obtain ⟨an, cn, ai, ci, rfl, h1, h2, h3, h4⟩ := hR.parts
  obtain ⟨b1, b2, b3, b4⟩ := v.wt_bd
  have H3 := Lib.hid h3
  have H4 := Lib.hid h4
  have HKV := Lib.hid hk
  rw [hk]
  clear h1 h2 h3 h4 hR hk
  go_enter Tryz.func117, Tryz.ntmps117
  go_wp2
  go_loopw [6] (fun i wr => ∃ k : Nat, k ≤ v.names.length ∧ i = .int .i64 k ∧ v.look y = lookL (v.names.drop k) (v.items.drop k) y ∧ Below w.heap.size w wr ∧ wr.heap[w.heap.size]? = some (.cells #[.int .u8 5, .int .i64 v.n, .string v.t, .slice an v.names.length cn, .slice ai v.items.length ci] 29 (0, 0)) ∧ wr.rowIs (w.heap.size + 1) 29 5 (pick5 (.int .u8 0) (.int .i64 0) (.string { data := #[] }) (.slice none 0 0) (.slice none 0 0))) (fun i _ => v.names.length - (intOf i).toNat)
  case atStart =>
    refine ⟨0, by omega, rfl, rfl, ((Below.refl _ _).alloc (Nat.le_refl _) _).alloc (by simp) _, (Below.heap_alloc _ _ _ (by simp)).trans (heap_alloc_new w _), ?_⟩
    have := rowIs_box5 (w.alloc (.cells #[.int .u8 5, .int .i64 v.n, .string v.t, .slice an v.names.length cn, .slice ai v.items.length ci] 29)) (.int .u8 0) (.int .i64 0) (.string { data := #[] }) (.slice none 0 0) (.slice none 0 0) 29
    rwa [show (w.alloc (.cells #[.int .u8 5, .int .i64 v.n, .string v.t, .slice an v.names.length cn, .slice ai v.items.length ci] 29)).heap.size = w.heap.size + 1 by simp] at this
  case round =>
    obtain ⟨k, hk, rfl, hlk, hbel, hx, hrow⟩ := hrel
    have HLK := Lib.hid hlk
    have HB := Lib.hid hbel
    have HX := Lib.hid hx
    have HR := Lib.hid hrow
    have hz1 : w.heap.size + 1 < wr.heap.size := hrow.lt
    have c3 : wr.cell? ⟨w.heap.size, 3, none⟩ = some (.slice an v.names.length cn) := box_cell hx rfl
    have c4 : wr.cell? ⟨w.heap.size, 4, none⟩ = some (.slice ai v.items.length ci) := box_cell hx rfl
    have t0 := hrow.cell (i := 0) (by decide); have t1 := hrow.cell (i := 1) (by decide); have t2 := hrow.cell (i := 2) (by decide); have t3 := hrow.cell (i := 3) (by decide); have t4 := hrow.cell (i := 4) (by decide)
    have s0 := hrow.frozen 0; have s1 := hrow.frozen 1; have s2 := hrow.frozen 2; have s3 := hrow.frozen 3; have s4 := hrow.frozen 4
    simp only [pick5] at t0 t1 t2 t3 t4
    clear hlk hbel hx hrow
    by_cases hlt : k < v.names.length
    · have HLD := Lib.hid (lookL_drop v.names v.items y k hlt)
      obtain ⟨b, off, hae, _, hb2, c0⟩ := (H3.out.below HB.out hhi (Nat.le_refl _) (Nat.le_refl _)).at k hlt
      subst hae
      obtain ⟨nm, hnm⟩ : ∃ nm, nm = v.names[k] := ⟨_, rfl⟩
      rw [← hnm] at c0 HLD
      clear hnm
      by_cases hny : nm = y
      · subst hny
        by_cases hli : k < v.items.length
        · rw [dif_pos hli, if_pos rfl] at HLD
          obtain ⟨b', off', an', cn', ai', ci', hae, _, hb3, e0, e1, e2, e3, e4, hrep⟩ := (H4.out.below HB.out hhi (Nat.le_refl _) (Nat.le_refl _)).get k hli
          obtain ⟨b5, off5, c05, c15, c25, c35, c45, hae5, _, _, f0, f1, f2, f3, f4, hrep0⟩ := H4.out.at k hli
          have HRP := Lib.hid (show Rep w 0 hi v.items[k] (.agg #[.int .u8 v.items[k].kind, .int .i64 v.items[k].n, .string v.items[k].t, .slice an' v.items[k].names.length cn', .slice ai' v.items[k].items.length ci']) by
            rw [hae] at hae5
            obtain ⟨rfl, rfl⟩ : b' = b5 ∧ off' = off5 := by simpa using hae5
            have q : ∀ o, wr.cell? ⟨b', o, none⟩ = w.cell? ⟨b', o, none⟩ := fun o => HB.out.cell (Nat.lt_of_lt_of_le hb3 hhi)
            rw [q] at e0 e1 e2 e3 e4
            rw [e0] at f0; rw [e1] at f1; rw [e2] at f2; rw [e3] at f3; rw [e4] at f4
            simp only [Option.some.injEq] at f0 f1 f2 f3 f4
            subst f0 f1 f2 f3 f4
            exact hrep0)
          subst hae
          have hwk := JV.wts_get v.items k hli
          have hli' : (k : Int) < (v.items.length : Int) := by omega
          have HLS := Lib.hid (show v.look nm = some v.items[k] by rw [HLK.out, HLD.out])
          clear hrep hrep0 f0 f1 f2 f3 f4 hae5 HLD HLK
          generalize v.items[k] = it at *
          have hne : b' ≠ w.heap.size + 1 := by omega
          go_wp2
          refine bodyPost_ret (results_row_tmp Tryz.results117 _ _ (w.heap.size + 1) 29 #[.int .u8 it.kind, .int .i64 it.n, .string it.t, .slice an' it.names.length cn', .slice ai' it.items.length ci'] (0, 0) _ rfl (row5_heap (set5 _ _ _ _ _ HR.out)) Tryz.underlying29 rfl (by kernel_rfl) _ rfl) rfl ⟨.inr ⟨it, an', cn', ai', ci', HLS.out, rfl, by omega, HRP.out⟩, below5 _ _ _ _ _ HB.out (by omega)⟩
        · rw [dif_neg hli] at HLD
          have hli' : ¬ (k : Int) < (v.items.length : Int) := by omega
          have HLS := Lib.hid (show v.look nm = none by rw [HLK.out, HLD.out])
          clear HLD HLK
          go_wp2
          refine bodyPost_ret (results_row_tmp Tryz.results117 _ _ (w.heap.size + 1) 29 #[.int .u8 0, .int .i64 0, .string { data := #[] }, .slice none 0 0, .slice none 0 0] (0, 0) _ rfl (row5_heap (set5 _ _ _ _ _ HR.out)) Tryz.underlying29 rfl (by kernel_rfl) _ rfl) rfl ⟨.inl ⟨HLS.out, rfl⟩, below5 _ _ _ _ _ HB.out (by omega)⟩
      · have hny2 : (nm.toList == y.toList) = false := beq_eq_false_iff_ne.2 fun e => hny (ba_ext2 e)
        have HLS := Lib.hid (show v.look y = lookL (v.names.drop (k + 1)) (v.items.drop (k + 1)) y by
          rw [HLK.out, HLD.out]
          by_cases h' : k < v.items.length
          · rw [dif_pos h', if_neg hny]
          · rw [dif_neg h', List.drop_eq_nil_of_le (show v.items.length ≤ k + 1 by omega)]; cases v.names.drop (k + 1) <;> simp [lookL])
        clear HLD HLK hny
        go_wp2
        go_roundw
        case rel => exact ⟨k + 1, by omega, by go_num, HLS.out, HB.out, HX.out, HR.out⟩
        case measure => simp [intOf]; omega
    · have HLS := Lib.hid (show v.look y = none by rw [HLK.out, List.drop_eq_nil_of_le (show v.names.length ≤ k by omega)]; simp [lookL])
      clear HLK
      go_wp2
      refine bodyPost_ret (results_row_tmp Tryz.results117 _ _ (w.heap.size + 1) 29 #[.int .u8 0, .int .i64 0, .string { data := #[] }, .slice none 0 0, .slice none 0 0] (0, 0) _ rfl (row5_heap (set5 _ _ _ _ _ HR.out)) Tryz.underlying29 rfl (by kernel_rfl) _ rfl) rfl ⟨.inl ⟨HLS.out, rfl⟩, below5 _ _ _ _ _ HB.out (by omega)⟩

end Go.Proofs.YtcahpjejpimdhaaGreatDoor
