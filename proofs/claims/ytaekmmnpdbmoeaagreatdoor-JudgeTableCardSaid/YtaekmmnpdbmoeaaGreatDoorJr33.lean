/- The contract of legatelaw17.JudgeWho. Printed by genwho.py. -/
import Derived.Test.YtaekmmnpdbmoeaaGreatDoorJr30
import Derived.Test.YtaekmmnpdbmoeaaGreatDoorJr32
import Derived.Test.YtaekmmnpdbmoeaaGreatDoorJr26
import Derived.Test.YtaekmmnpdbmoeaaGreatDoorJr28

namespace Go.Proofs.YtaekmmnpdbmoeaaGreatDoor
open Go.RowKit

theorem news_keys {w : World} {a : Option Addr} {l : List Key2} (hR : KeysAt w 0 w.heap.size a l) (o : Obj) : 0 < l.length → ∃ ad', a = some ad' ∧ ∀ j u, (l.flatMap encK)[j]? = some u → (w.alloc o).cell? (ad'.add j) = some u := fun h0 => by
  rcases hR with h | ⟨b, off, h, _, hb, hc⟩
  · subst h; simp at h0
  · refine ⟨⟨b, off, none⟩, h, fun j u hj => ?_⟩
    have hlen : ∀ r : List Key2, (r.flatMap encK).length = 2 * r.length := fun r => by
      induction r with
      | nil => rfl
      | cons v r ih => rw [List.flatMap_cons, List.length_append, ih]; show 2 + 2 * r.length = 2 * (r.length + 1); omega
    obtain ⟨hjl, _⟩ := List.getElem?_eq_some_iff.1 hj
    rw [hlen] at hjl
    have hj2 : j / 2 < l.length := by omega
    obtain ⟨g0, g1⟩ := flatK_get (M := l) (j / 2) hj2
    obtain ⟨h1, h2⟩ := hc (j / 2) hj2
    have e : (⟨b, off, none⟩ : Addr).add j = ⟨b, off + j, none⟩ := by unfold Addr.add; split <;> simp_all
    rw [e, cell_alloc_lt _ hb]
    rcases Nat.mod_two_eq_zero_or_one j with hq | hq
    · have ej : j / 2 * 2 = j := by omega
      rw [ej] at g0 h1
      rw [g0] at hj; cases hj; exact h1
    · have ej : j / 2 * 2 + 1 = j := by omega
      rw [ej] at g1
      rw [show off + j / 2 * 2 + 1 = off + j by omega] at h2
      rw [g1] at hj; cases hj; exact h2
theorem news_strs {w : World} {a : Option Addr} {l : List ByteArray} (hR : StrsAt w 0 w.heap.size a l) (o : Obj) : 0 < l.length → ∃ ad', a = some ad' ∧ ∀ j u, (l.map Value.string)[j]? = some u → (w.alloc o).cell? (ad'.add j) = some u := fun h0 => by
  rcases hR with h | ⟨b, off, h, _, hb, hc⟩
  · subst h; simp at h0
  · refine ⟨⟨b, off, none⟩, h, fun j u hj => ?_⟩
    obtain ⟨hjl, hg⟩ := List.getElem?_eq_some_iff.1 hj
    rw [List.length_map] at hjl
    rw [List.getElem_map] at hg
    have e : (⟨b, off, none⟩ : Addr).add j = ⟨b, off + j, none⟩ := by unfold Addr.add; split <;> simp_all
    rw [e, cell_alloc_lt _ hb, hc j hjl, hg]
theorem own_one (w : World) (e : TypeId) (cs : Array Value) {size : Nat} (hs : cs.size = size) : (w.alloc (.cells cs e)).ownsRow w.heap.size e size (.slice (some ⟨w.heap.size, 0, none⟩) 1 1) 1 cs.toList :=
  ⟨by simp [hs], .inr ⟨w.heap.size, 1, cs, rfl, Nat.le_refl _, heap_alloc_new w _, Nat.le_refl _, by unfold maxLen; omega, by simp [hs], by rw [List.take_of_length_le]; simp [hs]⟩⟩
theorem keys_len (r : List Key2) : (r.flatMap encK).length = r.length * 2 := by
  induction r with
  | nil => rfl
  | cons v r ih => rw [List.flatMap_cons, List.length_append, ih]; show 2 + r.length * 2 = (r.length + 1) * 2; omega
theorem keys_one (l : List Key2) : ∀ u ∈ l.flatMap encK, u.oneCell' = true := fun u hu => by
  obtain ⟨v, _, hv⟩ := List.mem_flatMap.1 hu
  unfold encK at hv
  simp at hv
  rcases hv with rfl | rfl <;> rfl
theorem strs_one (l : List ByteArray) : ∀ u ∈ l.map Value.string, u.oneCell' = true := fun u hu => by
  obtain ⟨v, _, hv⟩ := List.mem_map.1 hu
  subst hv; rfl

set_option maxHeartbeats 2000000 in
set_option maxRecDepth 100000 in
theorem lawWho (hm : Bool) (vl : List Ver3) (va : Option Addr) (vc : Nat) (u : JV) (l : List Sig2) (an ai sa : Option Addr) (cn ci sc : Nat) (t : Int) (ids : List ByteArray) (ia : Option Addr) (ic : Nat) (keys : List Key2) (ka : Option Addr) (kc : Nat) (ks kp id : ByteArray) (w : World)
    (hV : TrisAt w 0 w.heap.size va vl) (hvl : vl.length ≤ 9223372036854775807) (hI : JudgeIn w u l an ai sa cn ci ids ia keys ka) (hn : u.num) (hT : Tabs w) (hP : Pow10 w) :
    Calls Tryz.prog 11 #[.bool hm, .slice va vl.length vc, envV u an ai cn ci sa l.length sc, .agg #[.int .i64 t, .slice ia ids.length ic], .slice ka keys.length kc, .agg #[.string ks, .string kp], .string id] w fun e w' => e = .returned (.bool true) ∧ Below w.heap.size w w' := by
  obtain ⟨i1, hi1, hy0, hy1, hy2⟩ := info_parts infoKey
  obtain ⟨i2, hi2, hx0, hx1, hx2⟩ := info_parts infoStr2
  obtain ⟨W0, hW0⟩ : ∃ W0, W0 = ((w.alloc (.cells #[.int .u8 u.kind, .int .i64 u.n, .string u.t, .slice an u.names.length cn, .slice ai u.items.length ci, .slice sa l.length sc] 47)).alloc (.cells #[.int .i64 t, .slice ia ids.length ic] 49)).alloc (.cells #[.string ks, .string kp] 24) := ⟨_, rfl⟩
  have HB0 := Lib.hid (show Below w.heap.size w W0 by rw [hW0]; exact (below_n2 w _ _).alloc (by simp <;> omega) _)
  have HZ0 := Lib.hid (show W0.heap.size = w.heap.size + 3 by rw [hW0]; simp)
  have hb0 : W0.heap[w.heap.size]? = some (.cells #[.int .u8 u.kind, .int .i64 u.n, .string u.t, .slice an u.names.length cn, .slice ai u.items.length ci, .slice sa l.length sc] 47 (0, 0)) := by
    rw [hW0, Below.heap_alloc _ _ _ (by simp <;> omega), Below.heap_alloc _ _ _ (by simp)]; exact heap_alloc_new w _
  have hb1 : W0.heap[w.heap.size + 1]? = some (.cells #[.int .i64 t, .slice ia ids.length ic] 49 (0, 0)) := by
    rw [hW0, Below.heap_alloc _ _ _ (by simp)]
    have := heap_alloc_new (w.alloc (.cells #[.int .u8 u.kind, .int .i64 u.n, .string u.t, .slice an u.names.length cn, .slice ai u.items.length ci, .slice sa l.length sc] 47)) (.cells #[.int .i64 t, .slice ia ids.length ic] 49)
    simpa using this
  have hb2 : W0.heap[w.heap.size + 1 + 1]? = some (.cells #[.string ks, .string kp] 24 (0, 0)) := by
    rw [hW0]
    have := heap_alloc_new ((w.alloc (.cells #[.int .u8 u.kind, .int .i64 u.n, .string u.t, .slice an u.names.length cn, .slice ai u.items.length ci, .slice sa l.length sc] 47)).alloc (.cells #[.int .i64 t, .slice ia ids.length ic] 49)) (.cells #[.string ks, .string kp] 24)
    simpa using this
  have HS := Lib.hid (show ∀ w' : World, Below W0.heap.size W0 w' → w'.cell? ⟨w.heap.size, 0, none⟩ = some (.int .u8 u.kind) ∧ w'.cell? ⟨w.heap.size, 1, none⟩ = some (.int .i64 u.n) ∧ w'.cell? ⟨w.heap.size, 2, none⟩ = some (.string u.t) ∧ w'.cell? ⟨w.heap.size, 3, none⟩ = some (.slice an u.names.length cn) ∧ w'.cell? ⟨w.heap.size, 4, none⟩ = some (.slice ai u.items.length ci) ∧ w'.cell? ⟨w.heap.size, 5, none⟩ = some (.slice sa l.length sc) ∧
      w'.cell? ⟨w.heap.size + 1, 0, none⟩ = some (.int .i64 t) ∧ w'.cell? ⟨w.heap.size + 1, 1, none⟩ = some (.slice ia ids.length ic) ∧ w'.cell? ⟨w.heap.size + 1 + 1, 0, none⟩ = some (.string ks) ∧ w'.cell? ⟨w.heap.size + 1 + 1, 1, none⟩ = some (.string kp) from fun w' h => by
    have y0 := (h.block _ (heap_lt hb0)).trans hb0
    have y1 := (h.block _ (heap_lt hb1)).trans hb1
    have y2 := (h.block _ (heap_lt hb2)).trans hb2
    exact ⟨box_cell y0 rfl, box_cell y0 rfl, box_cell y0 rfl, box_cell y0 rfl, box_cell y0 rfl, box_cell y0 rfl, box_cell y1 rfl, box_cell y1 rfl, box_cell y2 rfl, box_cell y2 rfl⟩)
  have HBT := Lib.hid (show ∀ w' : World, Below W0.heap.size W0 w' → Below w.heap.size w w' from fun w' h => HB0.out.trans (h.mono HB0.out.size))
  have HT := Lib.hid (show ∀ w' : World, Below W0.heap.size W0 w' → Tabs w' from fun w' h => hT.below (HBT.out w' h))
  have HP := Lib.hid (show ∀ w' : World, Below W0.heap.size W0 w' → Pow10 w' from fun w' h => hP.below (HBT.out w' h))
  have HA := Lib.hid (show ∀ w' : World, Below W0.heap.size W0 w' → Calls Tryz.prog 14 #[] w' (fun e w'' => e = .returned (.bool true) ∧ Below w'.heap.size w' w'') from fun w' h => lawAwake17 w' (HT.out w' h) (HP.out w' h))
  have HLV := Lib.hid (lawLongVerdicts vl va vc W0 (hV.below HB0.out (Nat.le_refl _) (Nat.le_refl _) HB0.out.size) hvl)
  have HI := Lib.hid (show ∀ w' : World, Below W0.heap.size W0 w' → JudgeIn w' u l an ai sa cn ci ids ia keys ka from fun w' h => hI.below (HBT.out w' h))
  have HV := Lib.hid (show ∀ w' : World, Below W0.heap.size W0 w' → TrisAt w' 0 w'.heap.size va vl from fun w' h => hV.below (HBT.out w' h) (Nat.le_refl _) (Nat.le_refl _) (HBT.out w' h).size)
  have HLG := Lib.hid (show ∀ w' : World, Below W0.heap.size W0 w' → Calls Tryz.prog 20 #[.agg #[.int .u8 u.kind, .int .i64 u.n, .string u.t, .slice an u.names.length cn, .slice ai u.items.length ci, .slice sa l.length sc], .agg #[.int .i64 t, .slice ia ids.length ic], .slice ka keys.length kc] w' (LongPost17 u l ids keys w') from fun w' h => lawLong17 u l an ai sa cn ci sc t ids ia ic keys ka kc w' (HI.out w' h))
  have HW0 := Lib.hid hW0
  have HNUM := Lib.hid hn
  unfold envV
  clear hV hvl hT hP hb0 hb1 hb2 hW0 hI hn
  go_enter Tryz.func11, Tryz.ntmps11
  go_wp2_with fail
  rw [← HW0.out]
  refine HLV.out.mono ?_
  clear HLV HW0
  rintro e w1 ⟨b, rfl, hb, hb1⟩
  have HB1 := Lib.hid hb1
  clear hb1
  obtain ⟨q0, q1, q2, q3, q4, q5, q6, q7, q8, q9⟩ := HS.out w1 HB1.out
  cases b
  case true =>
    clear hb
    go_wp2_with fail
    refine (HA.out w1 HB1.out).mono ?_
    rintro e w99 ⟨rfl, hb9⟩
    have HB9 := Lib.hid (HB1.out.trans (hb9.mono HB1.out.size))
    clear hb9
    go_wp2
    go_ret
    exact ⟨rfl, HBT.out _ HB9.out⟩
  have HVZ := Lib.hid (hb rfl).1
  clear hb
  go_wp2_with fail
  refine (HLG.out w1 HB1.out).mono ?_
  clear HLG q0 q1 q2 q3 q4 q5 q6 q7 q8 q9
  rintro e w2 ⟨b, rfl, hb, hb2⟩
  have HB2 := Lib.hid (HB1.out.trans (hb2.mono HB1.out.size))
  clear hb2
  obtain ⟨q0, q1, q2, q3, q4, q5, q6, q7, q8, q9⟩ := HS.out w2 HB2.out
  cases b
  case true =>
    clear hb
    go_wp2_with fail
    refine (HA.out w2 HB2.out).mono ?_
    rintro e w99 ⟨rfl, hb9⟩
    have HB9 := Lib.hid (HB2.out.trans (hb9.mono HB2.out.size))
    clear hb9
    go_wp2
    go_ret
    exact ⟨rfl, HBT.out _ HB9.out⟩
  have HNL := Lib.hid (hb rfl)
  clear hb
  have HLK := Lib.hid (lawLongKeys [(ks, kp)] _ 1 (w2.alloc (.cells #[.string ks, .string kp] 24)) keys_single (by simp))
  go_wp2_with fail
  refine HLK.out.mono ?_
  clear HLK q0 q1 q2 q3 q4 q5 q6 q7 q8 q9
  rintro e w3 ⟨b, rfl, hb, hb3⟩
  have HB3 := Lib.hid (HB2.out.trans (((Below.refl _ _).alloc (Nat.le_refl _) _).trans (hb3.mono (by simp)) |>.mono HB2.out.size))
  clear hb3
  obtain ⟨q0, q1, q2, q3, q4, q5, q6, q7, q8, q9⟩ := HS.out w3 HB3.out
  cases b
  case true =>
    clear hb
    go_wp2_with fail
    refine (HA.out w3 HB3.out).mono ?_
    rintro e w99 ⟨rfl, hb9⟩
    have HB9 := Lib.hid (HB3.out.trans (hb9.mono HB3.out.size))
    clear hb9
    go_wp2
    go_ret
    exact ⟨rfl, HBT.out _ HB9.out⟩
  have hk := (hb rfl).2 (ks, kp) (by simp)
  clear hb
  have HKZ := Lib.hid hk
  clear hk
  by_cases g0 : id.size ≤ 300
  case neg =>
    have g0' : decide (300 < id.size) = true := by simp; omega
    go_wp2_with fail
    refine (HA.out w3 HB3.out).mono ?_
    rintro e w99 ⟨rfl, hb9⟩
    have HB9 := Lib.hid (HB3.out.trans (hb9.mono HB3.out.size))
    clear hb9
    go_wp2
    go_ret
    exact ⟨rfl, HBT.out _ HB9.out⟩
  have g0' : decide (300 < id.size) = false := by simp; omega
  go_wp2_with fail
  refine (HA.out w3 HB3.out).mono ?_
  rintro e w4 ⟨rfl, hb4⟩
  have HB4 := Lib.hid (HB3.out.trans (hb4.mono HB3.out.size))
  clear hb4 q0 q1 q2 q3 q4 q5 q6 q7 q8 q9 g0' HA HB1 HB2 HB3
  have HLF := Lib.hid (lawVerifier hm vl va vc w4 (HV.out w4 HB4.out) HVZ.out)
  obtain ⟨v, hv⟩ : ∃ v, v = verOf hm vl := ⟨_, rfl⟩
  rw [← hv] at HLF
  clear hv
  go_wp2_with fail
  refine HLF.out.mono ?_
  clear HLF
  rintro e w5 ⟨x, rfl, hx, hb5⟩
  have HB5 := Lib.hid (HB4.out.trans (hb5.mono HB4.out.size))
  have HXV := Lib.hid (show ∀ w' : World, Below w5.heap.size w5 w' → VerIs w' x v from fun w' h => hx.below h)
  have HB50 := Lib.hid (show ∀ w' : World, Below w5.heap.size w5 w' → Below W0.heap.size W0 w' from fun w' h => HB5.out.trans (h.mono HB5.out.size))
  clear hb5 hx HB4 HV HVZ
  obtain ⟨n, hnn⟩ : ∃ n : Nat, n = countV v u l t ids keys := ⟨_, rfl⟩
  obtain ⟨bn, hbn⟩ : ∃ bn : Bool, bn = enoughV v u l t ids keys := ⟨_, rfl⟩
  have HCN := Lib.hid (show ∀ w' : World, Below w5.heap.size w5 w' → Calls Tryz.prog 21 #[x, .agg #[.int .u8 u.kind, .int .i64 u.n, .string u.t, .slice an u.names.length cn, .slice ai u.items.length ci, .slice sa l.length sc], .agg #[.int .i64 t, .slice ia ids.length ic], .slice ka keys.length kc] w' (fun e w'' => e = .returned (.int .i64 (n : Int)) ∧ Below w'.heap.size w' w'') from fun w' h => by
    have hI := HI.out w' (HB50.out w' h)
    rw [hnn]
    exact judgeCount v x u l an ai sa cn ci sc t ids ia ic keys ka kc w' (HXV.out w' h) (HNL.out.env hI) (HNL.out.auth hI) (HNL.out.row hI) HNUM.out (HP.out w' (HB50.out w' h)) (HT.out w' (HB50.out w' h)))
  have HEN := Lib.hid (show ∀ w' : World, Below w5.heap.size w5 w' → Calls Tryz.prog 23 #[x, .agg #[.int .u8 u.kind, .int .i64 u.n, .string u.t, .slice an u.names.length cn, .slice ai u.items.length ci, .slice sa l.length sc], .agg #[.int .i64 t, .slice ia ids.length ic], .slice ka keys.length kc] w' (fun e w'' => e = .returned (.bool bn) ∧ Below w'.heap.size w' w'') from fun w' h => by
    have hI := HI.out w' (HB50.out w' h)
    rw [hbn]
    exact judgeEnough v x u l an ai sa cn ci sc t ids ia ic keys ka kc w' (HXV.out w' h) (HNL.out.env hI) (HNL.out.auth hI) (HNL.out.row hI) HNUM.out (HP.out w' (HB50.out w' h)) (HT.out w' (HB50.out w' h)))
  have HN := Lib.hid hnn
  have HBN := Lib.hid hbn
  clear hnn hbn
  obtain ⟨q0, q1, q2, q3, q4, q5, q6, q7, q8, q9⟩ := HS.out w5 HB5.out
  go_wp2_with fail
  refine (HCN.out w5 (Below.refl _ _)).mono ?_
  clear q0 q1 q2 q3 q4 q5 q6 q7 q8 q9
  rintro e w6 ⟨rfl, hb6⟩
  have HB6 := Lib.hid hb6
  clear hb6
  obtain ⟨q0, q1, q2, q3, q4, q5, q6, q7, q8, q9⟩ := HS.out w6 (HB50.out w6 HB6.out)
  obtain ⟨ok, hok⟩ : ∃ ok, ok = ok2 (ks, kp) := ⟨_, rfl⟩
  obtain ⟨kid, hkid⟩ : ∃ kid, kid = id2 (ks, kp) := ⟨_, rfl⟩
  have HKD := Lib.hid (keyId2 (ks, kp) w6 HKZ.out.1 HKZ.out.2 (HT.out w6 (HB50.out w6 HB6.out)))
  rw [← hok, ← hkid] at HKD
  have HOK := Lib.hid hok
  have HKI := Lib.hid hkid
  clear hok hkid
  go_wp2_with fail
  refine HKD.out.mono ?_
  clear HKD q0 q1 q2 q3 q4 q5 q6 q7 q8 q9
  rintro e w7 ⟨rfl, hb7⟩
  have HB7 := Lib.hid (HB6.out.trans (hb7.mono HB6.out.size))
  clear hb7
  obtain ⟨q0, q1, q2, q3, q4, q5, q6, q7, q8, q9⟩ := HS.out w7 (HB50.out w7 HB7.out)
  cases ok
  · rw [if_neg (by simp)]
    have HWK := Lib.hid (show ok2 (ks, kp) = true → id2 (ks, kp) ∉ ids from fun h => by rw [← HOK.out] at h; cases h)
    have HN2 := Lib.hid (news_keys (HI.out w7 (HB50.out w7 HB7.out)).rows (.cells #[.string ks, .string kp] 24))
    have HL2 := Lib.hid (keys_len keys)
    have HO2 := Lib.hid (keys_one keys)
    have HLZ := HNL.out.keylen
    have hc1 : 1 + keys.length ≤ maxLen := by unfold maxLen; omega
    have hc2 : (1 + keys.length) * 32 ≤ 140737488355328 := by omega
    have hc3 : w7.heap.size ≤ (w7.alloc (.cells #[.string ks, .string kp] 24)).heap.size := by simp
    go_wp2_with (at_builtin; refine wpList_append_any _ rfl (.tmp 68) (.tmp 69) 29 rfl w7.heap.size 24 i1 _ 2 32 Tryz.underlying29 hi1 hy0 hy1 hy2 rfl (by decide) _ 1 (Array.toList #[.string ks, .string kp]) rfl (own_one w7 24 #[.string ks, .string kp] rfl) _ keys.length kc (keys.flatMap encK) rfl HL2.out HN2.out HO2.out hc1 hc2 hc3 _ rfl ?_)
    intro a2 c2 wB hown2 hgrow2 hat2
    have hbb : Below w7.heap.size w7 wB := ((Below.refl _ _).alloc (Nat.le_refl _) _).grown hgrow2 (by simp) (by intro k hk; simp [Value.ownBlock] at hk; omega)
    have HBB := Lib.hid (HB7.out.trans (hbb.mono HB7.out.size))
    have hmk : KeysAt wB w7.heap.size wB.heap.size a2 ((ks, kp) :: keys) := by
      obtain ⟨a', c', e', h'⟩ := owns_keys (M := (ks, kp) :: keys) hown2 (by simp; omega)
      simp only [Value.slice.injEq] at e'
      rw [e'.1]; exact h'
    have HKM := Lib.hid (show KeyRow wB ((ks, kp) :: keys) a2 from ⟨hmk.carry (Nat.zero_le _) (Nat.le_refl _) fun _ _ _ => rfl, by simp; omega, fun k hk => by
      rcases List.mem_cons.1 hk with rfl | hk
      · exact HKZ.out
      · exact HNL.out.keysizes k hk⟩)
    clear hown2 hgrow2 hat2 hbb hmk HN2 HL2 HO2 q0 q1 q2 q3 q4 q5 q6 q7 q8 q9
    have HCM := Lib.hid (show ∀ w' : World, Below wB.heap.size wB w' → Calls Tryz.prog 21 #[x, .agg #[.int .u8 u.kind, .int .i64 u.n, .string u.t, .slice an u.names.length cn, .slice ai u.items.length ci, .slice sa l.length sc], .agg #[.int .i64 t, .slice ia ids.length ic], .slice a2 (1 + keys.length) c2] w' (fun e w'' => e = .returned (.int .i64 (n : Int)) ∧ Below w'.heap.size w' w'') from fun w' h => by
      have h5 := HBB.out.trans (h.mono HBB.out.size)
      have hI := HI.out w' (HB50.out w' h5)
      have hc := judgeCount v x u l an ai sa cn ci sc t ids ia ic ((ks, kp) :: keys) a2 c2 w' (HXV.out w' h5) (HNL.out.env hI) (HNL.out.auth hI) (HKM.out.below h) HNUM.out (HP.out w' (HB50.out w' h5)) (HT.out w' (HB50.out w' h5))
      rw [who_keys HWK.out, ← HN.out, show ((ks, kp) :: keys).length = 1 + keys.length by simp [Nat.add_comm]] at hc
      exact hc)
    have HEM := Lib.hid (show ∀ w' : World, Below wB.heap.size wB w' → Calls Tryz.prog 23 #[x, .agg #[.int .u8 u.kind, .int .i64 u.n, .string u.t, .slice an u.names.length cn, .slice ai u.items.length ci, .slice sa l.length sc], .agg #[.int .i64 t, .slice ia ids.length ic], .slice a2 (1 + keys.length) c2] w' (fun e w'' => e = .returned (.bool bn) ∧ Below w'.heap.size w' w'') from fun w' h => by
      have h5 := HBB.out.trans (h.mono HBB.out.size)
      have hI := HI.out w' (HB50.out w' h5)
      have hc := judgeEnough v x u l an ai sa cn ci sc t ids ia ic ((ks, kp) :: keys) a2 c2 w' (HXV.out w' h5) (HNL.out.env hI) (HNL.out.auth hI) (HKM.out.below h) HNUM.out (HP.out w' (HB50.out w' h5)) (HT.out w' (HB50.out w' h5))
      rw [show enoughV v u l t ids ((ks, kp) :: keys) = enoughV v u l t ids keys by unfold enoughV; rw [who_keys HWK.out], ← HBN.out, show ((ks, kp) :: keys).length = 1 + keys.length by simp [Nat.add_comm]] at hc
      exact hc)
    go_wp2_with fail
    obtain ⟨V, hV⟩ : ∃ V : List MP, V = [.con (x), .con (.agg #[.int .u8 u.kind, .int .i64 u.n, .string u.t, .slice an u.names.length cn, .slice ai u.items.length ci, .slice sa l.length sc]), .con (.agg #[.int .i64 t, .slice ia ids.length ic]), .con (.slice a2 (1 + keys.length) c2), .con (.int .i64 (n : Int)), .con (.int .i64 (n : Int)), .con (.bool false), .con (.bool false), .con (x), .con (.agg #[.int .u8 u.kind, .int .i64 u.n, .string u.t, .slice an u.names.length cn, .slice ai u.items.length ci, .slice sa l.length sc]), .con (.agg #[.int .i64 t, .slice ia ids.length ic]), .con (.slice a2 (1 + keys.length) c2), .con (.bool bn), .con (x), .con (.agg #[.int .u8 u.kind, .int .i64 u.n, .string u.t, .slice an u.names.length cn, .slice ai u.items.length ci, .slice sa l.length sc]), .con (.agg #[.int .i64 t, .slice ia ids.length ic]), .con (.slice ka keys.length kc), .con (.bool bn), .con (.bool false)] := ⟨_, rfl⟩
    have HV := Lib.hid hV
    clear hV
    refine wp_region_inv 19 (fun d a' w' => ∃ x71 x72 x73 x74 x75 x76 x77 x78 x79 x80 x81 x82 x83 x84 x85 x86 x87 x88 x89, a' = ⟨#[.bool hm, .slice va vl.length vc, .agg #[.int .u8 u.kind, .int .i64 u.n, .string u.t, .slice an u.names.length cn, .slice ai u.items.length ci, .slice sa l.length sc], .agg #[.int .i64 t, .slice ia ids.length ic], .slice ka keys.length kc, .agg #[.string ks, .string kp], .string id, undef, undef, .pointer (some ⟨w.heap.size, 0, none⟩), .pointer (some ⟨w.heap.size + 1, 0, none⟩), undef, .pointer (some ⟨w.heap.size + 1 + 1, 0, none⟩), undef, .bool false, x, .int .i64 (n : Int), .string kid, .int .i64 3, .slice a2 (1 + keys.length) c2, undef, undef, undef, .slice va vl.length vc, .bool false, .bool false, .agg #[.int .u8 u.kind, .int .i64 u.n, .string u.t, .slice an u.names.length cn, .slice ai u.items.length ci, .slice sa l.length sc], .agg #[.int .i64 t, .slice ia ids.length ic], .slice ka keys.length kc, .bool false, .bool false, .bool false, .agg #[.string ks, .string kp], .slice (some ⟨w2.heap.size, 0, none⟩) 1 1, .bool false, .bool false, .bool false, .string id, .int .i64 (id.size : Int), .bool (decide (300 < (id.size : Int))), .bool (decide (300 < (id.size : Int))), .bool (decide (300 < (id.size : Int))), .bool true, .bool false, .bool (decide (300 < (id.size : Int))), undef, .bool hm, .slice va vl.length vc, x, x, .agg #[.int .u8 u.kind, .int .i64 u.n, .string u.t, .slice an u.names.length cn, .slice ai u.items.length ci, .slice sa l.length sc], .agg #[.int .i64 t, .slice ia ids.length ic], .slice ka keys.length kc, .int .i64 (n : Int), .tuple #[.string kid, .int .i64 3], .agg #[.string ks, .string kp], .tuple #[.string kid, .int .i64 3], .string kid, .int .i64 3, .int .i64 3, .bool true, .bool true, undef, undef, undef, undef, .bool true, .agg #[.string ks, .string kp], .slice (some ⟨w7.heap.size, 0, none⟩) 1 1, .slice ka keys.length kc, .slice a2 (1 + keys.length) c2, x71, x72, x73, x74, x75, x76, x77, x78, x79, x80, x81, x82, x83, x84, x85, x86, x87, x88, x89, undef, undef, undef, undef, undef, undef, undef, undef, undef, undef, undef, undef, undef, undef, undef, undef, undef, undef, undef, undef, undef, undef, undef, undef, undef, undef, undef, undef, undef, undef, undef, undef, undef, undef, undef, undef, undef, undef, undef], []⟩ ∧ RegI wB V d w' [x71, x72, x73, x74, x75, x76, x77, x78, x79, x80, x81, x82, x83, x84, x85, x86, x87, x88, x89]) (by kernel_rfl) (by kernel_rfl) ?first ?step ?last
    case first => exact ⟨_, _, _, _, _, _, _, _, _, _, _, _, _, _, _, _, _, _, _, rfl, RegI.first _ _ _ (by rw [HV.out]; rfl)⟩
    case step =>
      rintro d a' w' ⟨x71, x72, x73, x74, x75, x76, x77, x78, x79, x80, x81, x82, x83, x84, x85, x86, x87, x88, x89, rfl, h⟩ q hq hn hw
      rcases q with _ | _ | _ | _ | _ | _ | _ | _ | _ | _ | _ | _ | _ | _ | _ | _ | _ | _ | _ | q
      · refine wpOp_step rfl fun K hK => ?_
        go_simp
        exact hK _ _ ⟨_, x72, x73, x74, x75, x76, x77, x78, x79, x80, x81, x82, x83, x84, x85, x86, x87, x88, x89, rfl, h.same 0 _ (.con (x)) (by rw [HV.out]; rfl) rfl⟩
      · obtain ⟨q0, q1, q2, q3, q4, q5, q6, q7, q8, q9⟩ := HS.out w' (HB50.out w' (HBB.out.trans (h.1.mono HBB.out.size)))
        refine wpOp_step rfl fun K hK => ?_
        go_simp
        exact hK _ _ ⟨x71, _, x73, x74, x75, x76, x77, x78, x79, x80, x81, x82, x83, x84, x85, x86, x87, x88, x89, rfl, h.same 1 _ (.con (.agg #[.int .u8 u.kind, .int .i64 u.n, .string u.t, .slice an u.names.length cn, .slice ai u.items.length ci, .slice sa l.length sc])) (by rw [HV.out]; rfl) rfl⟩
      · obtain ⟨q0, q1, q2, q3, q4, q5, q6, q7, q8, q9⟩ := HS.out w' (HB50.out w' (HBB.out.trans (h.1.mono HBB.out.size)))
        refine wpOp_step rfl fun K hK => ?_
        go_simp
        exact hK _ _ ⟨x71, x72, _, x74, x75, x76, x77, x78, x79, x80, x81, x82, x83, x84, x85, x86, x87, x88, x89, rfl, h.same 2 _ (.con (.agg #[.int .i64 t, .slice ia ids.length ic])) (by rw [HV.out]; rfl) rfl⟩
      · refine wpOp_step rfl fun K hK => ?_
        go_simp
        exact hK _ _ ⟨x71, x72, x73, _, x75, x76, x77, x78, x79, x80, x81, x82, x83, x84, x85, x86, x87, x88, x89, rfl, h.same 3 _ (.con (.slice a2 (1 + keys.length) c2)) (by rw [HV.out]; rfl) rfl⟩
      · obtain rfl : x71 = x := h.get 0 (hw _ rfl ⟨0, .data⟩ (by simp) rfl) (.con (x)) (by rw [HV.out]; rfl) _ rfl
        obtain rfl : x72 = .agg #[.int .u8 u.kind, .int .i64 u.n, .string u.t, .slice an u.names.length cn, .slice ai u.items.length ci, .slice sa l.length sc] := h.get 1 (hw _ rfl ⟨1, .data⟩ (by simp) rfl) (.con (.agg #[.int .u8 u.kind, .int .i64 u.n, .string u.t, .slice an u.names.length cn, .slice ai u.items.length ci, .slice sa l.length sc])) (by rw [HV.out]; rfl) _ rfl
        obtain rfl : x73 = .agg #[.int .i64 t, .slice ia ids.length ic] := h.get 2 (hw _ rfl ⟨2, .data⟩ (by simp) rfl) (.con (.agg #[.int .i64 t, .slice ia ids.length ic])) (by rw [HV.out]; rfl) _ rfl
        obtain rfl : x74 = .slice a2 (1 + keys.length) c2 := h.get 3 (hw _ rfl ⟨3, .data⟩ (by simp) rfl) (.con (.slice a2 (1 + keys.length) c2)) (by rw [HV.out]; rfl) _ rfl
        obtain ⟨q0, q1, q2, q3, q4, q5, q6, q7, q8, q9⟩ := HS.out w' (HB50.out w' (HBB.out.trans (h.1.mono HBB.out.size)))
        refine wpOp_step rfl fun K hK => ?_
        go_simp
        refine (HCM.out w' h.1).mono ?_
        rintro e w2 ⟨rfl, hb2⟩
        exact hK _ _ ⟨_, _, _, _, _, x76, x77, x78, x79, x80, x81, x82, x83, x84, x85, x86, x87, x88, x89, rfl, h.did hb2 4 _ (.con (.int .i64 (n : Int))) (by rw [HV.out]; rfl) rfl⟩
      · refine wpOp_step rfl fun K hK => ?_
        go_simp
        exact hK _ _ ⟨x71, x72, x73, x74, x75, _, x77, x78, x79, x80, x81, x82, x83, x84, x85, x86, x87, x88, x89, rfl, h.same 5 _ (.con (.int .i64 (n : Int))) (by rw [HV.out]; rfl) rfl⟩
      · obtain rfl : x75 = .int .i64 (n : Int) := h.get 4 (hw _ rfl ⟨4, .data⟩ (by simp) rfl) (.con (.int .i64 (n : Int))) (by rw [HV.out]; rfl) _ rfl
        obtain rfl : x76 = .int .i64 (n : Int) := h.get 5 (hw _ rfl ⟨5, .data⟩ (by simp) rfl) (.con (.int .i64 (n : Int))) (by rw [HV.out]; rfl) _ rfl
        refine wpOp_step rfl fun K hK => ?_
        go_simp
        exact hK _ _ ⟨x71, x72, x73, x74, _, _, _, x78, x79, x80, x81, x82, x83, x84, x85, x86, x87, x88, x89, rfl, h.same 6 _ (.con (.bool false)) (by rw [HV.out]; rfl) rfl⟩
      · obtain rfl : x77 = .bool false := h.get 6 (hw _ rfl ⟨6, .data⟩ (by simp) rfl) (.con (.bool false)) (by rw [HV.out]; rfl) _ rfl
        refine wpOp_step rfl fun K hK => ?_
        go_simp
        exact hK _ _ ⟨x71, x72, x73, x74, x75, x76, _, _, x79, x80, x81, x82, x83, x84, x85, x86, x87, x88, x89, rfl, h.same 7 _ (.con (.bool false)) (by rw [HV.out]; rfl) rfl⟩
      · obtain rfl : x78 = .bool false := h.get 7 (hw _ rfl ⟨7, .guard⟩ (by simp) rfl) (.con (.bool false)) (by rw [HV.out]; rfl) _ rfl
        refine wpOp_step rfl fun K hK => ?_
        go_simp
        exact hK _ _ ⟨x71, x72, x73, x74, x75, x76, x77, _, _, x80, x81, x82, x83, x84, x85, x86, x87, x88, x89, rfl, h.same 8 _ (.con (x)) (by rw [HV.out]; rfl) rfl⟩
      · obtain rfl : x78 = .bool false := h.get 7 (hw _ rfl ⟨7, .guard⟩ (by simp) rfl) (.con (.bool false)) (by rw [HV.out]; rfl) _ rfl
        obtain ⟨q0, q1, q2, q3, q4, q5, q6, q7, q8, q9⟩ := HS.out w' (HB50.out w' (HBB.out.trans (h.1.mono HBB.out.size)))
        refine wpOp_step rfl fun K hK => ?_
        go_simp
        exact hK _ _ ⟨x71, x72, x73, x74, x75, x76, x77, _, x79, _, x81, x82, x83, x84, x85, x86, x87, x88, x89, rfl, h.same 9 _ (.con (.agg #[.int .u8 u.kind, .int .i64 u.n, .string u.t, .slice an u.names.length cn, .slice ai u.items.length ci, .slice sa l.length sc])) (by rw [HV.out]; rfl) rfl⟩
      · obtain rfl : x78 = .bool false := h.get 7 (hw _ rfl ⟨7, .guard⟩ (by simp) rfl) (.con (.bool false)) (by rw [HV.out]; rfl) _ rfl
        obtain ⟨q0, q1, q2, q3, q4, q5, q6, q7, q8, q9⟩ := HS.out w' (HB50.out w' (HBB.out.trans (h.1.mono HBB.out.size)))
        refine wpOp_step rfl fun K hK => ?_
        go_simp
        exact hK _ _ ⟨x71, x72, x73, x74, x75, x76, x77, _, x79, x80, _, x82, x83, x84, x85, x86, x87, x88, x89, rfl, h.same 10 _ (.con (.agg #[.int .i64 t, .slice ia ids.length ic])) (by rw [HV.out]; rfl) rfl⟩
      · obtain rfl : x78 = .bool false := h.get 7 (hw _ rfl ⟨7, .guard⟩ (by simp) rfl) (.con (.bool false)) (by rw [HV.out]; rfl) _ rfl
        refine wpOp_step rfl fun K hK => ?_
        go_simp
        exact hK _ _ ⟨x71, x72, x73, x74, x75, x76, x77, _, x79, x80, x81, _, x83, x84, x85, x86, x87, x88, x89, rfl, h.same 11 _ (.con (.slice a2 (1 + keys.length) c2)) (by rw [HV.out]; rfl) rfl⟩
      · obtain rfl : x78 = .bool false := h.get 7 (hw _ rfl ⟨7, .chain⟩ (by simp) rfl) (.con (.bool false)) (by rw [HV.out]; rfl) _ rfl
        obtain rfl : x79 = x := h.get 8 (hw _ rfl ⟨8, .data⟩ (by simp) rfl) (.con (x)) (by rw [HV.out]; rfl) _ rfl
        obtain rfl : x80 = .agg #[.int .u8 u.kind, .int .i64 u.n, .string u.t, .slice an u.names.length cn, .slice ai u.items.length ci, .slice sa l.length sc] := h.get 9 (hw _ rfl ⟨9, .data⟩ (by simp) rfl) (.con (.agg #[.int .u8 u.kind, .int .i64 u.n, .string u.t, .slice an u.names.length cn, .slice ai u.items.length ci, .slice sa l.length sc])) (by rw [HV.out]; rfl) _ rfl
        obtain rfl : x81 = .agg #[.int .i64 t, .slice ia ids.length ic] := h.get 10 (hw _ rfl ⟨10, .data⟩ (by simp) rfl) (.con (.agg #[.int .i64 t, .slice ia ids.length ic])) (by rw [HV.out]; rfl) _ rfl
        obtain rfl : x82 = .slice a2 (1 + keys.length) c2 := h.get 11 (hw _ rfl ⟨11, .data⟩ (by simp) rfl) (.con (.slice a2 (1 + keys.length) c2)) (by rw [HV.out]; rfl) _ rfl
        obtain ⟨q0, q1, q2, q3, q4, q5, q6, q7, q8, q9⟩ := HS.out w' (HB50.out w' (HBB.out.trans (h.1.mono HBB.out.size)))
        refine wpOp_step rfl fun K hK => ?_
        go_simp
        refine (HEM.out w' h.1).mono ?_
        rintro e w2 ⟨rfl, hb2⟩
        exact hK _ _ ⟨x71, x72, x73, x74, x75, x76, x77, _, _, _, _, _, _, x84, x85, x86, x87, x88, x89, rfl, h.did hb2 12 _ (.con (.bool bn)) (by rw [HV.out]; rfl) rfl⟩
      · obtain rfl : x78 = .bool false := h.get 7 (hw _ rfl ⟨7, .guard⟩ (by simp) rfl) (.con (.bool false)) (by rw [HV.out]; rfl) _ rfl
        refine wpOp_step rfl fun K hK => ?_
        go_simp
        exact hK _ _ ⟨x71, x72, x73, x74, x75, x76, x77, _, x79, x80, x81, x82, x83, _, x85, x86, x87, x88, x89, rfl, h.same 13 _ (.con (x)) (by rw [HV.out]; rfl) rfl⟩
      · obtain rfl : x78 = .bool false := h.get 7 (hw _ rfl ⟨7, .guard⟩ (by simp) rfl) (.con (.bool false)) (by rw [HV.out]; rfl) _ rfl
        obtain ⟨q0, q1, q2, q3, q4, q5, q6, q7, q8, q9⟩ := HS.out w' (HB50.out w' (HBB.out.trans (h.1.mono HBB.out.size)))
        refine wpOp_step rfl fun K hK => ?_
        go_simp
        exact hK _ _ ⟨x71, x72, x73, x74, x75, x76, x77, _, x79, x80, x81, x82, x83, x84, _, x86, x87, x88, x89, rfl, h.same 14 _ (.con (.agg #[.int .u8 u.kind, .int .i64 u.n, .string u.t, .slice an u.names.length cn, .slice ai u.items.length ci, .slice sa l.length sc])) (by rw [HV.out]; rfl) rfl⟩
      · obtain rfl : x78 = .bool false := h.get 7 (hw _ rfl ⟨7, .guard⟩ (by simp) rfl) (.con (.bool false)) (by rw [HV.out]; rfl) _ rfl
        obtain ⟨q0, q1, q2, q3, q4, q5, q6, q7, q8, q9⟩ := HS.out w' (HB50.out w' (HBB.out.trans (h.1.mono HBB.out.size)))
        refine wpOp_step rfl fun K hK => ?_
        go_simp
        exact hK _ _ ⟨x71, x72, x73, x74, x75, x76, x77, _, x79, x80, x81, x82, x83, x84, x85, _, x87, x88, x89, rfl, h.same 15 _ (.con (.agg #[.int .i64 t, .slice ia ids.length ic])) (by rw [HV.out]; rfl) rfl⟩
      · obtain rfl : x78 = .bool false := h.get 7 (hw _ rfl ⟨7, .guard⟩ (by simp) rfl) (.con (.bool false)) (by rw [HV.out]; rfl) _ rfl
        refine wpOp_step rfl fun K hK => ?_
        go_simp
        exact hK _ _ ⟨x71, x72, x73, x74, x75, x76, x77, _, x79, x80, x81, x82, x83, x84, x85, x86, _, x88, x89, rfl, h.same 16 _ (.con (.slice ka keys.length kc)) (by rw [HV.out]; rfl) rfl⟩
      · obtain rfl : x78 = .bool false := h.get 7 (hw _ rfl ⟨7, .guard⟩ (by simp) rfl) (.con (.bool false)) (by rw [HV.out]; rfl) _ rfl
        obtain rfl : x84 = x := h.get 13 (hw _ rfl ⟨13, .data⟩ (by simp) rfl) (.con (x)) (by rw [HV.out]; rfl) _ rfl
        obtain rfl : x85 = .agg #[.int .u8 u.kind, .int .i64 u.n, .string u.t, .slice an u.names.length cn, .slice ai u.items.length ci, .slice sa l.length sc] := h.get 14 (hw _ rfl ⟨14, .data⟩ (by simp) rfl) (.con (.agg #[.int .u8 u.kind, .int .i64 u.n, .string u.t, .slice an u.names.length cn, .slice ai u.items.length ci, .slice sa l.length sc])) (by rw [HV.out]; rfl) _ rfl
        obtain rfl : x86 = .agg #[.int .i64 t, .slice ia ids.length ic] := h.get 15 (hw _ rfl ⟨15, .data⟩ (by simp) rfl) (.con (.agg #[.int .i64 t, .slice ia ids.length ic])) (by rw [HV.out]; rfl) _ rfl
        obtain rfl : x87 = .slice ka keys.length kc := h.get 16 (hw _ rfl ⟨16, .data⟩ (by simp) rfl) (.con (.slice ka keys.length kc)) (by rw [HV.out]; rfl) _ rfl
        obtain ⟨q0, q1, q2, q3, q4, q5, q6, q7, q8, q9⟩ := HS.out w' (HB50.out w' (HBB.out.trans (h.1.mono HBB.out.size)))
        refine wpOp_step rfl fun K hK => ?_
        go_simp
        refine (HEN.out w' (HBB.out.trans (h.1.mono HBB.out.size))).mono ?_
        rintro e w2 ⟨rfl, hb2⟩
        exact hK _ _ ⟨x71, x72, x73, x74, x75, x76, x77, _, x79, x80, x81, x82, x83, _, _, _, _, _, x89, rfl, h.did hb2 17 _ (.con (.bool bn)) (by rw [HV.out]; rfl) rfl⟩
      · obtain rfl : x78 = .bool false := h.get 7 (hw _ rfl ⟨7, .guard⟩ (by simp) rfl) (.con (.bool false)) (by rw [HV.out]; rfl) _ rfl
        obtain rfl : x83 = .bool bn := h.get 12 (hw _ rfl ⟨12, .data⟩ (by simp) rfl) (.con (.bool bn)) (by rw [HV.out]; rfl) _ rfl
        obtain rfl : x88 = .bool bn := h.get 17 (hw _ rfl ⟨17, .data⟩ (by simp) rfl) (.con (.bool bn)) (by rw [HV.out]; rfl) _ rfl
        refine wpOp_step rfl fun K hK => ?_
        go_simp
        exact hK _ _ ⟨x71, x72, x73, x74, x75, x76, x77, _, x79, x80, x81, x82, _, x84, x85, x86, x87, _, _, rfl, h.same 18 _ (.con (.bool false)) (by rw [HV.out]; rfl) rfl⟩
      · omega
    case last =>
      rintro d a' w' hall ⟨x71, x72, x73, x74, x75, x76, x77, x78, x79, x80, x81, x82, x83, x84, x85, x86, x87, x88, x89, rfl, h⟩
      have hle := h.1
      obtain rfl : x78 = .bool false := h.get 7 (hall _ (by omega)) (.con (.bool false)) (by rw [HV.out]; rfl) _ rfl
      obtain rfl : x89 = .bool false := h.get 18 (hall _ (by omega)) (.con (.bool false)) (by rw [HV.out]; rfl) _ rfl
      have HLE := Lib.hid hle
      clear h hall hle HV
      have HBX := Lib.hid (HBB.out.trans (HLE.out.mono HBB.out.size))
      obtain ⟨q0, q1, q2, q3, q4, q5, q6, q7, q8, q9⟩ := HS.out w' (HB50.out w' HBX.out)
      have hzX : w.heap.size + 3 ≤ w'.heap.size := by have := (HB50.out w' HBX.out).size; have := HZ0.out; omega
      obtain ⟨wA, hwA⟩ : ∃ wA, wA = w'.alloc (.cells #[.int .i64 t, .slice ia ids.length ic] 49) := ⟨_, rfl⟩
      have HZA := Lib.hid (show wA.heap.size = w'.heap.size + 1 by rw [hwA]; simp)
      have HBA := Lib.hid (show Below w5.heap.size w5 wA by rw [hwA]; exact HBX.out.alloc HBX.out.size _)
      have HXA := Lib.hid (show wA.heap[w'.heap.size]? = some (.cells #[.int .i64 t, .slice ia ids.length ic] 49 (0, 0)) by rw [hwA]; exact heap_alloc_new _ _)
      have HWA := Lib.hid hwA
      have hda := (HS.out _ (HB50.out _ (HBA.out.alloc HBA.out.size (.cells #[] 9)))).2.2.2.2.2.2.2.1
      have HN5 := Lib.hid (news_strs (HI.out wA (HB50.out wA HBA.out)).strs (.cells #[] 9))
      have HL5 := Lib.hid (show (ids.map Value.string).length = ids.length * 1 by simp)
      have HO5 := Lib.hid (strs_one ids)
      have hd1 : 0 + ids.length ≤ maxLen := by have := HNL.out.idlen; unfold maxLen; omega
      have hd2 : (0 + ids.length) * 16 ≤ 140737488355328 := by have := HNL.out.idlen; omega
      have hd3 : wA.heap.size ≤ (wA.alloc (.cells #[] 9)).heap.size := by simp
      rw [hwA] at hda
      clear hwA
      go_wp2_with (at_builtin; first | (rw [← HWA.out]; refine wpList_append_any _ rfl (.tmp 92) (.tmp 94) 41 rfl wA.heap.size 9 i2 _ 1 16 Tryz.underlying41 hi2 hx0 hx1 hx2 rfl (by decide) _ 0 [] rfl (by have h := World.ownsRow_made (base := wA.heap.size) (e := 9) (size := 1) wA #[] 0 (Nat.le_refl _) (Nat.zero_le _) (by simp); rw [HZA.out] at h ⊢; exact h) _ ids.length ic (ids.map .string) rfl HL5.out HN5.out HO5.out hd1 hd2 hd3 _ rfl ?_))
      intro a5 c5 wC hown5 hgrow5 hat5
      have hown5 : wC.ownsRow wA.heap.size 9 1 (.slice a5 ids.length c5) ids.length (ids.map .string) := by simpa using hown5
      have hbc : Below wA.heap.size wA wC := ((Below.refl _ _).alloc (Nat.le_refl _) _).grown hgrow5 (by simp) (by intro k hk; have := HZA.out; simp [Value.ownBlock] at hk; omega)
      have HBC := Lib.hid (HBA.out.trans (hbc.mono HBA.out.size))
      have HXC := Lib.hid ((hbc.block _ (by have := HZA.out; omega)).trans HXA.out)
      have HZC := Lib.hid hbc.size
      have HOW := Lib.hid hown5
      have HX6 := Lib.hid (World.news_of_block (cs := #[.string id]) (heap_alloc_new wC (.cells #[.string id] 9)))
      have HONE := Lib.hid (show ∀ u ∈ Array.toList #[Value.string id], u.oneCell' = true by simp [Value.oneCell'])
      have he1 : ids.length + 1 ≤ maxLen := by have := HNL.out.idlen; unfold maxLen; omega
      have he2 : (ids.length + 1) * 16 ≤ 140737488355328 := by have := HNL.out.idlen; omega
      have he3 : wA.heap.size ≤ (wC.alloc (.cells #[.string id] 9)).heap.size := by have := HZC.out; simp; omega
      clear hown5 hgrow5 hat5 hbc HN5 HL5 HO5 hd1 hd2 hd3 hda q0 q1 q2 q3 q4 q5 q6 q7 q8 q9
      go_wp2_with (at_builtin; refine wpList_append_lies _ rfl (.tmp 95) (.tmp 97) 41 rfl wA.heap.size 9 i2 _ 1 16 Tryz.underlying41 hi2 hx0 hx1 hx2 rfl (by decide) (.slice a5 ids.length c5) ids.length (ids.map .string) rfl (HOW.out.alloc _) ⟨wC.heap.size, 0, none⟩ 1 1 (Array.toList #[.string id]) rfl rfl HX6.out HONE.out (by decide) he1 he2 he3 _ rfl ?_)
      intro g6 c6 wD hown6 hgrow6 hat6 hlt6
      have hbd : Below wA.heap.size wC wD := ((Below.refl wA.heap.size wC).alloc HZC.out _).grown hgrow6 he3 (fun k hk => (HOW.out.lt k hk).1)
      have HXD := Lib.hid ((hbd.block _ (by have := HZA.out; omega)).trans HXC.out)
      have HG6 := Lib.hid (show wA.heap.size ≤ g6 by rcases hat6 with h | h; exact (HOW.out.lt g6 h).1; have := HZC.out; omega)
      have HO6 := Lib.hid (show wD.ownsRow wA.heap.size 9 1 (.slice (some ⟨g6, 0, none⟩) (ids.length + 1) c6) (ids.length + 1) ((ids ++ [id]).map .string) by rw [List.map_append]; exact hown6)
      have HBD := Lib.hid (HBC.out.trans (hbd.mono (Nat.le_trans HBA.out.size (Nat.le_refl _)))) 
      have c1d : wD.cell? ⟨w'.heap.size, 1, none⟩ = some (.slice ia ids.length ic) := box_cell HXD.out rfl
      have f1d : wD.frozen? ⟨w'.heap.size, 1, none⟩ = false := by simp only [World.frozen?, HXD.out]; simp
      clear hown6 hgrow6 hat6 hlt6 hbd HX6 HONE he1 he2 he3
      go_wp2_with fail
      obtain ⟨wE, hwE⟩ : ∃ wE, wE = wD.setCell ⟨w'.heap.size, 1, none⟩ (.slice (some ⟨g6, 0, none⟩) (ids.length + 1) c6) := ⟨_, rfl⟩
      have HBE := Lib.hid (show Below w5.heap.size w5 wE by rw [hwE]; exact HBD.out.setCell (by show w5.heap.size ≤ w'.heap.size; exact HBX.out.size) _)
      have HXE := Lib.hid (show wE.heap[w'.heap.size]? = some (.cells #[.int .i64 t, .slice (some ⟨g6, 0, none⟩) (ids.length + 1) c6] 49 (0, 0)) by rw [hwE]; simp [World.setCell, Array.getElem?_modify, HXD.out])
      have HSE := Lib.hid (show StrsAt wE 0 wE.heap.size (some ⟨g6, 0, none⟩) (ids ++ [id]) by
        obtain ⟨ja, jc, hjv, -, hjS⟩ := owns_strs HO6.out (by simp)
        simp only [Value.slice.injEq] at hjv
        rw [← hjv.1] at hjS
        refine hjS.carry (Nat.zero_le _) (by rw [hwE]; simp [World.setCell]) fun b h1 h2 => ?_
        rw [hwE, Below.heap_setCell _ _ _ _ (by have := HZA.out; show b ≠ w'.heap.size; omega)])
      rw [← hwE]
      clear hwE c1d f1d
      have HFD := Lib.hid (keyFind keys id ka kc wE (HI.out wE (HB50.out wE HBE.out)).rows (by have := HNL.out.keylen; omega) HNL.out.keysizes (HT.out wE (HB50.out wE HBE.out)))
      unfold KFindPost at HFD
      obtain ⟨⟨⟨f1, f2⟩, fb⟩, hf⟩ : ∃ r : Key2 × Bool, r = findK id keys := ⟨_, rfl⟩
      rw [← hf] at HFD
      have HFB := Lib.hid (show (findK id keys).2 = fb by rw [← hf])
      clear hf
      refine HFD.out.mono ?_
      clear HFD
      rintro e wF ⟨rfl, hbf⟩
      obtain ⟨wG, hwG⟩ : ∃ wG, wG = wF.alloc (.cells #[.string f1, .string f2] 24) := ⟨_, rfl⟩
      have hbg : Below wE.heap.size wE wG := by rw [hwG]; exact hbf.alloc hbf.size _
      have HBG := Lib.hid (HBE.out.trans (hbg.mono HBE.out.size))
      have HXG := Lib.hid ((hbg.block _ (heap_lt HXE.out)).trans HXE.out)
      have HSG := Lib.hid (HSE.out.below hbg (Nat.le_refl _) (Nat.le_refl _) hbg.size)
      have HWG := Lib.hid hwG
      clear hbf hbg hwG
      have hlen : (ids ++ [id]).length = ids.length + 1 := by simp
      have HIZ := Lib.hid (show ∀ s ∈ ids ++ [id], s.size ≤ 1000000 from fun s hs => by
        rcases List.mem_append.1 hs with hs | hs
        · have := HNL.out.idsizes s hs; omega
        · rw [List.mem_singleton] at hs; subst hs; omega)
      obtain ⟨A1, hA1⟩ : ∃ A1, A1 = authOk t ids := ⟨_, rfl⟩
      obtain ⟨A2, hA2⟩ : ∃ A2, A2 = authOk t (ids ++ [id]) := ⟨_, rfl⟩
      have HG5 := Lib.hid (show ∀ w', Below wG.heap.size wG w' → Below w5.heap.size w5 w' from fun w' h => HBG.out.trans (h.mono HBG.out.size))
      have HM1 := Lib.hid (show ∀ w' : World, Below wG.heap.size wG w' → Calls Tryz.prog 32 #[.agg #[.int .i64 t, .slice ia ids.length ic]] w' (fun e w'' => e = .returned (.bool A1) ∧ Below w'.heap.size w' w'') from fun w' h => by
        rw [hA1]; exact authMay t ids ia ic w' (HI.out w' (HB50.out w' (HG5.out w' h))).strs fun s hs => HIZ.out s (List.mem_append.2 (.inl hs)))
      have HM2 := Lib.hid (show ∀ w' : World, Below wG.heap.size wG w' → Calls Tryz.prog 32 #[.agg #[.int .i64 t, .slice (some ⟨g6, 0, none⟩) (ids.length + 1) c6]] w' (fun e w'' => e = .returned (.bool A2) ∧ Below w'.heap.size w' w'') from fun w' h => by
        have := authMay t (ids ++ [id]) (some ⟨g6, 0, none⟩) c6 w' (HSG.out.below h (Nat.le_refl _) (Nat.le_refl _) h.size) HIZ.out
        rwa [hlen, ← hA2] at this)
      have HL5 := Lib.hid (show ∀ w' : World, Below wG.heap.size wG w' → Calls Tryz.prog 38 #[.slice (some ⟨w'.heap.size, 0, none⟩) 1 1] (w'.alloc (.cells #[.int .i64 t, .slice (some ⟨g6, 0, none⟩) (ids.length + 1) c6] 49)) (fun e w'' => ∃ b : Bool, e = .returned (.bool b) ∧ Below w'.heap.size w' w'') from fun w' h => by
        refine (lawLong15 t (ids ++ [id]) (some ⟨g6, 0, none⟩) c6 w'.heap.size _ (by rw [hlen]; exact heap_alloc_new w' _) ((HSG.out.below h (Nat.le_refl _) (Nat.le_refl _) h.size).below ((Below.refl _ _).alloc (Nat.le_refl _) _) (Nat.le_refl _) (Nat.le_refl _) (by simp)) (by have := HNL.out.idlen; rw [hlen]; omega)).mono ?_
        rintro e w2 ⟨b, rfl, _, rfl⟩
        exact ⟨b, rfl, (Below.refl _ _).alloc (Nat.le_refl _) _⟩)
      have HC2 := Lib.hid (show fb = false → A1 = true → A2 = true → ∀ w' : World, Below wG.heap.size wG w' → Calls Tryz.prog 21 #[x, .agg #[.int .u8 u.kind, .int .i64 u.n, .string u.t, .slice an u.names.length cn, .slice ai u.items.length ci, .slice sa l.length sc], .agg #[.int .i64 t, .slice (some ⟨g6, 0, none⟩) (ids.length + 1) c6], .slice ka keys.length kc] w' (fun e w'' => e = .returned (.int .i64 (n : Int)) ∧ Below w'.heap.size w' w'') from fun e0 e1 e2 w' h => by
        have h5 := HG5.out w' h
        have hI := HI.out w' (HB50.out w' h5)
        have hc := judgeCount v x u l an ai sa cn ci sc t (ids ++ [id]) (some ⟨g6, 0, none⟩) c6 keys ka kc w' (HXV.out w' h5) (HNL.out.env hI) ⟨HSG.out.below h (Nat.le_refl _) (Nat.le_refl _) h.size, HIZ.out, by have := HNL.out.idlen; rw [hlen]; omega⟩ (HNL.out.row hI) HNUM.out (HP.out w' (HB50.out w' h5)) (HT.out w' (HB50.out w' h5))
        rw [who_ids (by rw [HFB.out, e0]) (by rw [← hA1, e1]) (by rw [← hA2, e2]), ← HN.out, hlen] at hc
        exact hc)
      have HSB := Lib.hid (show ∀ wz : World, Below wG.heap.size wG wz → wz.cell? ⟨w'.heap.size, 0, none⟩ = some (.int .i64 t) ∧ wz.cell? ⟨w'.heap.size, 1, none⟩ = some (.slice (some ⟨g6, 0, none⟩) (ids.length + 1) c6) from fun wz h => by
        have y0 := (h.block _ (heap_lt HXG.out)).trans HXG.out
        exact ⟨box_cell y0 rfl, box_cell y0 rfl⟩)
      have HBR := Lib.hid (show ∀ w' : World, Below wG.heap.size wG w' → Below w.heap.size w w' from fun w' h => HBT.out w' (HB50.out w' (HG5.out w' h)))
      clear hA1 hA2 hlen
      obtain ⟨q0, q1, q2, q3, q4, q5, q6, q7, q8, q9⟩ := HS.out wG (HB50.out wG HBG.out)
      rw [HWG.out] at q0 q1 q2 q3 q4 q5 q6 q7 q8 q9
      cases fb
      case true =>
        go_wp2
        go_ret
        exact ⟨rfl, by rw [← HWG.out]; exact HBR.out wG (Below.refl _ _)⟩
      go_wp2_with fail
      rw [← HWG.out]
      refine (HM1.out wG (Below.refl _ _)).mono ?_
      clear q0 q1 q2 q3 q4 q5 q6 q7 q8 q9 hzX
      rintro e wH ⟨rfl, hbh⟩
      have HBH := Lib.hid hbh
      clear hbh
      cases A1
      case false =>
        go_wp2
        go_ret
        exact ⟨rfl, HBR.out wH HBH.out⟩
      obtain ⟨r0, r1⟩ := HSB.out wH HBH.out
      go_wp2_with fail
      refine (HM2.out wH HBH.out).mono ?_
      clear r0 r1
      rintro e wI ⟨rfl, hbi⟩
      have HBI := Lib.hid (HBH.out.trans (hbi.mono HBH.out.size))
      clear hbi
      cases A2
      case false =>
        go_wp2
        go_ret
        exact ⟨rfl, HBR.out wI HBI.out⟩
      obtain ⟨r0, r1⟩ := HSB.out wI HBI.out
      go_wp2_with fail
      refine (HL5.out wI HBI.out).mono ?_
      clear r0 r1
      rintro e wJ ⟨b, rfl, hbj⟩
      have HBJ := Lib.hid (HBI.out.trans (hbj.mono HBI.out.size))
      clear hbj
      cases b
      case true =>
        go_wp2
        go_ret
        exact ⟨rfl, HBR.out wJ HBJ.out⟩
      obtain ⟨r0, r1⟩ := HSB.out wJ HBJ.out
      obtain ⟨q0, q1, q2, q3, q4, q5, q6, q7, q8, q9⟩ := HS.out wJ (HB50.out wJ (HG5.out wJ HBJ.out))
      go_wp2_with fail
      refine (HC2.out (by simp) (by simp) (by simp) wJ HBJ.out).mono ?_
      clear r0 r1 q0 q1 q2 q3 q4 q5 q6 q7 q8 q9
      rintro e wK ⟨rfl, hbk⟩
      have HBK := Lib.hid (HBJ.out.trans (hbk.mono HBJ.out.size))
      clear hbk
      go_wp2
      go_ret
      exact ⟨rfl, HBR.out wK HBK.out⟩
  · rw [if_pos rfl]
    have HHA := Lib.hid (authHas t ids kid ia ic w7 (HI.out w7 (HB50.out w7 HB7.out)).strs (HI.out w7 (HB50.out w7 HB7.out)).lids)
    obtain ⟨hs, hhs⟩ : ∃ hs, hs = (ids.any fun i => decide (i = kid)) := ⟨_, rfl⟩
    rw [← hhs] at HHA
    have HHS := Lib.hid hhs
    clear hhs
    go_wp2_with fail
    refine HHA.out.mono ?_
    clear HHA q0 q1 q2 q3 q4 q5 q6 q7 q8 q9
    rintro e w8 ⟨rfl, hb8⟩
    have HB8 := Lib.hid (HB7.out.trans (hb8.mono HB7.out.size))
    clear hb8
    obtain ⟨q0, q1, q2, q3, q4, q5, q6, q7, q8, q9⟩ := HS.out w8 (HB50.out w8 HB8.out)
    cases hs
    · have HWK := Lib.hid (show ok2 (ks, kp) = true → id2 (ks, kp) ∉ ids from fun _ hm => by
        have h := HHS.out
        rw [← HKI.out] at hm
        have : (ids.any fun i => decide (i = kid)) = true := List.any_eq_true.2 ⟨kid, hm, by simp⟩
        rw [this] at h; cases h)
      have HN2 := Lib.hid (news_keys (HI.out w8 (HB50.out w8 HB8.out)).rows (.cells #[.string ks, .string kp] 24))
      have HL2 := Lib.hid (keys_len keys)
      have HO2 := Lib.hid (keys_one keys)
      have HLZ := HNL.out.keylen
      have hc1 : 1 + keys.length ≤ maxLen := by unfold maxLen; omega
      have hc2 : (1 + keys.length) * 32 ≤ 140737488355328 := by omega
      have hc3 : w8.heap.size ≤ (w8.alloc (.cells #[.string ks, .string kp] 24)).heap.size := by simp
      go_wp2_with (at_builtin; refine wpList_append_any _ rfl (.tmp 68) (.tmp 69) 29 rfl w8.heap.size 24 i1 _ 2 32 Tryz.underlying29 hi1 hy0 hy1 hy2 rfl (by decide) _ 1 (Array.toList #[.string ks, .string kp]) rfl (own_one w8 24 #[.string ks, .string kp] rfl) _ keys.length kc (keys.flatMap encK) rfl HL2.out HN2.out HO2.out hc1 hc2 hc3 _ rfl ?_)
      intro a2 c2 wB hown2 hgrow2 hat2
      have hbb : Below w8.heap.size w8 wB := ((Below.refl _ _).alloc (Nat.le_refl _) _).grown hgrow2 (by simp) (by intro k hk; simp [Value.ownBlock] at hk; omega)
      have HBB := Lib.hid (HB8.out.trans (hbb.mono HB8.out.size))
      have hmk : KeysAt wB w8.heap.size wB.heap.size a2 ((ks, kp) :: keys) := by
        obtain ⟨a', c', e', h'⟩ := owns_keys (M := (ks, kp) :: keys) hown2 (by simp; omega)
        simp only [Value.slice.injEq] at e'
        rw [e'.1]; exact h'
      have HKM := Lib.hid (show KeyRow wB ((ks, kp) :: keys) a2 from ⟨hmk.carry (Nat.zero_le _) (Nat.le_refl _) fun _ _ _ => rfl, by simp; omega, fun k hk => by
        rcases List.mem_cons.1 hk with rfl | hk
        · exact HKZ.out
        · exact HNL.out.keysizes k hk⟩)
      clear hown2 hgrow2 hat2 hbb hmk HN2 HL2 HO2 q0 q1 q2 q3 q4 q5 q6 q7 q8 q9
      have HCM := Lib.hid (show ∀ w' : World, Below wB.heap.size wB w' → Calls Tryz.prog 21 #[x, .agg #[.int .u8 u.kind, .int .i64 u.n, .string u.t, .slice an u.names.length cn, .slice ai u.items.length ci, .slice sa l.length sc], .agg #[.int .i64 t, .slice ia ids.length ic], .slice a2 (1 + keys.length) c2] w' (fun e w'' => e = .returned (.int .i64 (n : Int)) ∧ Below w'.heap.size w' w'') from fun w' h => by
        have h5 := HBB.out.trans (h.mono HBB.out.size)
        have hI := HI.out w' (HB50.out w' h5)
        have hc := judgeCount v x u l an ai sa cn ci sc t ids ia ic ((ks, kp) :: keys) a2 c2 w' (HXV.out w' h5) (HNL.out.env hI) (HNL.out.auth hI) (HKM.out.below h) HNUM.out (HP.out w' (HB50.out w' h5)) (HT.out w' (HB50.out w' h5))
        rw [who_keys HWK.out, ← HN.out, show ((ks, kp) :: keys).length = 1 + keys.length by simp [Nat.add_comm]] at hc
        exact hc)
      have HEM := Lib.hid (show ∀ w' : World, Below wB.heap.size wB w' → Calls Tryz.prog 23 #[x, .agg #[.int .u8 u.kind, .int .i64 u.n, .string u.t, .slice an u.names.length cn, .slice ai u.items.length ci, .slice sa l.length sc], .agg #[.int .i64 t, .slice ia ids.length ic], .slice a2 (1 + keys.length) c2] w' (fun e w'' => e = .returned (.bool bn) ∧ Below w'.heap.size w' w'') from fun w' h => by
        have h5 := HBB.out.trans (h.mono HBB.out.size)
        have hI := HI.out w' (HB50.out w' h5)
        have hc := judgeEnough v x u l an ai sa cn ci sc t ids ia ic ((ks, kp) :: keys) a2 c2 w' (HXV.out w' h5) (HNL.out.env hI) (HNL.out.auth hI) (HKM.out.below h) HNUM.out (HP.out w' (HB50.out w' h5)) (HT.out w' (HB50.out w' h5))
        rw [show enoughV v u l t ids ((ks, kp) :: keys) = enoughV v u l t ids keys by unfold enoughV; rw [who_keys HWK.out], ← HBN.out, show ((ks, kp) :: keys).length = 1 + keys.length by simp [Nat.add_comm]] at hc
        exact hc)
      go_wp2_with fail
      obtain ⟨V, hV⟩ : ∃ V : List MP, V = [.con (x), .con (.agg #[.int .u8 u.kind, .int .i64 u.n, .string u.t, .slice an u.names.length cn, .slice ai u.items.length ci, .slice sa l.length sc]), .con (.agg #[.int .i64 t, .slice ia ids.length ic]), .con (.slice a2 (1 + keys.length) c2), .con (.int .i64 (n : Int)), .con (.int .i64 (n : Int)), .con (.bool false), .con (.bool false), .con (x), .con (.agg #[.int .u8 u.kind, .int .i64 u.n, .string u.t, .slice an u.names.length cn, .slice ai u.items.length ci, .slice sa l.length sc]), .con (.agg #[.int .i64 t, .slice ia ids.length ic]), .con (.slice a2 (1 + keys.length) c2), .con (.bool bn), .con (x), .con (.agg #[.int .u8 u.kind, .int .i64 u.n, .string u.t, .slice an u.names.length cn, .slice ai u.items.length ci, .slice sa l.length sc]), .con (.agg #[.int .i64 t, .slice ia ids.length ic]), .con (.slice ka keys.length kc), .con (.bool bn), .con (.bool false)] := ⟨_, rfl⟩
      have HV := Lib.hid hV
      clear hV
      refine wp_region_inv 19 (fun d a' w' => ∃ x71 x72 x73 x74 x75 x76 x77 x78 x79 x80 x81 x82 x83 x84 x85 x86 x87 x88 x89, a' = ⟨#[.bool hm, .slice va vl.length vc, .agg #[.int .u8 u.kind, .int .i64 u.n, .string u.t, .slice an u.names.length cn, .slice ai u.items.length ci, .slice sa l.length sc], .agg #[.int .i64 t, .slice ia ids.length ic], .slice ka keys.length kc, .agg #[.string ks, .string kp], .string id, undef, undef, .pointer (some ⟨w.heap.size, 0, none⟩), .pointer (some ⟨w.heap.size + 1, 0, none⟩), undef, .pointer (some ⟨w.heap.size + 1 + 1, 0, none⟩), undef, .bool false, x, .int .i64 (n : Int), .string kid, .int .i64 0, .slice a2 (1 + keys.length) c2, undef, undef, undef, .slice va vl.length vc, .bool false, .bool false, .agg #[.int .u8 u.kind, .int .i64 u.n, .string u.t, .slice an u.names.length cn, .slice ai u.items.length ci, .slice sa l.length sc], .agg #[.int .i64 t, .slice ia ids.length ic], .slice ka keys.length kc, .bool false, .bool false, .bool false, .agg #[.string ks, .string kp], .slice (some ⟨w2.heap.size, 0, none⟩) 1 1, .bool false, .bool false, .bool false, .string id, .int .i64 (id.size : Int), .bool (decide (300 < (id.size : Int))), .bool (decide (300 < (id.size : Int))), .bool (decide (300 < (id.size : Int))), .bool true, .bool false, .bool (decide (300 < (id.size : Int))), undef, .bool hm, .slice va vl.length vc, x, x, .agg #[.int .u8 u.kind, .int .i64 u.n, .string u.t, .slice an u.names.length cn, .slice ai u.items.length ci, .slice sa l.length sc], .agg #[.int .i64 t, .slice ia ids.length ic], .slice ka keys.length kc, .int .i64 (n : Int), .tuple #[.string kid, .int .i64 0], .agg #[.string ks, .string kp], .tuple #[.string kid, .int .i64 0], .string kid, .int .i64 0, .int .i64 0, .bool false, .bool false, .agg #[.int .i64 t, .slice ia ids.length ic], .string kid, .bool false, .bool true, .bool true, .agg #[.string ks, .string kp], .slice (some ⟨w8.heap.size, 0, none⟩) 1 1, .slice ka keys.length kc, .slice a2 (1 + keys.length) c2, x71, x72, x73, x74, x75, x76, x77, x78, x79, x80, x81, x82, x83, x84, x85, x86, x87, x88, x89, undef, undef, undef, undef, undef, undef, undef, undef, undef, undef, undef, undef, undef, undef, undef, undef, undef, undef, undef, undef, undef, undef, undef, undef, undef, undef, undef, undef, undef, undef, undef, undef, undef, undef, undef, undef, undef, undef, undef], []⟩ ∧ RegI wB V d w' [x71, x72, x73, x74, x75, x76, x77, x78, x79, x80, x81, x82, x83, x84, x85, x86, x87, x88, x89]) (by kernel_rfl) (by kernel_rfl) ?first ?step ?last
      case first => exact ⟨_, _, _, _, _, _, _, _, _, _, _, _, _, _, _, _, _, _, _, rfl, RegI.first _ _ _ (by rw [HV.out]; rfl)⟩
      case step =>
        rintro d a' w' ⟨x71, x72, x73, x74, x75, x76, x77, x78, x79, x80, x81, x82, x83, x84, x85, x86, x87, x88, x89, rfl, h⟩ q hq hn hw
        rcases q with _ | _ | _ | _ | _ | _ | _ | _ | _ | _ | _ | _ | _ | _ | _ | _ | _ | _ | _ | q
        · refine wpOp_step rfl fun K hK => ?_
          go_simp
          exact hK _ _ ⟨_, x72, x73, x74, x75, x76, x77, x78, x79, x80, x81, x82, x83, x84, x85, x86, x87, x88, x89, rfl, h.same 0 _ (.con (x)) (by rw [HV.out]; rfl) rfl⟩
        · obtain ⟨q0, q1, q2, q3, q4, q5, q6, q7, q8, q9⟩ := HS.out w' (HB50.out w' (HBB.out.trans (h.1.mono HBB.out.size)))
          refine wpOp_step rfl fun K hK => ?_
          go_simp
          exact hK _ _ ⟨x71, _, x73, x74, x75, x76, x77, x78, x79, x80, x81, x82, x83, x84, x85, x86, x87, x88, x89, rfl, h.same 1 _ (.con (.agg #[.int .u8 u.kind, .int .i64 u.n, .string u.t, .slice an u.names.length cn, .slice ai u.items.length ci, .slice sa l.length sc])) (by rw [HV.out]; rfl) rfl⟩
        · obtain ⟨q0, q1, q2, q3, q4, q5, q6, q7, q8, q9⟩ := HS.out w' (HB50.out w' (HBB.out.trans (h.1.mono HBB.out.size)))
          refine wpOp_step rfl fun K hK => ?_
          go_simp
          exact hK _ _ ⟨x71, x72, _, x74, x75, x76, x77, x78, x79, x80, x81, x82, x83, x84, x85, x86, x87, x88, x89, rfl, h.same 2 _ (.con (.agg #[.int .i64 t, .slice ia ids.length ic])) (by rw [HV.out]; rfl) rfl⟩
        · refine wpOp_step rfl fun K hK => ?_
          go_simp
          exact hK _ _ ⟨x71, x72, x73, _, x75, x76, x77, x78, x79, x80, x81, x82, x83, x84, x85, x86, x87, x88, x89, rfl, h.same 3 _ (.con (.slice a2 (1 + keys.length) c2)) (by rw [HV.out]; rfl) rfl⟩
        · obtain rfl : x71 = x := h.get 0 (hw _ rfl ⟨0, .data⟩ (by simp) rfl) (.con (x)) (by rw [HV.out]; rfl) _ rfl
          obtain rfl : x72 = .agg #[.int .u8 u.kind, .int .i64 u.n, .string u.t, .slice an u.names.length cn, .slice ai u.items.length ci, .slice sa l.length sc] := h.get 1 (hw _ rfl ⟨1, .data⟩ (by simp) rfl) (.con (.agg #[.int .u8 u.kind, .int .i64 u.n, .string u.t, .slice an u.names.length cn, .slice ai u.items.length ci, .slice sa l.length sc])) (by rw [HV.out]; rfl) _ rfl
          obtain rfl : x73 = .agg #[.int .i64 t, .slice ia ids.length ic] := h.get 2 (hw _ rfl ⟨2, .data⟩ (by simp) rfl) (.con (.agg #[.int .i64 t, .slice ia ids.length ic])) (by rw [HV.out]; rfl) _ rfl
          obtain rfl : x74 = .slice a2 (1 + keys.length) c2 := h.get 3 (hw _ rfl ⟨3, .data⟩ (by simp) rfl) (.con (.slice a2 (1 + keys.length) c2)) (by rw [HV.out]; rfl) _ rfl
          obtain ⟨q0, q1, q2, q3, q4, q5, q6, q7, q8, q9⟩ := HS.out w' (HB50.out w' (HBB.out.trans (h.1.mono HBB.out.size)))
          refine wpOp_step rfl fun K hK => ?_
          go_simp
          refine (HCM.out w' h.1).mono ?_
          rintro e w2 ⟨rfl, hb2⟩
          exact hK _ _ ⟨_, _, _, _, _, x76, x77, x78, x79, x80, x81, x82, x83, x84, x85, x86, x87, x88, x89, rfl, h.did hb2 4 _ (.con (.int .i64 (n : Int))) (by rw [HV.out]; rfl) rfl⟩
        · refine wpOp_step rfl fun K hK => ?_
          go_simp
          exact hK _ _ ⟨x71, x72, x73, x74, x75, _, x77, x78, x79, x80, x81, x82, x83, x84, x85, x86, x87, x88, x89, rfl, h.same 5 _ (.con (.int .i64 (n : Int))) (by rw [HV.out]; rfl) rfl⟩
        · obtain rfl : x75 = .int .i64 (n : Int) := h.get 4 (hw _ rfl ⟨4, .data⟩ (by simp) rfl) (.con (.int .i64 (n : Int))) (by rw [HV.out]; rfl) _ rfl
          obtain rfl : x76 = .int .i64 (n : Int) := h.get 5 (hw _ rfl ⟨5, .data⟩ (by simp) rfl) (.con (.int .i64 (n : Int))) (by rw [HV.out]; rfl) _ rfl
          refine wpOp_step rfl fun K hK => ?_
          go_simp
          exact hK _ _ ⟨x71, x72, x73, x74, _, _, _, x78, x79, x80, x81, x82, x83, x84, x85, x86, x87, x88, x89, rfl, h.same 6 _ (.con (.bool false)) (by rw [HV.out]; rfl) rfl⟩
        · obtain rfl : x77 = .bool false := h.get 6 (hw _ rfl ⟨6, .data⟩ (by simp) rfl) (.con (.bool false)) (by rw [HV.out]; rfl) _ rfl
          refine wpOp_step rfl fun K hK => ?_
          go_simp
          exact hK _ _ ⟨x71, x72, x73, x74, x75, x76, _, _, x79, x80, x81, x82, x83, x84, x85, x86, x87, x88, x89, rfl, h.same 7 _ (.con (.bool false)) (by rw [HV.out]; rfl) rfl⟩
        · obtain rfl : x78 = .bool false := h.get 7 (hw _ rfl ⟨7, .guard⟩ (by simp) rfl) (.con (.bool false)) (by rw [HV.out]; rfl) _ rfl
          refine wpOp_step rfl fun K hK => ?_
          go_simp
          exact hK _ _ ⟨x71, x72, x73, x74, x75, x76, x77, _, _, x80, x81, x82, x83, x84, x85, x86, x87, x88, x89, rfl, h.same 8 _ (.con (x)) (by rw [HV.out]; rfl) rfl⟩
        · obtain rfl : x78 = .bool false := h.get 7 (hw _ rfl ⟨7, .guard⟩ (by simp) rfl) (.con (.bool false)) (by rw [HV.out]; rfl) _ rfl
          obtain ⟨q0, q1, q2, q3, q4, q5, q6, q7, q8, q9⟩ := HS.out w' (HB50.out w' (HBB.out.trans (h.1.mono HBB.out.size)))
          refine wpOp_step rfl fun K hK => ?_
          go_simp
          exact hK _ _ ⟨x71, x72, x73, x74, x75, x76, x77, _, x79, _, x81, x82, x83, x84, x85, x86, x87, x88, x89, rfl, h.same 9 _ (.con (.agg #[.int .u8 u.kind, .int .i64 u.n, .string u.t, .slice an u.names.length cn, .slice ai u.items.length ci, .slice sa l.length sc])) (by rw [HV.out]; rfl) rfl⟩
        · obtain rfl : x78 = .bool false := h.get 7 (hw _ rfl ⟨7, .guard⟩ (by simp) rfl) (.con (.bool false)) (by rw [HV.out]; rfl) _ rfl
          obtain ⟨q0, q1, q2, q3, q4, q5, q6, q7, q8, q9⟩ := HS.out w' (HB50.out w' (HBB.out.trans (h.1.mono HBB.out.size)))
          refine wpOp_step rfl fun K hK => ?_
          go_simp
          exact hK _ _ ⟨x71, x72, x73, x74, x75, x76, x77, _, x79, x80, _, x82, x83, x84, x85, x86, x87, x88, x89, rfl, h.same 10 _ (.con (.agg #[.int .i64 t, .slice ia ids.length ic])) (by rw [HV.out]; rfl) rfl⟩
        · obtain rfl : x78 = .bool false := h.get 7 (hw _ rfl ⟨7, .guard⟩ (by simp) rfl) (.con (.bool false)) (by rw [HV.out]; rfl) _ rfl
          refine wpOp_step rfl fun K hK => ?_
          go_simp
          exact hK _ _ ⟨x71, x72, x73, x74, x75, x76, x77, _, x79, x80, x81, _, x83, x84, x85, x86, x87, x88, x89, rfl, h.same 11 _ (.con (.slice a2 (1 + keys.length) c2)) (by rw [HV.out]; rfl) rfl⟩
        · obtain rfl : x78 = .bool false := h.get 7 (hw _ rfl ⟨7, .chain⟩ (by simp) rfl) (.con (.bool false)) (by rw [HV.out]; rfl) _ rfl
          obtain rfl : x79 = x := h.get 8 (hw _ rfl ⟨8, .data⟩ (by simp) rfl) (.con (x)) (by rw [HV.out]; rfl) _ rfl
          obtain rfl : x80 = .agg #[.int .u8 u.kind, .int .i64 u.n, .string u.t, .slice an u.names.length cn, .slice ai u.items.length ci, .slice sa l.length sc] := h.get 9 (hw _ rfl ⟨9, .data⟩ (by simp) rfl) (.con (.agg #[.int .u8 u.kind, .int .i64 u.n, .string u.t, .slice an u.names.length cn, .slice ai u.items.length ci, .slice sa l.length sc])) (by rw [HV.out]; rfl) _ rfl
          obtain rfl : x81 = .agg #[.int .i64 t, .slice ia ids.length ic] := h.get 10 (hw _ rfl ⟨10, .data⟩ (by simp) rfl) (.con (.agg #[.int .i64 t, .slice ia ids.length ic])) (by rw [HV.out]; rfl) _ rfl
          obtain rfl : x82 = .slice a2 (1 + keys.length) c2 := h.get 11 (hw _ rfl ⟨11, .data⟩ (by simp) rfl) (.con (.slice a2 (1 + keys.length) c2)) (by rw [HV.out]; rfl) _ rfl
          obtain ⟨q0, q1, q2, q3, q4, q5, q6, q7, q8, q9⟩ := HS.out w' (HB50.out w' (HBB.out.trans (h.1.mono HBB.out.size)))
          refine wpOp_step rfl fun K hK => ?_
          go_simp
          refine (HEM.out w' h.1).mono ?_
          rintro e w2 ⟨rfl, hb2⟩
          exact hK _ _ ⟨x71, x72, x73, x74, x75, x76, x77, _, _, _, _, _, _, x84, x85, x86, x87, x88, x89, rfl, h.did hb2 12 _ (.con (.bool bn)) (by rw [HV.out]; rfl) rfl⟩
        · obtain rfl : x78 = .bool false := h.get 7 (hw _ rfl ⟨7, .guard⟩ (by simp) rfl) (.con (.bool false)) (by rw [HV.out]; rfl) _ rfl
          refine wpOp_step rfl fun K hK => ?_
          go_simp
          exact hK _ _ ⟨x71, x72, x73, x74, x75, x76, x77, _, x79, x80, x81, x82, x83, _, x85, x86, x87, x88, x89, rfl, h.same 13 _ (.con (x)) (by rw [HV.out]; rfl) rfl⟩
        · obtain rfl : x78 = .bool false := h.get 7 (hw _ rfl ⟨7, .guard⟩ (by simp) rfl) (.con (.bool false)) (by rw [HV.out]; rfl) _ rfl
          obtain ⟨q0, q1, q2, q3, q4, q5, q6, q7, q8, q9⟩ := HS.out w' (HB50.out w' (HBB.out.trans (h.1.mono HBB.out.size)))
          refine wpOp_step rfl fun K hK => ?_
          go_simp
          exact hK _ _ ⟨x71, x72, x73, x74, x75, x76, x77, _, x79, x80, x81, x82, x83, x84, _, x86, x87, x88, x89, rfl, h.same 14 _ (.con (.agg #[.int .u8 u.kind, .int .i64 u.n, .string u.t, .slice an u.names.length cn, .slice ai u.items.length ci, .slice sa l.length sc])) (by rw [HV.out]; rfl) rfl⟩
        · obtain rfl : x78 = .bool false := h.get 7 (hw _ rfl ⟨7, .guard⟩ (by simp) rfl) (.con (.bool false)) (by rw [HV.out]; rfl) _ rfl
          obtain ⟨q0, q1, q2, q3, q4, q5, q6, q7, q8, q9⟩ := HS.out w' (HB50.out w' (HBB.out.trans (h.1.mono HBB.out.size)))
          refine wpOp_step rfl fun K hK => ?_
          go_simp
          exact hK _ _ ⟨x71, x72, x73, x74, x75, x76, x77, _, x79, x80, x81, x82, x83, x84, x85, _, x87, x88, x89, rfl, h.same 15 _ (.con (.agg #[.int .i64 t, .slice ia ids.length ic])) (by rw [HV.out]; rfl) rfl⟩
        · obtain rfl : x78 = .bool false := h.get 7 (hw _ rfl ⟨7, .guard⟩ (by simp) rfl) (.con (.bool false)) (by rw [HV.out]; rfl) _ rfl
          refine wpOp_step rfl fun K hK => ?_
          go_simp
          exact hK _ _ ⟨x71, x72, x73, x74, x75, x76, x77, _, x79, x80, x81, x82, x83, x84, x85, x86, _, x88, x89, rfl, h.same 16 _ (.con (.slice ka keys.length kc)) (by rw [HV.out]; rfl) rfl⟩
        · obtain rfl : x78 = .bool false := h.get 7 (hw _ rfl ⟨7, .guard⟩ (by simp) rfl) (.con (.bool false)) (by rw [HV.out]; rfl) _ rfl
          obtain rfl : x84 = x := h.get 13 (hw _ rfl ⟨13, .data⟩ (by simp) rfl) (.con (x)) (by rw [HV.out]; rfl) _ rfl
          obtain rfl : x85 = .agg #[.int .u8 u.kind, .int .i64 u.n, .string u.t, .slice an u.names.length cn, .slice ai u.items.length ci, .slice sa l.length sc] := h.get 14 (hw _ rfl ⟨14, .data⟩ (by simp) rfl) (.con (.agg #[.int .u8 u.kind, .int .i64 u.n, .string u.t, .slice an u.names.length cn, .slice ai u.items.length ci, .slice sa l.length sc])) (by rw [HV.out]; rfl) _ rfl
          obtain rfl : x86 = .agg #[.int .i64 t, .slice ia ids.length ic] := h.get 15 (hw _ rfl ⟨15, .data⟩ (by simp) rfl) (.con (.agg #[.int .i64 t, .slice ia ids.length ic])) (by rw [HV.out]; rfl) _ rfl
          obtain rfl : x87 = .slice ka keys.length kc := h.get 16 (hw _ rfl ⟨16, .data⟩ (by simp) rfl) (.con (.slice ka keys.length kc)) (by rw [HV.out]; rfl) _ rfl
          obtain ⟨q0, q1, q2, q3, q4, q5, q6, q7, q8, q9⟩ := HS.out w' (HB50.out w' (HBB.out.trans (h.1.mono HBB.out.size)))
          refine wpOp_step rfl fun K hK => ?_
          go_simp
          refine (HEN.out w' (HBB.out.trans (h.1.mono HBB.out.size))).mono ?_
          rintro e w2 ⟨rfl, hb2⟩
          exact hK _ _ ⟨x71, x72, x73, x74, x75, x76, x77, _, x79, x80, x81, x82, x83, _, _, _, _, _, x89, rfl, h.did hb2 17 _ (.con (.bool bn)) (by rw [HV.out]; rfl) rfl⟩
        · obtain rfl : x78 = .bool false := h.get 7 (hw _ rfl ⟨7, .guard⟩ (by simp) rfl) (.con (.bool false)) (by rw [HV.out]; rfl) _ rfl
          obtain rfl : x83 = .bool bn := h.get 12 (hw _ rfl ⟨12, .data⟩ (by simp) rfl) (.con (.bool bn)) (by rw [HV.out]; rfl) _ rfl
          obtain rfl : x88 = .bool bn := h.get 17 (hw _ rfl ⟨17, .data⟩ (by simp) rfl) (.con (.bool bn)) (by rw [HV.out]; rfl) _ rfl
          refine wpOp_step rfl fun K hK => ?_
          go_simp
          exact hK _ _ ⟨x71, x72, x73, x74, x75, x76, x77, _, x79, x80, x81, x82, _, x84, x85, x86, x87, _, _, rfl, h.same 18 _ (.con (.bool false)) (by rw [HV.out]; rfl) rfl⟩
        · omega
      case last =>
        rintro d a' w' hall ⟨x71, x72, x73, x74, x75, x76, x77, x78, x79, x80, x81, x82, x83, x84, x85, x86, x87, x88, x89, rfl, h⟩
        have hle := h.1
        obtain rfl : x78 = .bool false := h.get 7 (hall _ (by omega)) (.con (.bool false)) (by rw [HV.out]; rfl) _ rfl
        obtain rfl : x89 = .bool false := h.get 18 (hall _ (by omega)) (.con (.bool false)) (by rw [HV.out]; rfl) _ rfl
        have HLE := Lib.hid hle
        clear h hall hle HV
        have HBX := Lib.hid (HBB.out.trans (HLE.out.mono HBB.out.size))
        obtain ⟨q0, q1, q2, q3, q4, q5, q6, q7, q8, q9⟩ := HS.out w' (HB50.out w' HBX.out)
        have hzX : w.heap.size + 3 ≤ w'.heap.size := by have := (HB50.out w' HBX.out).size; have := HZ0.out; omega
        obtain ⟨wA, hwA⟩ : ∃ wA, wA = w'.alloc (.cells #[.int .i64 t, .slice ia ids.length ic] 49) := ⟨_, rfl⟩
        have HZA := Lib.hid (show wA.heap.size = w'.heap.size + 1 by rw [hwA]; simp)
        have HBA := Lib.hid (show Below w5.heap.size w5 wA by rw [hwA]; exact HBX.out.alloc HBX.out.size _)
        have HXA := Lib.hid (show wA.heap[w'.heap.size]? = some (.cells #[.int .i64 t, .slice ia ids.length ic] 49 (0, 0)) by rw [hwA]; exact heap_alloc_new _ _)
        have HWA := Lib.hid hwA
        have hda := (HS.out _ (HB50.out _ (HBA.out.alloc HBA.out.size (.cells #[] 9)))).2.2.2.2.2.2.2.1
        have HN5 := Lib.hid (news_strs (HI.out wA (HB50.out wA HBA.out)).strs (.cells #[] 9))
        have HL5 := Lib.hid (show (ids.map Value.string).length = ids.length * 1 by simp)
        have HO5 := Lib.hid (strs_one ids)
        have hd1 : 0 + ids.length ≤ maxLen := by have := HNL.out.idlen; unfold maxLen; omega
        have hd2 : (0 + ids.length) * 16 ≤ 140737488355328 := by have := HNL.out.idlen; omega
        have hd3 : wA.heap.size ≤ (wA.alloc (.cells #[] 9)).heap.size := by simp
        rw [hwA] at hda
        clear hwA
        go_wp2_with (at_builtin; first | (rw [← HWA.out]; refine wpList_append_any _ rfl (.tmp 92) (.tmp 94) 41 rfl wA.heap.size 9 i2 _ 1 16 Tryz.underlying41 hi2 hx0 hx1 hx2 rfl (by decide) _ 0 [] rfl (by have h := World.ownsRow_made (base := wA.heap.size) (e := 9) (size := 1) wA #[] 0 (Nat.le_refl _) (Nat.zero_le _) (by simp); rw [HZA.out] at h ⊢; exact h) _ ids.length ic (ids.map .string) rfl HL5.out HN5.out HO5.out hd1 hd2 hd3 _ rfl ?_))
        intro a5 c5 wC hown5 hgrow5 hat5
        have hown5 : wC.ownsRow wA.heap.size 9 1 (.slice a5 ids.length c5) ids.length (ids.map .string) := by simpa using hown5
        have hbc : Below wA.heap.size wA wC := ((Below.refl _ _).alloc (Nat.le_refl _) _).grown hgrow5 (by simp) (by intro k hk; have := HZA.out; simp [Value.ownBlock] at hk; omega)
        have HBC := Lib.hid (HBA.out.trans (hbc.mono HBA.out.size))
        have HXC := Lib.hid ((hbc.block _ (by have := HZA.out; omega)).trans HXA.out)
        have HZC := Lib.hid hbc.size
        have HOW := Lib.hid hown5
        have HX6 := Lib.hid (World.news_of_block (cs := #[.string id]) (heap_alloc_new wC (.cells #[.string id] 9)))
        have HONE := Lib.hid (show ∀ u ∈ Array.toList #[Value.string id], u.oneCell' = true by simp [Value.oneCell'])
        have he1 : ids.length + 1 ≤ maxLen := by have := HNL.out.idlen; unfold maxLen; omega
        have he2 : (ids.length + 1) * 16 ≤ 140737488355328 := by have := HNL.out.idlen; omega
        have he3 : wA.heap.size ≤ (wC.alloc (.cells #[.string id] 9)).heap.size := by have := HZC.out; simp; omega
        clear hown5 hgrow5 hat5 hbc HN5 HL5 HO5 hd1 hd2 hd3 hda q0 q1 q2 q3 q4 q5 q6 q7 q8 q9
        go_wp2_with (at_builtin; refine wpList_append_lies _ rfl (.tmp 95) (.tmp 97) 41 rfl wA.heap.size 9 i2 _ 1 16 Tryz.underlying41 hi2 hx0 hx1 hx2 rfl (by decide) (.slice a5 ids.length c5) ids.length (ids.map .string) rfl (HOW.out.alloc _) ⟨wC.heap.size, 0, none⟩ 1 1 (Array.toList #[.string id]) rfl rfl HX6.out HONE.out (by decide) he1 he2 he3 _ rfl ?_)
        intro g6 c6 wD hown6 hgrow6 hat6 hlt6
        have hbd : Below wA.heap.size wC wD := ((Below.refl wA.heap.size wC).alloc HZC.out _).grown hgrow6 he3 (fun k hk => (HOW.out.lt k hk).1)
        have HXD := Lib.hid ((hbd.block _ (by have := HZA.out; omega)).trans HXC.out)
        have HG6 := Lib.hid (show wA.heap.size ≤ g6 by rcases hat6 with h | h; exact (HOW.out.lt g6 h).1; have := HZC.out; omega)
        have HO6 := Lib.hid (show wD.ownsRow wA.heap.size 9 1 (.slice (some ⟨g6, 0, none⟩) (ids.length + 1) c6) (ids.length + 1) ((ids ++ [id]).map .string) by rw [List.map_append]; exact hown6)
        have HBD := Lib.hid (HBC.out.trans (hbd.mono (Nat.le_trans HBA.out.size (Nat.le_refl _)))) 
        have c1d : wD.cell? ⟨w'.heap.size, 1, none⟩ = some (.slice ia ids.length ic) := box_cell HXD.out rfl
        have f1d : wD.frozen? ⟨w'.heap.size, 1, none⟩ = false := by simp only [World.frozen?, HXD.out]; simp
        clear hown6 hgrow6 hat6 hlt6 hbd HX6 HONE he1 he2 he3
        go_wp2_with fail
        obtain ⟨wE, hwE⟩ : ∃ wE, wE = wD.setCell ⟨w'.heap.size, 1, none⟩ (.slice (some ⟨g6, 0, none⟩) (ids.length + 1) c6) := ⟨_, rfl⟩
        have HBE := Lib.hid (show Below w5.heap.size w5 wE by rw [hwE]; exact HBD.out.setCell (by show w5.heap.size ≤ w'.heap.size; exact HBX.out.size) _)
        have HXE := Lib.hid (show wE.heap[w'.heap.size]? = some (.cells #[.int .i64 t, .slice (some ⟨g6, 0, none⟩) (ids.length + 1) c6] 49 (0, 0)) by rw [hwE]; simp [World.setCell, Array.getElem?_modify, HXD.out])
        have HSE := Lib.hid (show StrsAt wE 0 wE.heap.size (some ⟨g6, 0, none⟩) (ids ++ [id]) by
          obtain ⟨ja, jc, hjv, -, hjS⟩ := owns_strs HO6.out (by simp)
          simp only [Value.slice.injEq] at hjv
          rw [← hjv.1] at hjS
          refine hjS.carry (Nat.zero_le _) (by rw [hwE]; simp [World.setCell]) fun b h1 h2 => ?_
          rw [hwE, Below.heap_setCell _ _ _ _ (by have := HZA.out; show b ≠ w'.heap.size; omega)])
        rw [← hwE]
        clear hwE c1d f1d
        have HFD := Lib.hid (keyFind keys id ka kc wE (HI.out wE (HB50.out wE HBE.out)).rows (by have := HNL.out.keylen; omega) HNL.out.keysizes (HT.out wE (HB50.out wE HBE.out)))
        unfold KFindPost at HFD
        obtain ⟨⟨⟨f1, f2⟩, fb⟩, hf⟩ : ∃ r : Key2 × Bool, r = findK id keys := ⟨_, rfl⟩
        rw [← hf] at HFD
        have HFB := Lib.hid (show (findK id keys).2 = fb by rw [← hf])
        clear hf
        refine HFD.out.mono ?_
        clear HFD
        rintro e wF ⟨rfl, hbf⟩
        obtain ⟨wG, hwG⟩ : ∃ wG, wG = wF.alloc (.cells #[.string f1, .string f2] 24) := ⟨_, rfl⟩
        have hbg : Below wE.heap.size wE wG := by rw [hwG]; exact hbf.alloc hbf.size _
        have HBG := Lib.hid (HBE.out.trans (hbg.mono HBE.out.size))
        have HXG := Lib.hid ((hbg.block _ (heap_lt HXE.out)).trans HXE.out)
        have HSG := Lib.hid (HSE.out.below hbg (Nat.le_refl _) (Nat.le_refl _) hbg.size)
        have HWG := Lib.hid hwG
        clear hbf hbg hwG
        have hlen : (ids ++ [id]).length = ids.length + 1 := by simp
        have HIZ := Lib.hid (show ∀ s ∈ ids ++ [id], s.size ≤ 1000000 from fun s hs => by
          rcases List.mem_append.1 hs with hs | hs
          · have := HNL.out.idsizes s hs; omega
          · rw [List.mem_singleton] at hs; subst hs; omega)
        obtain ⟨A1, hA1⟩ : ∃ A1, A1 = authOk t ids := ⟨_, rfl⟩
        obtain ⟨A2, hA2⟩ : ∃ A2, A2 = authOk t (ids ++ [id]) := ⟨_, rfl⟩
        have HG5 := Lib.hid (show ∀ w', Below wG.heap.size wG w' → Below w5.heap.size w5 w' from fun w' h => HBG.out.trans (h.mono HBG.out.size))
        have HM1 := Lib.hid (show ∀ w' : World, Below wG.heap.size wG w' → Calls Tryz.prog 32 #[.agg #[.int .i64 t, .slice ia ids.length ic]] w' (fun e w'' => e = .returned (.bool A1) ∧ Below w'.heap.size w' w'') from fun w' h => by
          rw [hA1]; exact authMay t ids ia ic w' (HI.out w' (HB50.out w' (HG5.out w' h))).strs fun s hs => HIZ.out s (List.mem_append.2 (.inl hs)))
        have HM2 := Lib.hid (show ∀ w' : World, Below wG.heap.size wG w' → Calls Tryz.prog 32 #[.agg #[.int .i64 t, .slice (some ⟨g6, 0, none⟩) (ids.length + 1) c6]] w' (fun e w'' => e = .returned (.bool A2) ∧ Below w'.heap.size w' w'') from fun w' h => by
          have := authMay t (ids ++ [id]) (some ⟨g6, 0, none⟩) c6 w' (HSG.out.below h (Nat.le_refl _) (Nat.le_refl _) h.size) HIZ.out
          rwa [hlen, ← hA2] at this)
        have HL5 := Lib.hid (show ∀ w' : World, Below wG.heap.size wG w' → Calls Tryz.prog 38 #[.slice (some ⟨w'.heap.size, 0, none⟩) 1 1] (w'.alloc (.cells #[.int .i64 t, .slice (some ⟨g6, 0, none⟩) (ids.length + 1) c6] 49)) (fun e w'' => ∃ b : Bool, e = .returned (.bool b) ∧ Below w'.heap.size w' w'') from fun w' h => by
          refine (lawLong15 t (ids ++ [id]) (some ⟨g6, 0, none⟩) c6 w'.heap.size _ (by rw [hlen]; exact heap_alloc_new w' _) ((HSG.out.below h (Nat.le_refl _) (Nat.le_refl _) h.size).below ((Below.refl _ _).alloc (Nat.le_refl _) _) (Nat.le_refl _) (Nat.le_refl _) (by simp)) (by have := HNL.out.idlen; rw [hlen]; omega)).mono ?_
          rintro e w2 ⟨b, rfl, _, rfl⟩
          exact ⟨b, rfl, (Below.refl _ _).alloc (Nat.le_refl _) _⟩)
        have HC2 := Lib.hid (show fb = false → A1 = true → A2 = true → ∀ w' : World, Below wG.heap.size wG w' → Calls Tryz.prog 21 #[x, .agg #[.int .u8 u.kind, .int .i64 u.n, .string u.t, .slice an u.names.length cn, .slice ai u.items.length ci, .slice sa l.length sc], .agg #[.int .i64 t, .slice (some ⟨g6, 0, none⟩) (ids.length + 1) c6], .slice ka keys.length kc] w' (fun e w'' => e = .returned (.int .i64 (n : Int)) ∧ Below w'.heap.size w' w'') from fun e0 e1 e2 w' h => by
          have h5 := HG5.out w' h
          have hI := HI.out w' (HB50.out w' h5)
          have hc := judgeCount v x u l an ai sa cn ci sc t (ids ++ [id]) (some ⟨g6, 0, none⟩) c6 keys ka kc w' (HXV.out w' h5) (HNL.out.env hI) ⟨HSG.out.below h (Nat.le_refl _) (Nat.le_refl _) h.size, HIZ.out, by have := HNL.out.idlen; rw [hlen]; omega⟩ (HNL.out.row hI) HNUM.out (HP.out w' (HB50.out w' h5)) (HT.out w' (HB50.out w' h5))
          rw [who_ids (by rw [HFB.out, e0]) (by rw [← hA1, e1]) (by rw [← hA2, e2]), ← HN.out, hlen] at hc
          exact hc)
        have HSB := Lib.hid (show ∀ wz : World, Below wG.heap.size wG wz → wz.cell? ⟨w'.heap.size, 0, none⟩ = some (.int .i64 t) ∧ wz.cell? ⟨w'.heap.size, 1, none⟩ = some (.slice (some ⟨g6, 0, none⟩) (ids.length + 1) c6) from fun wz h => by
          have y0 := (h.block _ (heap_lt HXG.out)).trans HXG.out
          exact ⟨box_cell y0 rfl, box_cell y0 rfl⟩)
        have HBR := Lib.hid (show ∀ w' : World, Below wG.heap.size wG w' → Below w.heap.size w w' from fun w' h => HBT.out w' (HB50.out w' (HG5.out w' h)))
        clear hA1 hA2 hlen
        obtain ⟨q0, q1, q2, q3, q4, q5, q6, q7, q8, q9⟩ := HS.out wG (HB50.out wG HBG.out)
        rw [HWG.out] at q0 q1 q2 q3 q4 q5 q6 q7 q8 q9
        cases fb
        case true =>
          go_wp2
          go_ret
          exact ⟨rfl, by rw [← HWG.out]; exact HBR.out wG (Below.refl _ _)⟩
        go_wp2_with fail
        rw [← HWG.out]
        refine (HM1.out wG (Below.refl _ _)).mono ?_
        clear q0 q1 q2 q3 q4 q5 q6 q7 q8 q9 hzX
        rintro e wH ⟨rfl, hbh⟩
        have HBH := Lib.hid hbh
        clear hbh
        cases A1
        case false =>
          go_wp2
          go_ret
          exact ⟨rfl, HBR.out wH HBH.out⟩
        obtain ⟨r0, r1⟩ := HSB.out wH HBH.out
        go_wp2_with fail
        refine (HM2.out wH HBH.out).mono ?_
        clear r0 r1
        rintro e wI ⟨rfl, hbi⟩
        have HBI := Lib.hid (HBH.out.trans (hbi.mono HBH.out.size))
        clear hbi
        cases A2
        case false =>
          go_wp2
          go_ret
          exact ⟨rfl, HBR.out wI HBI.out⟩
        obtain ⟨r0, r1⟩ := HSB.out wI HBI.out
        go_wp2_with fail
        refine (HL5.out wI HBI.out).mono ?_
        clear r0 r1
        rintro e wJ ⟨b, rfl, hbj⟩
        have HBJ := Lib.hid (HBI.out.trans (hbj.mono HBI.out.size))
        clear hbj
        cases b
        case true =>
          go_wp2
          go_ret
          exact ⟨rfl, HBR.out wJ HBJ.out⟩
        obtain ⟨r0, r1⟩ := HSB.out wJ HBJ.out
        obtain ⟨q0, q1, q2, q3, q4, q5, q6, q7, q8, q9⟩ := HS.out wJ (HB50.out wJ (HG5.out wJ HBJ.out))
        go_wp2_with fail
        refine (HC2.out (by simp) (by simp) (by simp) wJ HBJ.out).mono ?_
        clear r0 r1 q0 q1 q2 q3 q4 q5 q6 q7 q8 q9
        rintro e wK ⟨rfl, hbk⟩
        have HBK := Lib.hid (HBJ.out.trans (hbk.mono HBJ.out.size))
        clear hbk
        go_wp2
        go_ret
        exact ⟨rfl, HBR.out wK HBK.out⟩
    · clear q0 q1 q2 q3 q4 q5 q6 q7 q8 q9
      obtain ⟨q0, q1, q2, q3, q4, q5, q6, q7, q8, q9⟩ := HS.out w8 (HB50.out w8 HB8.out)
      have hzX : w.heap.size + 3 ≤ w8.heap.size := by have := (HB50.out w8 HB8.out).size; have := HZ0.out; omega
      obtain ⟨wA, hwA⟩ : ∃ wA, wA = w8.alloc (.cells #[.int .i64 t, .slice ia ids.length ic] 49) := ⟨_, rfl⟩
      have HZA := Lib.hid (show wA.heap.size = w8.heap.size + 1 by rw [hwA]; simp)
      have HBA := Lib.hid (show Below w5.heap.size w5 wA by rw [hwA]; exact HB8.out.alloc HB8.out.size _)
      have HXA := Lib.hid (show wA.heap[w8.heap.size]? = some (.cells #[.int .i64 t, .slice ia ids.length ic] 49 (0, 0)) by rw [hwA]; exact heap_alloc_new _ _)
      have HWA := Lib.hid hwA
      have hda := (HS.out _ (HB50.out _ (HBA.out.alloc HBA.out.size (.cells #[] 9)))).2.2.2.2.2.2.2.1
      have HN5 := Lib.hid (news_strs (HI.out wA (HB50.out wA HBA.out)).strs (.cells #[] 9))
      have HL5 := Lib.hid (show (ids.map Value.string).length = ids.length * 1 by simp)
      have HO5 := Lib.hid (strs_one ids)
      have hd1 : 0 + ids.length ≤ maxLen := by have := HNL.out.idlen; unfold maxLen; omega
      have hd2 : (0 + ids.length) * 16 ≤ 140737488355328 := by have := HNL.out.idlen; omega
      have hd3 : wA.heap.size ≤ (wA.alloc (.cells #[] 9)).heap.size := by simp
      rw [hwA] at hda
      clear hwA
      go_wp2_with (at_builtin; first | (rw [← HWA.out]; refine wpList_append_any _ rfl (.tmp 92) (.tmp 94) 41 rfl wA.heap.size 9 i2 _ 1 16 Tryz.underlying41 hi2 hx0 hx1 hx2 rfl (by decide) _ 0 [] rfl (by have h := World.ownsRow_made (base := wA.heap.size) (e := 9) (size := 1) wA #[] 0 (Nat.le_refl _) (Nat.zero_le _) (by simp); rw [HZA.out] at h ⊢; exact h) _ ids.length ic (ids.map .string) rfl HL5.out HN5.out HO5.out hd1 hd2 hd3 _ rfl ?_))
      intro a5 c5 wC hown5 hgrow5 hat5
      have hown5 : wC.ownsRow wA.heap.size 9 1 (.slice a5 ids.length c5) ids.length (ids.map .string) := by simpa using hown5
      have hbc : Below wA.heap.size wA wC := ((Below.refl _ _).alloc (Nat.le_refl _) _).grown hgrow5 (by simp) (by intro k hk; have := HZA.out; simp [Value.ownBlock] at hk; omega)
      have HBC := Lib.hid (HBA.out.trans (hbc.mono HBA.out.size))
      have HXC := Lib.hid ((hbc.block _ (by have := HZA.out; omega)).trans HXA.out)
      have HZC := Lib.hid hbc.size
      have HOW := Lib.hid hown5
      have HX6 := Lib.hid (World.news_of_block (cs := #[.string id]) (heap_alloc_new wC (.cells #[.string id] 9)))
      have HONE := Lib.hid (show ∀ u ∈ Array.toList #[Value.string id], u.oneCell' = true by simp [Value.oneCell'])
      have he1 : ids.length + 1 ≤ maxLen := by have := HNL.out.idlen; unfold maxLen; omega
      have he2 : (ids.length + 1) * 16 ≤ 140737488355328 := by have := HNL.out.idlen; omega
      have he3 : wA.heap.size ≤ (wC.alloc (.cells #[.string id] 9)).heap.size := by have := HZC.out; simp; omega
      clear hown5 hgrow5 hat5 hbc HN5 HL5 HO5 hd1 hd2 hd3 hda q0 q1 q2 q3 q4 q5 q6 q7 q8 q9
      go_wp2_with (at_builtin; refine wpList_append_lies _ rfl (.tmp 95) (.tmp 97) 41 rfl wA.heap.size 9 i2 _ 1 16 Tryz.underlying41 hi2 hx0 hx1 hx2 rfl (by decide) (.slice a5 ids.length c5) ids.length (ids.map .string) rfl (HOW.out.alloc _) ⟨wC.heap.size, 0, none⟩ 1 1 (Array.toList #[.string id]) rfl rfl HX6.out HONE.out (by decide) he1 he2 he3 _ rfl ?_)
      intro g6 c6 wD hown6 hgrow6 hat6 hlt6
      have hbd : Below wA.heap.size wC wD := ((Below.refl wA.heap.size wC).alloc HZC.out _).grown hgrow6 he3 (fun k hk => (HOW.out.lt k hk).1)
      have HXD := Lib.hid ((hbd.block _ (by have := HZA.out; omega)).trans HXC.out)
      have HG6 := Lib.hid (show wA.heap.size ≤ g6 by rcases hat6 with h | h; exact (HOW.out.lt g6 h).1; have := HZC.out; omega)
      have HO6 := Lib.hid (show wD.ownsRow wA.heap.size 9 1 (.slice (some ⟨g6, 0, none⟩) (ids.length + 1) c6) (ids.length + 1) ((ids ++ [id]).map .string) by rw [List.map_append]; exact hown6)
      have HBD := Lib.hid (HBC.out.trans (hbd.mono (Nat.le_trans HBA.out.size (Nat.le_refl _)))) 
      have c1d : wD.cell? ⟨w8.heap.size, 1, none⟩ = some (.slice ia ids.length ic) := box_cell HXD.out rfl
      have f1d : wD.frozen? ⟨w8.heap.size, 1, none⟩ = false := by simp only [World.frozen?, HXD.out]; simp
      clear hown6 hgrow6 hat6 hlt6 hbd HX6 HONE he1 he2 he3
      go_wp2_with fail
      obtain ⟨wE, hwE⟩ : ∃ wE, wE = wD.setCell ⟨w8.heap.size, 1, none⟩ (.slice (some ⟨g6, 0, none⟩) (ids.length + 1) c6) := ⟨_, rfl⟩
      have HBE := Lib.hid (show Below w5.heap.size w5 wE by rw [hwE]; exact HBD.out.setCell (by show w5.heap.size ≤ w8.heap.size; exact HB8.out.size) _)
      have HXE := Lib.hid (show wE.heap[w8.heap.size]? = some (.cells #[.int .i64 t, .slice (some ⟨g6, 0, none⟩) (ids.length + 1) c6] 49 (0, 0)) by rw [hwE]; simp [World.setCell, Array.getElem?_modify, HXD.out])
      have HSE := Lib.hid (show StrsAt wE 0 wE.heap.size (some ⟨g6, 0, none⟩) (ids ++ [id]) by
        obtain ⟨ja, jc, hjv, -, hjS⟩ := owns_strs HO6.out (by simp)
        simp only [Value.slice.injEq] at hjv
        rw [← hjv.1] at hjS
        refine hjS.carry (Nat.zero_le _) (by rw [hwE]; simp [World.setCell]) fun b h1 h2 => ?_
        rw [hwE, Below.heap_setCell _ _ _ _ (by have := HZA.out; show b ≠ w8.heap.size; omega)])
      rw [← hwE]
      clear hwE c1d f1d
      have HFD := Lib.hid (keyFind keys id ka kc wE (HI.out wE (HB50.out wE HBE.out)).rows (by have := HNL.out.keylen; omega) HNL.out.keysizes (HT.out wE (HB50.out wE HBE.out)))
      unfold KFindPost at HFD
      obtain ⟨⟨⟨f1, f2⟩, fb⟩, hf⟩ : ∃ r : Key2 × Bool, r = findK id keys := ⟨_, rfl⟩
      rw [← hf] at HFD
      have HFB := Lib.hid (show (findK id keys).2 = fb by rw [← hf])
      clear hf
      refine HFD.out.mono ?_
      clear HFD
      rintro e wF ⟨rfl, hbf⟩
      obtain ⟨wG, hwG⟩ : ∃ wG, wG = wF.alloc (.cells #[.string f1, .string f2] 24) := ⟨_, rfl⟩
      have hbg : Below wE.heap.size wE wG := by rw [hwG]; exact hbf.alloc hbf.size _
      have HBG := Lib.hid (HBE.out.trans (hbg.mono HBE.out.size))
      have HXG := Lib.hid ((hbg.block _ (heap_lt HXE.out)).trans HXE.out)
      have HSG := Lib.hid (HSE.out.below hbg (Nat.le_refl _) (Nat.le_refl _) hbg.size)
      have HWG := Lib.hid hwG
      clear hbf hbg hwG
      have hlen : (ids ++ [id]).length = ids.length + 1 := by simp
      have HIZ := Lib.hid (show ∀ s ∈ ids ++ [id], s.size ≤ 1000000 from fun s hs => by
        rcases List.mem_append.1 hs with hs | hs
        · have := HNL.out.idsizes s hs; omega
        · rw [List.mem_singleton] at hs; subst hs; omega)
      obtain ⟨A1, hA1⟩ : ∃ A1, A1 = authOk t ids := ⟨_, rfl⟩
      obtain ⟨A2, hA2⟩ : ∃ A2, A2 = authOk t (ids ++ [id]) := ⟨_, rfl⟩
      have HG5 := Lib.hid (show ∀ w', Below wG.heap.size wG w' → Below w5.heap.size w5 w' from fun w' h => HBG.out.trans (h.mono HBG.out.size))
      have HM1 := Lib.hid (show ∀ w' : World, Below wG.heap.size wG w' → Calls Tryz.prog 32 #[.agg #[.int .i64 t, .slice ia ids.length ic]] w' (fun e w'' => e = .returned (.bool A1) ∧ Below w'.heap.size w' w'') from fun w' h => by
        rw [hA1]; exact authMay t ids ia ic w' (HI.out w' (HB50.out w' (HG5.out w' h))).strs fun s hs => HIZ.out s (List.mem_append.2 (.inl hs)))
      have HM2 := Lib.hid (show ∀ w' : World, Below wG.heap.size wG w' → Calls Tryz.prog 32 #[.agg #[.int .i64 t, .slice (some ⟨g6, 0, none⟩) (ids.length + 1) c6]] w' (fun e w'' => e = .returned (.bool A2) ∧ Below w'.heap.size w' w'') from fun w' h => by
        have := authMay t (ids ++ [id]) (some ⟨g6, 0, none⟩) c6 w' (HSG.out.below h (Nat.le_refl _) (Nat.le_refl _) h.size) HIZ.out
        rwa [hlen, ← hA2] at this)
      have HL5 := Lib.hid (show ∀ w' : World, Below wG.heap.size wG w' → Calls Tryz.prog 38 #[.slice (some ⟨w'.heap.size, 0, none⟩) 1 1] (w'.alloc (.cells #[.int .i64 t, .slice (some ⟨g6, 0, none⟩) (ids.length + 1) c6] 49)) (fun e w'' => ∃ b : Bool, e = .returned (.bool b) ∧ Below w'.heap.size w' w'') from fun w' h => by
        refine (lawLong15 t (ids ++ [id]) (some ⟨g6, 0, none⟩) c6 w'.heap.size _ (by rw [hlen]; exact heap_alloc_new w' _) ((HSG.out.below h (Nat.le_refl _) (Nat.le_refl _) h.size).below ((Below.refl _ _).alloc (Nat.le_refl _) _) (Nat.le_refl _) (Nat.le_refl _) (by simp)) (by have := HNL.out.idlen; rw [hlen]; omega)).mono ?_
        rintro e w2 ⟨b, rfl, _, rfl⟩
        exact ⟨b, rfl, (Below.refl _ _).alloc (Nat.le_refl _) _⟩)
      have HC2 := Lib.hid (show fb = false → A1 = true → A2 = true → ∀ w' : World, Below wG.heap.size wG w' → Calls Tryz.prog 21 #[x, .agg #[.int .u8 u.kind, .int .i64 u.n, .string u.t, .slice an u.names.length cn, .slice ai u.items.length ci, .slice sa l.length sc], .agg #[.int .i64 t, .slice (some ⟨g6, 0, none⟩) (ids.length + 1) c6], .slice ka keys.length kc] w' (fun e w'' => e = .returned (.int .i64 (n : Int)) ∧ Below w'.heap.size w' w'') from fun e0 e1 e2 w' h => by
        have h5 := HG5.out w' h
        have hI := HI.out w' (HB50.out w' h5)
        have hc := judgeCount v x u l an ai sa cn ci sc t (ids ++ [id]) (some ⟨g6, 0, none⟩) c6 keys ka kc w' (HXV.out w' h5) (HNL.out.env hI) ⟨HSG.out.below h (Nat.le_refl _) (Nat.le_refl _) h.size, HIZ.out, by have := HNL.out.idlen; rw [hlen]; omega⟩ (HNL.out.row hI) HNUM.out (HP.out w' (HB50.out w' h5)) (HT.out w' (HB50.out w' h5))
        rw [who_ids (by rw [HFB.out, e0]) (by rw [← hA1, e1]) (by rw [← hA2, e2]), ← HN.out, hlen] at hc
        exact hc)
      have HSB := Lib.hid (show ∀ wz : World, Below wG.heap.size wG wz → wz.cell? ⟨w8.heap.size, 0, none⟩ = some (.int .i64 t) ∧ wz.cell? ⟨w8.heap.size, 1, none⟩ = some (.slice (some ⟨g6, 0, none⟩) (ids.length + 1) c6) from fun wz h => by
        have y0 := (h.block _ (heap_lt HXG.out)).trans HXG.out
        exact ⟨box_cell y0 rfl, box_cell y0 rfl⟩)
      have HBR := Lib.hid (show ∀ w' : World, Below wG.heap.size wG w' → Below w.heap.size w w' from fun w' h => HBT.out w' (HB50.out w' (HG5.out w' h)))
      clear hA1 hA2 hlen
      obtain ⟨q0, q1, q2, q3, q4, q5, q6, q7, q8, q9⟩ := HS.out wG (HB50.out wG HBG.out)
      rw [HWG.out] at q0 q1 q2 q3 q4 q5 q6 q7 q8 q9
      cases fb
      case true =>
        go_wp2
        go_ret
        exact ⟨rfl, by rw [← HWG.out]; exact HBR.out wG (Below.refl _ _)⟩
      go_wp2_with fail
      rw [← HWG.out]
      refine (HM1.out wG (Below.refl _ _)).mono ?_
      clear q0 q1 q2 q3 q4 q5 q6 q7 q8 q9 hzX
      rintro e wH ⟨rfl, hbh⟩
      have HBH := Lib.hid hbh
      clear hbh
      cases A1
      case false =>
        go_wp2
        go_ret
        exact ⟨rfl, HBR.out wH HBH.out⟩
      obtain ⟨r0, r1⟩ := HSB.out wH HBH.out
      go_wp2_with fail
      refine (HM2.out wH HBH.out).mono ?_
      clear r0 r1
      rintro e wI ⟨rfl, hbi⟩
      have HBI := Lib.hid (HBH.out.trans (hbi.mono HBH.out.size))
      clear hbi
      cases A2
      case false =>
        go_wp2
        go_ret
        exact ⟨rfl, HBR.out wI HBI.out⟩
      obtain ⟨r0, r1⟩ := HSB.out wI HBI.out
      go_wp2_with fail
      refine (HL5.out wI HBI.out).mono ?_
      clear r0 r1
      rintro e wJ ⟨b, rfl, hbj⟩
      have HBJ := Lib.hid (HBI.out.trans (hbj.mono HBI.out.size))
      clear hbj
      cases b
      case true =>
        go_wp2
        go_ret
        exact ⟨rfl, HBR.out wJ HBJ.out⟩
      obtain ⟨r0, r1⟩ := HSB.out wJ HBJ.out
      obtain ⟨q0, q1, q2, q3, q4, q5, q6, q7, q8, q9⟩ := HS.out wJ (HB50.out wJ (HG5.out wJ HBJ.out))
      go_wp2_with fail
      refine (HC2.out (by simp) (by simp) (by simp) wJ HBJ.out).mono ?_
      clear r0 r1 q0 q1 q2 q3 q4 q5 q6 q7 q8 q9
      rintro e wK ⟨rfl, hbk⟩
      have HBK := Lib.hid (HBJ.out.trans (hbk.mono HBJ.out.size))
      clear hbk
      go_wp2
      go_ret
      exact ⟨rfl, HBR.out wK HBK.out⟩

end Go.Proofs.YtaekmmnpdbmoeaaGreatDoor
