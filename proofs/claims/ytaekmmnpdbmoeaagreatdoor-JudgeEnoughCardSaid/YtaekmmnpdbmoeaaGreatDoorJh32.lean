/- The contract of legatelaw17.JudgeEnough. Printed by genen.py. -/
import Derived.Test.YtaekmmnpdbmoeaaGreatDoorJh29
import Derived.Test.YtaekmmnpdbmoeaaGreatDoorJh31
import Derived.Test.YtaekmmnpdbmoeaaGreatDoorJh28

namespace Go.Proofs.YtaekmmnpdbmoeaaGreatDoor
open Go.RowKit

set_option maxHeartbeats 2000000 in
set_option maxRecDepth 100000 in
theorem lawEn (u : JV) (an ai : Option Addr) (cn ci : Nat) (pubs : List ByteArray) (pa : Option Addr) (pc : Nat) (n th : Int) (oth : List Sig2) (oa : Option Addr) (oc : Nat) (w : World)
    (hU : Rep w 0 w.heap.size u (.agg #[.int .u8 u.kind, .int .i64 u.n, .string u.t, .slice an u.names.length cn, .slice ai u.items.length ci])) (hn : u.num) (hS : StrsAt w 0 w.heap.size pa pubs) (hsl : pubs.length ≤ 9223372036854775807) (hO : KeysAt w 0 w.heap.size oa oth) (hol : oth.length ≤ 9223372036854775807) (hoz : ∀ s ∈ oth, s.1.size ≤ 9223372036854775807 ∧ s.2.size ≤ 9223372036854775807) (hT : Tabs w) (hP : Pow10 w) :
    Calls Tryz.prog 6 #[.agg #[.int .u8 u.kind, .int .i64 u.n, .string u.t, .slice an u.names.length cn, .slice ai u.items.length ci], .slice pa pubs.length pc, .int .i64 n, .int .i64 th, .slice oa oth.length oc] w fun e w' => e = .returned (.bool true) ∧ Below w.heap.size w w' := by
  obtain ⟨i1, hi1, hy0, hy1, hy2⟩ := info_parts infoSig
  obtain ⟨i2, hi2, hx0, hx1, hx2⟩ := info_parts infoStr2
  obtain ⟨i3, hi3, hz0, hz1, hz2⟩ := info_parts infoKey
  obtain ⟨W0, hW0⟩ : ∃ W0, W0 = w.alloc (.cells #[.int .u8 u.kind, .int .i64 u.n, .string u.t, .slice an u.names.length cn, .slice ai u.items.length ci] 44) := ⟨_, rfl⟩
  have HB0 := Lib.hid (show Below w.heap.size w W0 by rw [hW0]; exact (Below.refl _ _).alloc (Nat.le_refl _) _)
  have HZ0 := Lib.hid (show W0.heap.size = w.heap.size + 1 by rw [hW0]; simp)
  have hb0 : W0.heap[w.heap.size]? = some (.cells #[.int .u8 u.kind, .int .i64 u.n, .string u.t, .slice an u.names.length cn, .slice ai u.items.length ci] 44 (0, 0)) := by rw [hW0]; exact heap_alloc_new w _
  have HS := Lib.hid (show ∀ w' : World, Below W0.heap.size W0 w' → w'.cell? ⟨w.heap.size, 0, none⟩ = some (.int .u8 u.kind) ∧ w'.cell? ⟨w.heap.size, 1, none⟩ = some (.int .i64 u.n) ∧ w'.cell? ⟨w.heap.size, 2, none⟩ = some (.string u.t) ∧ w'.cell? ⟨w.heap.size, 3, none⟩ = some (.slice an u.names.length cn) ∧ w'.cell? ⟨w.heap.size, 4, none⟩ = some (.slice ai u.items.length ci) from fun w' h => by
    have y0 := (h.block _ (heap_lt hb0)).trans hb0
    exact ⟨box_cell y0 rfl, box_cell y0 rfl, box_cell y0 rfl, box_cell y0 rfl, box_cell y0 rfl⟩)
  have HBT := Lib.hid (show ∀ w' : World, Below W0.heap.size W0 w' → Below w.heap.size w w' from fun w' h => HB0.out.trans (h.mono HB0.out.size))
  have HT := Lib.hid (show ∀ w' : World, Below W0.heap.size W0 w' → Tabs w' from fun w' h => hT.below (HBT.out w' h))
  have HP := Lib.hid (show ∀ w' : World, Below W0.heap.size W0 w' → Pow10 w' from fun w' h => hP.below (HBT.out w' h))
  have HA := Lib.hid (show ∀ w' : World, Below W0.heap.size W0 w' → Calls Tryz.prog 14 #[] w' (fun e w'' => e = .returned (.bool true) ∧ Below w'.heap.size w' w'') from fun w' h => lawAwake17 w' (HT.out w' h) (HP.out w' h))
  have HU := Lib.hid (show ∀ w' : World, Below W0.heap.size W0 w' → Rep w' 0 w'.heap.size u (.agg #[.int .u8 u.kind, .int .i64 u.n, .string u.t, .slice an u.names.length cn, .slice ai u.items.length ci]) from fun w' h => hU.below (HBT.out w' h) (Nat.le_refl _) (Nat.le_refl _) (HBT.out w' h).size)
  have HPU := Lib.hid (show ∀ w' : World, Below W0.heap.size W0 w' → StrsAt w' 0 w'.heap.size pa pubs from fun w' h => hS.below (HBT.out w' h) (Nat.le_refl _) (Nat.le_refl _) (HBT.out w' h).size)
  have HOT := Lib.hid (show ∀ w' : World, Below W0.heap.size W0 w' → KeysAt w' 0 w'.heap.size oa oth from fun w' h => hO.below (HBT.out w' h) (Nat.le_refl _) (Nat.le_refl _) (HBT.out w' h).size)
  have HLG := Lib.hid (show Calls Tryz.prog 28 #[.slice (some ⟨W0.heap.size, 0, none⟩) 4 4] (W0.alloc (.cells #[.int .u8 u.kind, .int .i64 u.n, .string u.t, .slice an u.names.length cn, .slice ai u.items.length ci, .int .u8 u.kind, .int .i64 u.n, .string u.t, .slice an u.names.length cn, .slice ai u.items.length ci, .int .u8 u.kind, .int .i64 u.n, .string u.t, .slice an u.names.length cn, .slice ai u.items.length ci, .int .u8 u.kind, .int .i64 u.n, .string u.t, .slice an u.names.length cn, .slice ai u.items.length ci] 44)) (fun e w2 => ∃ b : Bool, e = .returned (.bool b) ∧ (b = false → u.wt ≤ 20000) ∧ Below W0.heap.size W0 w2) from by
    refine (lawLong [u, u, u, u] _ 4 _ (vals_four (heap_alloc_new W0 _) ((HU.out W0 (Below.refl _ _)).below ((Below.refl _ _).alloc (Nat.le_refl _) _) (Nat.le_refl _) (Nat.le_refl _) (by simp)))).mono ?_
    rintro e w2 ⟨b, rfl, hb, rfl⟩
    exact ⟨b, rfl, (fun h => by have := hb h; simp only [JV.wts] at this; omega), (Below.refl _ _).alloc (Nat.le_refl _) _⟩)
  replace HLG := Lib.hid HLG.out
  rw [show (some ⟨W0.heap.size, 0, none⟩ : Option Addr) = some ⟨w.heap.size + 1, 0, none⟩ by rw [HZ0.out]] at HLG
  have HW0 := Lib.hid hW0
  have HNUM := Lib.hid hn
  have HOZ := Lib.hid hoz
  clear hU hS hO hoz hT hP hb0 hW0 hn
  obtain ⟨q0, q1, q2, q3, q4⟩ := HS.out W0 (Below.refl _ _)
  go_enter Tryz.func6, Tryz.ntmps6
  go_wp2_with fail
  rw [← HW0.out]
  refine HLG.out.mono ?_
  clear HLG HW0 q0 q1 q2 q3 q4
  rintro e w1 ⟨b, rfl, hb, hb1⟩
  have HB1 := Lib.hid hb1
  clear hb1
  cases b
  case true =>
    clear hb
    go_wp2_with fail
    refine (HA.out w1 HB1.out).mono ?_
    rintro e w99 ⟨rfl, hb9⟩
    have HB9 := Lib.hid (HB1.out.trans (hb9.mono HB1.out.size))
    clear hb9
    go_wp2
    go_ret
    exact ⟨rfl, HBT.out _ HB9.out⟩
  have HWT := Lib.hid (hb rfl)
  clear hb
  by_cases z1 : pubs.length < 1
  case pos =>
    have y1 : (pubs.length : Int) < 1 := by omega
    go_wp2_with fail
    refine (HA.out w1 HB1.out).mono ?_
    rintro e w99 ⟨rfl, hb9⟩
    have HB9 := Lib.hid (HB1.out.trans (hb9.mono HB1.out.size))
    clear hb9
    go_wp2
    go_ret
    exact ⟨rfl, HBT.out _ HB9.out⟩
  have y1 : ¬ ((pubs.length : Int) < 1) := by omega
  by_cases z2 : 16 < pubs.length
  case pos =>
    have y2 : (16 : Int) < (pubs.length : Int) := by omega
    go_wp2_with fail
    refine (HA.out w1 HB1.out).mono ?_
    rintro e w99 ⟨rfl, hb9⟩
    have HB9 := Lib.hid (HB1.out.trans (hb9.mono HB1.out.size))
    clear hb9
    go_wp2
    go_ret
    exact ⟨rfl, HBT.out _ HB9.out⟩
  have y2 : ¬ ((16 : Int) < (pubs.length : Int)) := by omega
  by_cases z3 : 40 < oth.length
  case pos =>
    have y3 : (40 : Int) < (oth.length : Int) := by omega
    go_wp2_with fail
    refine (HA.out w1 HB1.out).mono ?_
    rintro e w99 ⟨rfl, hb9⟩
    have HB9 := Lib.hid (HB1.out.trans (hb9.mono HB1.out.size))
    clear hb9
    go_wp2
    go_ret
    exact ⟨rfl, HBT.out _ HB9.out⟩
  have y3 : ¬ ((40 : Int) < (oth.length : Int)) := by omega
  go_wp2_with fail
  refine (HA.out w1 HB1.out).mono ?_
  rintro e w2 ⟨rfl, hb2⟩
  have HB2 := Lib.hid (HB1.out.trans (hb2.mono HB1.out.size))
  clear hb2 HA HB1
  obtain ⟨q0, q1, q2, q3, q4⟩ := HS.out w2 HB2.out
  have y0 : w2.heap.size = w2.heap.size := rfl
  obtain ⟨W3, hW3⟩ : ∃ W3, W3 = w2.alloc (.cells #[.int .u8 u.kind, .int .i64 u.n, .string u.t, .slice an u.names.length cn, .slice ai u.items.length ci, .slice none 0 0] 47) := ⟨_, rfl⟩
  obtain ⟨Y, hY⟩ : ∃ Y, Y = w2.heap.size := ⟨_, rfl⟩
  have hx3 : W3.heap[Y]? = some (.cells #[.int .u8 u.kind, .int .i64 u.n, .string u.t, .slice an u.names.length cn, .slice ai u.items.length ci, .slice none 0 0] 47 (0, 0)) := by rw [hW3, hY]; exact heap_alloc_new w2 _
  have HB3 := Lib.hid (show Below W0.heap.size W0 W3 by rw [hW3]; exact HB2.out.alloc HB2.out.size _)
  have HZ3 := Lib.hid (show W3.heap.size = Y + 1 by rw [hW3, hY]; simp)
  have HEV := Lib.hid (show EnvAt W3 u [] an ai none cn ci from ⟨HU.out W3 HB3.out, .inl rfl, by have := HWT.out; omega, (fun s hs => by cases hs), Nat.zero_le _⟩)
  have HSG := Lib.hid (show Calls Tryz.prog 29 #[.agg #[.int .u8 u.kind, .int .i64 u.n, .string u.t, .slice an u.names.length cn, .slice ai u.items.length ci, .slice none 0 0]] W3 (fun e w' => e = .returned (.tuple #[.string ⟨(signS u []).toArray⟩, .int .i64 (signE u [])]) ∧ Below W3.heap.size W3 w') from signSigned u [] an ai none cn ci 0 W3 HEV.out HNUM.out (HP.out W3 HB3.out))
  obtain ⟨X, hX⟩ : ∃ X : ByteArray, X = ⟨(signS u []).toArray⟩ := ⟨_, rfl⟩
  obtain ⟨se, hse⟩ : ∃ se, se = signE u [] := ⟨_, rfl⟩
  rw [← hX, ← hse] at HSG
  have HX := Lib.hid hX
  have HSE := Lib.hid hse
  have HW3 := Lib.hid hW3
  have HY := Lib.hid hY
  have HX3 := Lib.hid hx3
  clear hX hse hW3 hY hx3 y0
  go_wp2_with fail
  rw [← HY.out, ← HW3.out]
  refine HSG.out.mono ?_
  clear HSG HW3 q0 q1 q2 q3 q4
  rintro e w4 ⟨rfl, hb4⟩
  have HB4 := Lib.hid (HB3.out.trans (hb4.mono HB3.out.size))
  have HX4 := Lib.hid ((hb4.block Y (by have := HZ3.out; omega)).trans HX3.out)
  have HYW := Lib.hid (show W0.heap.size ≤ Y from by rw [HY.out]; exact HB2.out.size)
  clear hb4 HX3 HY HB2
  obtain ⟨eo, heo⟩ : ∃ eo, eo = envOk u [] := ⟨_, rfl⟩
  have HEO := Lib.hid heo
  clear heo
  cases eo
  case false =>
    obtain rfl : se = 3 := by rw [HSE.out]; unfold signE; rw [← HEO.out]; rfl
    go_wp2_with fail
    go_ret
    exact ⟨rfl, HBT.out _ HB4.out⟩
  obtain rfl : se = 0 := by rw [HSE.out]; unfold signE; rw [← HEO.out]; rfl
  have HXE := Lib.hid (show X.data.toList = u.enc by rw [HX.out]; unfold signS; rw [← HEO.out]; rfl)
  have HXZ := Lib.hid (show X.size ≤ 1099511620000 by
    have h2 := JV.enc_length u (JV.form_of_may u _ _ HNUM.out (envOk_may HEO.out.symm))
    rw [← toList_length, HXE.out]
    have := HWT.out
    omega)
  clear HX HSE
  have hwr := ix_len1 pubs.length (by omega)
  have hnz : ¬ ((pubs.length : Int) + 1 = 0) := by omega
  have hnz2 : ¬ ((pubs.length : Int) = 0) := by omega
  have hul : IntKind.u64.wrap (pubs.length : Int) = (pubs.length : Int) := ix_len _ (by omega)
  obtain ⟨qn, hqn, htn⟩ := ix_at1 n pubs.length (by omega)
  obtain ⟨qt, hqt, htt, htt2⟩ := ix_at th pubs.length (by omega) (by omega)
  obtain ⟨A, hA⟩ : ∃ A, A = w4.heap.size := ⟨_, rfl⟩
  obtain ⟨T, hT⟩ : ∃ T : Int, T = 1 + (qt : Int) := ⟨_, rfl⟩
  obtain ⟨W5, hW5⟩ : ∃ W5, W5 = w4.alloc (.cells #[.int .i64 T, .slice none 0 0] 49) := ⟨_, rfl⟩
  have htT : IntKind.i64.wrap (1 + (qt : Int)) = T := by rw [IntWalk.i64_in _ (by omega), hT]
  have hx5 : W5.heap[A]? = some (.cells #[.int .i64 T, .slice none 0 0] 49 (0, 0)) := by rw [hW5, hA]; exact heap_alloc_new w4 _
  have hy5 : W5.heap[Y]? = some (.cells #[.int .u8 u.kind, .int .i64 u.n, .string u.t, .slice an u.names.length cn, .slice ai u.items.length ci, .slice none 0 0] 47 (0, 0)) := by rw [hW5, Below.heap_alloc _ _ _ (heap_lt HX4.out)]; exact HX4.out
  obtain ⟨H, hH⟩ : ∃ H, H = W5.heap.size := ⟨_, rfl⟩
  have HHA := Lib.hid (show H = A + 1 by rw [hH, hW5, hA]; simp)
  have HR0 := Lib.hid (show RE W0 H Y A u an ai cn ci T W5 [] [] [] (.slice none 0 0) (.slice none 0 0) (.slice none 0 0) from
    ⟨⟨by rw [hW5]; exact HB4.out.alloc HB4.out.size _, ⟨HYW.out, by rw [hA]; exact HB4.out.size, by have := heap_lt hy5; omega, by have := heap_lt hx5; omega, by have := heap_lt HX4.out; omega⟩, hy5, hx5, by rw [hH]; exact Nat.le_refl _, World.ownsRow_nil _ _ _ _, World.ownsRow_nil _ _ _ _, fun b hb => by cases hb⟩, World.ownsRow_nil _ _ _ _, fun b hb => by cases hb⟩)
  have HTQ := Lib.hid hT
  have HW5 := Lib.hid hW5
  have HA4 := Lib.hid hA
  clear hW5 hA hH hx5 hy5 hT
  go_wp2_with fail
  rw [htn, ← HA4.out, ← HW5.out]
  clear htn htt htt2 hnz hnz2 hul hwr HA4 HW5 htT y1 y2 y3
  go_loopw [15, 16] (fun ks i wr => ∃ (k : Nat) (vy va : Value), k ≤ pubs.length ∧ i = .int .i64 k ∧ RE W0 H Y A u an ai cn ci T wr (enS ((enK pubs).take k) qn u.enc) (((enK pubs).take k).map id2) ((enK pubs).take k) vy va ks ∧ (∀ p ∈ (enK pubs).take k, ok2 p = true)) (fun _ i _ => pubs.length - (intOf i).toNat)
  case atStart => exact ⟨0, _, _, Nat.zero_le _, rfl, by rw [List.take_zero, show enS [] qn u.enc = [] by unfold enS; rw [List.take_nil]; rfl]; exact HR0.out, fun p hp => by simp at hp⟩
  case round =>
    clear HR0
    obtain ⟨k, vy, va, hk, rfl, hre, hok⟩ := hrel
    have HR := Lib.hid hre
    have HOKS := Lib.hid hok
    have HBR := Lib.hid hre.rw.below
    clear hre hok
    obtain ⟨K, hK⟩ : ∃ K, K = (enK pubs).take k := ⟨_, rfl⟩
    have hKl : K.length = k := by rw [hK, List.length_take, enK_length]; omega
    rw [← hK] at HR HOKS
    have HKK := Lib.hid hK
    obtain ⟨P, hP⟩ : ∃ P, P = enS K qn u.enc := ⟨_, rfl⟩
    obtain ⟨Q, hQ⟩ : ∃ Q, Q = K.map id2 := ⟨_, rfl⟩
    have hPl : P.length ≤ 16 := by rw [hP, enS_length]; omega
    have hQl : Q.length = k := by rw [hQ, List.length_map, hKl]
    rw [← hP, ← hQ] at HR
    have HPP := Lib.hid hP
    have HQQ := Lib.hid hQ
    have HKL := Lib.hid hKl
    have HQL := Lib.hid hQl
    obtain ⟨np, hnp⟩ : ∃ np, np = P.length := ⟨_, rfl⟩
    obtain ⟨sy, cy, sb, cb, sk, ck, e1, e2, e3, -, -, -⟩ := HR.out.slices
    rw [← hnp] at hPl e1
    rw [hQl] at e2
    rw [hKl] at e3
    subst e1 e2 e3
    have HNP := Lib.hid hnp
    clear hK hKl hP hQ hQl hnp
    by_cases hlt : k < pubs.length
    · have m0 : (0 : Int) ≤ (k : Int) := by omega
      have m1 : (k : Int) < (pubs.length : Int) := by omega
      obtain ⟨b, off, ha, _, hb, e0⟩ := (HPU.out wr HBR.out).at k hlt
      subst ha
      obtain ⟨pk, hpk⟩ : ∃ pk, pk = pubs[k] := ⟨_, rfl⟩
      rw [← hpk] at e0
      have HTK := Lib.hid (show (enK pubs).take (k + 1) = K ++ [(schemeH, pk)] by rw [enK_take hlt, ← HKK.out, hpk])
      clear hpk
      by_cases zp : pk.size ≤ 300
      case neg =>
        have y5 : (300 : Int) < (pk.size : Int) := by omega
        go_wp2_with fail
        go_ret
        exact ⟨rfl, HBT.out _ HBR.out⟩
      have y5 : ¬ ((300 : Int) < (pk.size : Int)) := by omega
      obtain ⟨W6, hW6⟩ : ∃ W6, W6 = wr.alloc (.cells #[.string { data := #[104, 109, 97, 99, 45, 115, 104, 97, 50, 53, 54] }, .string pk] 24) := ⟨_, rfl⟩
      have HB6 := Lib.hid (show Below wr.heap.size wr W6 by rw [hW6]; exact below_a1 _ _)
      have HX6 := Lib.hid (show W6.heap[wr.heap.size]? = some (.cells #[.string schemeH, .string pk] 24 (0, 0)) by rw [hW6]; exact heap_alloc_new wr _)
      have HMK := Lib.hid (judgeMake (schemeH, pk) X W6 (show schemeH.size ≤ 300 by decide) zp HXZ.out (HT.out W6 (HBR.out.trans (HB6.out.mono HBR.out.size))))
      rw [HXE.out] at HMK
      obtain ⟨⟨S1, S2⟩, hS⟩ : ∃ s : Sig2, s = makeS (schemeH, pk) u.enc := ⟨_, rfl⟩
      obtain ⟨E, hE⟩ : ∃ E, E = makeE (schemeH, pk) := ⟨_, rfl⟩
      rw [← hS, ← hE] at HMK
      have HMS := Lib.hid hS
      have HE := Lib.hid hE
      have HW6 := Lib.hid hW6
      have HMK2 : Hid (Calls Tryz.prog 18 #[.agg #[.string { data := #[104, 109, 97, 99, 45, 115, 104, 97, 50, 53, 54] }, .string pk], .string X] W6 fun e w' => e = .returned (.tuple #[.agg #[.string S1, .string S2], .int .i64 E]) ∧ Below W6.heap.size W6 w') := Lib.hid HMK.out
      clear hS hE hW6 HMK
      go_wp2_with fail
      rw [← HW6.out]
      refine HMK2.out.mono ?_
      clear HMK2 HW6 e0
      rintro e w7 ⟨rfl, hb7⟩
      have HB7 := Lib.hid (HB6.out.trans (hb7.mono HB6.out.size))
      have HX7 := Lib.hid ((hb7.block _ (heap_lt HX6.out)).trans HX6.out)
      clear hb7 HX6 HB6
      obtain ⟨W8, hW8⟩ : ∃ W8, W8 = w7.alloc (.cells #[.string S1, .string S2] 26) := ⟨_, rfl⟩
      have HB8 := Lib.hid (show Below wr.heap.size wr W8 by rw [hW8]; exact HB7.out.alloc HB7.out.size _)
      have hx8 : W8.heap[wr.heap.size]? = some (.cells #[.string schemeH, .string pk] 24 (0, 0)) := by rw [hW8, Below.heap_alloc _ _ _ (heap_lt HX7.out)]; exact HX7.out
      have hy8 : W8.heap[w7.heap.size]? = some (.cells #[.string S1, .string S2] 26 (0, 0)) := by rw [hW8]; exact heap_alloc_new w7 _
      have HKC := Lib.hid (show ∀ w' : World, Below W8.heap.size W8 w' → w'.cell? ⟨wr.heap.size, 0, none⟩ = some (.string { data := #[104, 109, 97, 99, 45, 115, 104, 97, 50, 53, 54] }) ∧ w'.cell? ⟨wr.heap.size, 1, none⟩ = some (.string pk) ∧ w'.cell? ⟨w7.heap.size, 0, none⟩ = some (.string S1) ∧ w'.cell? ⟨w7.heap.size, 1, none⟩ = some (.string S2) from fun w' h => by
        have x := (h.block _ (heap_lt hx8)).trans hx8
        have y := (h.block _ (heap_lt hy8)).trans hy8
        exact ⟨box_cell x rfl, box_cell x rfl, box_cell y rfl, box_cell y rfl⟩)
      have HW8 := Lib.hid hW8
      have HSB := Lib.hid hy8
      clear hW8 hx8 hy8
      obtain ⟨c0, c1, c2, c3⟩ := HKC.out W8 (Below.refl _ _)
      go_upto_region 17 with fail
      rw [← HW8.out]
      obtain ⟨ok, hok⟩ : ∃ ok, ok = ok2 (schemeH, pk) := ⟨_, rfl⟩
      have HOK := Lib.hid hok
      cases ok
      case false =>
        obtain rfl : E = 3 := by rw [HE.out]; unfold makeE; rw [← hok]; rfl
        clear hok
        have HKM := Lib.hid (keyMay schemeH pk W8 (by decide) (by omega))
        rw [show keyOk schemeH.data.toList pk.data.toList = false from HOK.out.symm] at HKM
        have HKM2 : Hid (Calls Tryz.prog 30 #[.agg #[.string { data := #[104, 109, 97, 99, 45, 115, 104, 97, 50, 53, 54] }, .string pk]] W8 fun e w' => e = .returned (.bool false) ∧ Below W8.heap.size W8 w') := Lib.hid HKM.out
        clear HKM
        go_wp2_with fail
        refine HKM2.out.mono ?_
        rintro e w9 ⟨rfl, hb9⟩
        have HB9 := Lib.hid (HB8.out.trans (hb9.mono HB8.out.size))
        clear hb9
        go_wp2_with fail
        go_ret
        exact ⟨rfl, HBT.out _ (HBR.out.trans (HB9.out.mono HBR.out.size))⟩
      obtain rfl : E = 0 := by rw [HE.out]; unfold makeE; rw [← hok]; rfl
      have HID := Lib.hid (show S1 = id2 (schemeH, pk) from by have h := HMS.out; rw [makeS_yes ⟨hok.symm, rfl⟩] at h; exact congrArg Prod.fst h)
      clear hok HE
      clear c0 c1 c2 c3
      have hz8 : wr.heap.size ≤ w7.heap.size := HB7.out.size
      have HZ8 := Lib.hid (show w7.heap.size < W8.heap.size from World.block_lt_of_cell? W8 _ (HKC.out W8 (Below.refl _ _)).2.2.1)
      -- keys = append(keys, k)
      have HR8 := Lib.hid (HR.out.carry HB8.out)
      obtain ⟨W9, hW9⟩ : ∃ W9, W9 = W8.alloc (.cells #[.string { data := #[104, 109, 97, 99, 45, 115, 104, 97, 50, 53, 54] }, .string pk] 24) := ⟨_, rfl⟩
      have HB9 := Lib.hid (show Below W8.heap.size W8 W9 by rw [hW9]; exact below_a1 _ _)
      have HB89 := Lib.hid (show Below wr.heap.size wr W9 from HB8.out.trans (HB9.out.mono HB8.out.size))
      have HN9 := Lib.hid (show W9.heap[W8.heap.size]? = some (.cells #[.string { data := #[104, 109, 97, 99, 45, 115, 104, 97, 50, 53, 54] }, .string pk] 24 (0, 0)) by rw [hW9]; exact heap_alloc_new W8 _)
      have HO9 := Lib.hid (show W9.ownsRow H 24 2 (.slice sk k ck) k (K.flatMap encK) from by have h := owns_below HR8.out.ek HB9.out; rwa [HKL.out] at h)
      have HZ9 := Lib.hid (show W9.heap.size = W8.heap.size + 1 by rw [hW9]; simp)
      have HW9 := Lib.hid hW9
      have hkm : k + 1 ≤ maxLen := by unfold maxLen; omega
      have hH9 : H ≤ W9.heap.size := (HR.out.carry HB89.out).rw.size
      obtain ⟨c0, c1, c2, c3⟩ := HKC.out W8 (Below.refl _ _)
      clear hW9
      go_upto_region 20 with (at_builtin; rw [← HW9.out]; refine wpList_append_lies _ rfl (.tmp 101) (.tmp 103) 29 rfl H 24 i3 _ 2 32 Tryz.underlying29 hi3 hz0 hz1 hz2 rfl (by decide) (.slice sk k ck) k (K.flatMap encK) rfl HO9.out ⟨W8.heap.size, 0, none⟩ 1 1 [.string { data := #[104, 109, 97, 99, 45, 115, 104, 97, 50, 53, 54] }, .string pk] rfl rfl (World.news_of_block HN9.out) (by simp [Value.oneCell']) (by decide) hkm (by omega) hH9 _ rfl ?_; intro g gc wa hoa hga hata hlta; have HOA := Lib.hid hoa; have HGA := Lib.hid hga; have HATA := Lib.hid hata; clear hoa hga hata hlta c0 c1 c2 c3)
      have hRA := HR.out.addK (p := (schemeH, pk)) (c := gc) HB89.out (by rw [HKL.out]; exact HOA.out) HGA.out (by
        rcases HATA.out with h | h
        · exact .inl h
        · exact .inr h)
      rw [HKL.out] at hRA
      have HRA := Lib.hid hRA
      have hwk : ∀ b', (Value.slice sk k ck).ownBlock = some b' → b' < wr.heap.size := fun b' hb' => (by have h := HR.out.ek.lt b' hb'; exact h.2)
      have hsA : wa.heap[w7.heap.size]? = some (.cells #[.string S1, .string S2] 26 (0, 0)) := by
        rw [HGA.out.block w7.heap.size (by have := HZ8.out; have := HZ9.out; omega) (fun e => by have := hwk _ e.symm; omega), HB9.out.block _ HZ8.out]
        exact HSB.out
      have HSA := Lib.hid hsA
      have hzA : w7.heap.size < wa.heap.size := heap_lt hsA
      obtain ⟨-, -, -, -, -, -, -, v1⟩ := HRA.out.rw.cells
      have g0 : wa.cell? ⟨w7.heap.size, 0, none⟩ = some (.string S1) := box_cell hsA rfl
      clear hRA hwk hsA HOA HGA HATA hkm hH9 HW9 HZ9 HN9 HO9 HB89 HB9 HR8
      -- a.IDs = append(a.IDs, s.ID)
      obtain ⟨Wb, hWb⟩ : ∃ Wb, Wb = wa.alloc (.cells #[.string S1] 9) := ⟨_, rfl⟩
      have HBb := Lib.hid (show Below wa.heap.size wa Wb by rw [hWb]; exact below_a1 _ _)
      have HNb := Lib.hid (show Wb.heap[wa.heap.size]? = some (.cells #[.string S1] 9 (0, 0)) by rw [hWb]; exact heap_alloc_new wa _)
      have HOb := Lib.hid (show Wb.ownsRow H 9 1 (.slice sb k cb) k (Q.map .string) from by have h := owns_below HRA.out.rw.ea HBb.out; rwa [HQL.out] at h)
      have HZb := Lib.hid (show Wb.heap.size = wa.heap.size + 1 by rw [hWb]; simp)
      have HWb := Lib.hid hWb
      have hkm : k + 1 ≤ maxLen := by unfold maxLen; omega
      have hHb : H ≤ Wb.heap.size := (HRA.out.carry HBb.out).rw.size
      clear hWb
      go_upto_region 21 with (at_builtin; rw [← HWb.out]; refine wpList_append_lies _ rfl (.tmp 106) (.tmp 109) 41 rfl H 9 i2 _ 1 16 Tryz.underlying41 hi2 hx0 hx1 hx2 rfl (by decide) (.slice sb k cb) k (Q.map .string) rfl HOb.out ⟨wa.heap.size, 0, none⟩ 1 1 [.string S1] rfl rfl (World.news_of_block HNb.out) (by simp [Value.oneCell']) (by decide) hkm (by omega) hHb _ rfl ?_; intro gB gcB wc hoc hgc hatc hltc; have HOC := Lib.hid hoc; have HGC := Lib.hid hgc; have HATC := Lib.hid hatc; obtain ⟨-, y1, -, f1⟩ := HRA.out.rw.grown HBb.out hgc (fun b' hb' => (HOb.out.lt b' hb').1); clear hoc hgc hatc hltc v1 g0)
      have hRC := HRA.out.addA (p := S1) (c := gcB) HBb.out (by rw [HQL.out]; exact HOC.out) HGC.out (by
        rcases HATC.out with h | h
        · exact .inl h
        · exact .inr h)
      rw [HQL.out] at hRC
      obtain ⟨Wd, hWd⟩ : ∃ Wd, Wd = wc.setCell ⟨A, 1, none⟩ (.slice (some ⟨gB, 0, none⟩) (k + 1) gcB) := ⟨_, rfl⟩
      rw [← hWd] at hRC
      have HRC := Lib.hid hRC
      have hwk : ∀ b', (Value.slice sb k cb).ownBlock = some b' → b' < wr.heap.size := fun b' hb' => (by have h := HR.out.rw.ea.lt b' hb'; exact h.2)
      have hsD : Wd.heap[w7.heap.size]? = some (.cells #[.string S1, .string S2] 26 (0, 0)) := by
        rw [hWd, Below.heap_setCell _ _ _ _ (by have := HR.out.rw.hW; have := HR.out.rw.size; show w7.heap.size ≠ A; omega), HGC.out.block w7.heap.size (by have := HZb.out; omega) (fun e => by have := hwk _ e.symm; omega), HBb.out.block _ hzA]
        exact HSA.out
      have HSD := Lib.hid hsD
      have hzD : w7.heap.size < Wd.heap.size := heap_lt hsD
      have HWd := Lib.hid hWd
      clear hRC hwk hsD HOC HGC HATC HNb HOb HZb HWb HBb hHb hWd y1 f1 HSA HRA hzA
      rw [← HWd.out]
      by_cases hkn : k < qn
      · have d3 : (k : Int) < (qn : Int) := by omega
        have g0 : Wd.cell? ⟨w7.heap.size, 0, none⟩ = some (.string S1) := box_cell HSD.out rfl
        have g1 : Wd.cell? ⟨w7.heap.size, 1, none⟩ = some (.string S2) := box_cell HSD.out rfl
        obtain ⟨-, -, -, -, -, v5, -, -⟩ := HRC.out.rw.cells
        obtain ⟨We, hWe⟩ : ∃ We, We = Wd.alloc (.cells #[.string S1, .string S2] 26) := ⟨_, rfl⟩
        have HBe := Lib.hid (show Below Wd.heap.size Wd We by rw [hWe]; exact below_a1 _ _)
        have HNe := Lib.hid (show We.heap[Wd.heap.size]? = some (.cells #[.string S1, .string S2] 26 (0, 0)) by rw [hWe]; exact heap_alloc_new Wd _)
        have HOe := Lib.hid (show We.ownsRow H 26 2 (.slice sy np cy) np (P.flatMap encK) from by have h := owns_below HRC.out.rw.ey HBe.out; rwa [← HNP.out] at h)
        have HWe := Lib.hid hWe
        have hkm2 : np + 1 ≤ maxLen := by unfold maxLen; omega
        have hHe : H ≤ We.heap.size := (HRC.out.carry HBe.out).rw.size
        clear hWe
        go_wp2_with (at_builtin; rw [← HWe.out]; refine wpList_append_lies _ rfl (.tmp 116) (.tmp 118) 45 rfl H 26 i1 _ 2 32 Tryz.underlying45 hi1 hy0 hy1 hy2 rfl (by decide) (.slice sy np cy) np (P.flatMap encK) rfl HOe.out ⟨Wd.heap.size, 0, none⟩ 1 1 [.string S1, .string S2] rfl rfl (World.news_of_block HNe.out) (by simp [Value.oneCell']) (by decide) hkm2 (by omega) hHe _ rfl ?_; intro gS gcS wf hof hgf hatf hltf; have HOF := Lib.hid hof; have HGF := Lib.hid hgf; have HATF := Lib.hid hatf; obtain ⟨y5, -, f5, -⟩ := HRC.out.rw.grown HBe.out hgf (fun b' hb' => (HOe.out.lt b' hb').1); clear hof hgf hatf hltf v5 g0 g1)
        go_roundw
        case rel =>
          have hRF := HRC.out.addY (p := (S1, S2)) (c := gcS) HBe.out (by rw [← HNP.out]; exact HOF.out) HGF.out (by
            rcases HATF.out with h | h
            · exact .inl h
            · exact .inr h)
          rw [← HNP.out] at hRF
          refine ⟨k + 1, .slice (some ⟨gS, 0, none⟩) (np + 1) gcS, .slice (some ⟨gB, 0, none⟩) (k + 1) gcB, by omega, by go_num, ?_, ?_⟩
          · rw [HTK.out, enS_more _ (by rw [HKL.out]; exact hkn), List.map_append, ← HMS.out, ← HPP.out, ← HQQ.out, show [(schemeH, pk)].map id2 = [S1] from congrArg (fun z => [z]) (HID.out.symm)]
            exact hRF
          · rw [HTK.out]
            intro p hp
            rcases List.mem_append.1 hp with hp | hp
            · exact HOKS.out p hp
            · rw [List.mem_singleton] at hp; rw [hp]; exact HOK.out.symm
        case measure => simp [intOf]; omega
      · have d3 : ¬ ((k : Int) < (qn : Int)) := by omega
        go_wp2
        go_roundw
        case rel =>
          refine ⟨k + 1, .slice sy np cy, .slice (some ⟨gB, 0, none⟩) (k + 1) gcB, by omega, by go_num, ?_, ?_⟩
          · rw [HTK.out, enS_same _ (by rw [HKL.out]; exact hkn), List.map_append, ← HPP.out, ← HQQ.out, show [(schemeH, pk)].map id2 = [S1] from congrArg (fun z => [z]) (HID.out.symm)]
            exact HRC.out
          · rw [HTK.out]
            intro p hp
            rcases List.mem_append.1 hp with hp | hp
            · exact HOKS.out p hp
            · rw [List.mem_singleton] at hp; rw [hp]; exact HOK.out.symm
        case measure => simp [intOf]; omega
    · have hke : k = pubs.length := by omega
      subst hke
      have HKE := Lib.hid (show K = enK pubs by rw [HKK.out, ← enK_length pubs, List.take_length])
      clear hlt hk HKK
      obtain ⟨wQ, rfl⟩ : ∃ wQ, wQ = wr := ⟨wr, rfl⟩
      go_wp2_with fail
      go_loopw [20] (fun i wr => ∃ (j : Nat) (vy : Value), j ≤ oth.length ∧ i = .int .i64 j ∧ RE W0 H Y A u an ai cn ci T wr (P ++ (oth.take j).filter (enF Q)) Q K vy (.slice sb pubs.length cb) (.slice sk pubs.length ck)) (fun i _ => oth.length - (intOf i).toNat)
      case atStart => exact ⟨0, _, Nat.zero_le _, rfl, by rw [List.take_zero, List.filter_nil, List.append_nil]; exact HR.out⟩
      case round =>
        clear HR HBR
        obtain ⟨j, vy, hj, rfl, hre⟩ := hrel
        have HR := Lib.hid hre
        have HBR := Lib.hid hre.rw.below
        clear hre
        obtain ⟨PF, hPF⟩ : ∃ PF, PF = P ++ (oth.take j).filter (enF Q) := ⟨_, rfl⟩
        have hfl : PF.length ≤ 60 := by
          rw [hPF, List.length_append]
          have := List.length_filter_le (enF Q) (oth.take j)
          rw [List.length_take] at this
          have := HNP.out
          omega
        rw [← hPF] at HR
        have HPF := Lib.hid hPF
        obtain ⟨nf, hnf⟩ : ∃ nf, nf = PF.length := ⟨_, rfl⟩
        obtain ⟨sz, cz, -, -, -, -, e1, -, -, -, -, -⟩ := HR.out.slices
        rw [← hnf] at hfl e1
        subst e1
        have HNF := Lib.hid hnf
        clear hPF hnf
        have HQA := Lib.hid (show ∀ w' : World, Below wr.heap.size wr w' → StrsAt w' 0 w'.heap.size sb Q from fun w' h => by
          obtain ⟨_, _, sb2, cb2, _, _, -, eb2, -, -, hs2, -⟩ := (HR.out.carry h).slices
          simp only [Value.slice.injEq] at eb2
          rw [← eb2.1] at hs2
          exact hs2)
        by_cases hlt : j < oth.length
        · obtain ⟨b, off, ha, _, hb, e0, e1⟩ := (HOT.out wr HBR.out).at j hlt
          subst ha
          obtain ⟨p, hp⟩ : ∃ p, p = oth[j] := ⟨_, rfl⟩
          rw [← hp] at e0 e1
          have HTK := Lib.hid (show P ++ (oth.take (j + 1)).filter (enF Q) = PF ++ (if enF Q p = true then [p] else []) by rw [enF_step hlt, ← List.append_assoc, ← HPF.out, hp])
          clear hp
          obtain ⟨s0, s1⟩ := p
          have HC := Lib.hid (show ∀ w' : World, Below wr.heap.size wr w' → w'.cell? ⟨A, 0, none⟩ = some (.int .i64 T) ∧ w'.cell? ⟨A, 1, none⟩ = some (.slice sb pubs.length cb) ∧ w'.cell? ⟨Y, 5, none⟩ = some (.slice sz nf cz) ∧ w'.cell? ⟨b, off + j * 2, none⟩ = some (.string s0) ∧ w'.cell? ⟨b, off + j * 2 + 1, none⟩ = some (.string s1) from fun w' h =>
            have c := (HR.out.carry h).rw.cells
            ⟨c.2.2.2.2.2.2.1, c.2.2.2.2.2.2.2, c.2.2.2.2.2.1, (World.cell?_of_block (w := wr) (h.block b hb)).trans e0, (World.cell?_of_block (w := wr) (h.block b hb)).trans e1⟩)
          have m1 : (0 : Int) ≤ (j : Int) := by omega
          have m2 : (j : Int) < (oth.length : Int) := by omega
          clear e0 e1 hb
          obtain ⟨q, hq⟩ : ∃ q : Bool, q = Q.any (fun i => decide (i = s0)) := ⟨_, rfl⟩
          have HAH := Lib.hid (show ∀ w' : World, Below wr.heap.size wr w' → Calls Tryz.prog 31 #[.agg #[.int .i64 T, .slice sb pubs.length cb], .string s0] w' (fun e w'' => e = .returned (.bool q) ∧ Below w'.heap.size w' w'') from fun w' h => by
            have hc := authHas T Q s0 sb cb w' (HQA.out w' h) (by have := HQL.out; omega)
            rw [HQL.out, ← hq] at hc
            exact hc)
          have HFQ := Lib.hid (show enF Q (s0, s1) = !q from by rw [hq]; rfl)
          clear hq
          go_upto_region 26 with fail
          obtain ⟨V, hV⟩ : ∃ V : List MP, V = [.con (.agg #[.int .i64 T, .slice sb pubs.length cb]), .con (.slice (some ⟨b, off, none⟩) oth.length oc), .con (.int .i64 (j : Int)), .con (.pointer (some ⟨b, off + j * 2, none⟩)), .con (.pointer (some ⟨b, off + j * 2, none⟩)), .con (.string s0), .con (.bool q)] := ⟨_, rfl⟩
          have HV := Lib.hid hV
          clear hV
          refine wp_region_inv 7 (fun d a' w' => ∃ x127 x128 x129 x130 x131 x132 x133, a' = ⟨#[Value.agg #[Value.int IntKind.u8 u.kind, Value.int IntKind.i64 u.n, Value.string u.t, Value.slice an u.names.length cn, Value.slice ai u.items.length ci], Value.slice pa pubs.length pc, Value.int IntKind.i64 (qn : Int), Value.int IntKind.i64 th, Value.slice (some { block := b, off := off }) oth.length oc, Value.pointer (some { block := w.heap.size, off := 0 }), undef, undef, undef, undef, u10, Value.pointer (some { block := Y, off := 0 }), Value.string X, Value.int IntKind.i64 0, Value.pointer (some { block := A, off := 0 }), Value.slice sk pubs.length ck, Value.int IntKind.i64 (pubs.length : Int), u17, u18, u19, Value.int IntKind.i64 (j : Int), Value.agg #[Value.int IntKind.u8 u.kind, Value.int IntKind.i64 u.n, Value.string u.t, Value.slice an u.names.length cn, Value.slice ai u.items.length ci], Value.agg #[Value.int IntKind.u8 u.kind, Value.int IntKind.i64 u.n, Value.string u.t, Value.slice an u.names.length cn, Value.slice ai u.items.length ci], Value.agg #[Value.int IntKind.u8 u.kind, Value.int IntKind.i64 u.n, Value.string u.t, Value.slice an u.names.length cn, Value.slice ai u.items.length ci], Value.agg #[Value.int IntKind.u8 u.kind, Value.int IntKind.i64 u.n, Value.string u.t, Value.slice an u.names.length cn, Value.slice ai u.items.length ci], Value.slice (some { block := w.heap.size + 1, off := 0 }) 4 4, Value.bool false, Value.bool false, Value.slice pa pubs.length pc, Value.int IntKind.i64 (pubs.length : Int), Value.bool (decide ((pubs.length : Int) < 1)), Value.bool (decide ((pubs.length : Int) < 1)), Value.bool (decide ((pubs.length : Int) < 1)), Value.slice pa pubs.length pc, Value.int IntKind.i64 (pubs.length : Int), Value.bool (decide (16 < (pubs.length : Int))), Value.bool (decide ((pubs.length : Int) < 1) || decide (16 < (pubs.length : Int))), Value.bool (decide ((pubs.length : Int) < 1) || decide (16 < (pubs.length : Int))), Value.slice (some { block := b, off := off }) oth.length oc, Value.int IntKind.i64 (oth.length : Int), Value.bool (decide (40 < (oth.length : Int))), Value.bool (decide ((pubs.length : Int) < 1) || decide (16 < (pubs.length : Int)) || decide (40 < (oth.length : Int))), Value.bool (decide ((pubs.length : Int) < 1) || decide (16 < (pubs.length : Int)) || decide (40 < (oth.length : Int))), Value.bool true, Value.bool false, Value.bool (decide ((pubs.length : Int) < 1) || decide (16 < (pubs.length : Int)) || decide (40 < (oth.length : Int))), undef, Value.agg #[Value.int IntKind.u8 u.kind, Value.int IntKind.i64 u.n, Value.string u.t, Value.slice an u.names.length cn, Value.slice ai u.items.length ci], Value.agg #[Value.int IntKind.u8 u.kind, Value.int IntKind.i64 u.n, Value.string u.t, Value.slice an u.names.length cn, Value.slice ai u.items.length ci, Value.slice none 0 0], Value.tuple #[Value.string X, Value.int IntKind.i64 0], Value.agg #[Value.int IntKind.u8 u.kind, Value.int IntKind.i64 u.n, Value.string u.t, Value.slice an u.names.length cn, Value.slice ai u.items.length ci, Value.slice none 0 0], Value.tuple #[Value.string X, Value.int IntKind.i64 0], Value.string X, Value.int IntKind.i64 0, Value.int IntKind.i64 0, Value.bool false, Value.int IntKind.i64 n, Value.int IntKind.u64 (IntKind.u64.wrap n), Value.slice pa pubs.length pc, Value.int IntKind.i64 (pubs.length : Int), Value.int IntKind.i64 ((pubs.length : Int) + 1), Value.int IntKind.u64 ((pubs.length : Int) + 1), Value.int IntKind.u64 ((IntKind.u64.wrap n).tmod ((pubs.length : Int) + 1)), Value.int IntKind.i64 (qn : Int), Value.int IntKind.i64 th, Value.int IntKind.u64 (IntKind.u64.wrap th), Value.slice pa pubs.length pc, Value.int IntKind.i64 (pubs.length : Int), Value.int IntKind.u64 (pubs.length : Int), Value.int IntKind.u64 ((IntKind.u64.wrap th).tmod (pubs.length : Int)), Value.int IntKind.i64 (qt : Int), Value.int IntKind.i64 T, Value.agg #[Value.int IntKind.i64 T, Value.slice none 0 0], Value.int IntKind.i64 (pubs.length : Int), Value.slice pa pubs.length pc, Value.int IntKind.i64 (pubs.length : Int), Value.bool false, u77, u78, u79, u80, u81, u82, u83, u84, u85, u86, u87, u88, u89, u90, u91, u92, u93, u94, u95, u96, u97, u98, u99, u100, u101, u102, u103, u104, u105, u106, u107, u108, u109, u110, u111, u112, u113, u114, u115, u116, u117, u118, u119, u120, Value.int IntKind.i64 (j : Int), Value.slice (some { block := b, off := off }) oth.length oc, Value.int IntKind.i64 (oth.length : Int), Value.bool true, u125, u126, x127, x128, x129, x130, x131, x132, x133, u134, u135, u136, u137, u138, u139, u140, u141, u142, u143, undef, undef, undef, undef, undef, undef, undef, undef, undef, undef, undef, undef, undef, undef, undef, undef, undef, undef, undef, undef, undef, undef, undef, undef, undef, undef, undef, undef, undef, undef, undef, undef, undef, undef, undef, undef, undef, undef, undef, undef, undef], []⟩ ∧ RegI wr V d w' [x127, x128, x129, x130, x131, x132, x133]) (by kernel_rfl) (by kernel_rfl) ?first ?step ?last
          case first => exact ⟨_, _, _, _, _, _, _, rfl, RegI.first _ _ _ (by rw [HV.out]; rfl)⟩
          case step =>
            rintro d a' w' ⟨x127, x128, x129, x130, x131, x132, x133, rfl, h⟩ q hq hn hw
            rcases q with _ | _ | _ | _ | _ | _ | _ | q
            · obtain ⟨v0, v1, y5, e0, e1⟩ := HC.out w' h.1
              refine wpOp_step rfl fun K hK => ?_
              go_simp
              exact hK _ _ ⟨_, x128, x129, x130, x131, x132, x133, rfl, h.same 0 _ (.con (.agg #[.int .i64 T, .slice sb pubs.length cb])) (by rw [HV.out]; rfl) rfl⟩
            · refine wpOp_step rfl fun K hK => ?_
              go_simp
              exact hK _ _ ⟨x127, _, x129, x130, x131, x132, x133, rfl, h.same 1 _ (.con (.slice (some ⟨b, off, none⟩) oth.length oc)) (by rw [HV.out]; rfl) rfl⟩
            · refine wpOp_step rfl fun K hK => ?_
              go_simp
              exact hK _ _ ⟨x127, x128, _, x130, x131, x132, x133, rfl, h.same 2 _ (.con (.int .i64 (j : Int))) (by rw [HV.out]; rfl) rfl⟩
            · obtain rfl : x128 = .slice (some ⟨b, off, none⟩) oth.length oc := h.get 1 (hw _ rfl ⟨1, .data⟩ (by simp) rfl) (.con (.slice (some ⟨b, off, none⟩) oth.length oc)) (by rw [HV.out]; rfl) _ rfl
              obtain rfl : x129 = .int .i64 (j : Int) := h.get 2 (hw _ rfl ⟨2, .data⟩ (by simp) rfl) (.con (.int .i64 (j : Int))) (by rw [HV.out]; rfl) _ rfl
              obtain ⟨v0, v1, y5, e0, e1⟩ := HC.out w' h.1
              refine wpOp_step rfl fun K hK => ?_
              go_simp
              exact hK _ _ ⟨x127, _, _, _, x131, x132, x133, rfl, h.same 3 _ (.con (.pointer (some ⟨b, off + j * 2, none⟩))) (by rw [HV.out]; rfl) rfl⟩
            · obtain rfl : x130 = .pointer (some ⟨b, off + j * 2, none⟩) := h.get 3 (hw _ rfl ⟨3, .data⟩ (by simp) rfl) (.con (.pointer (some ⟨b, off + j * 2, none⟩))) (by rw [HV.out]; rfl) _ rfl
              refine wpOp_step rfl fun K hK => ?_
              go_simp
              exact hK _ _ ⟨x127, x128, x129, _, _, x132, x133, rfl, h.same 4 _ (.con (.pointer (some ⟨b, off + j * 2, none⟩))) (by rw [HV.out]; rfl) rfl⟩
            · obtain rfl : x131 = .pointer (some ⟨b, off + j * 2, none⟩) := h.get 4 (hw _ rfl ⟨4, .data⟩ (by simp) rfl) (.con (.pointer (some ⟨b, off + j * 2, none⟩))) (by rw [HV.out]; rfl) _ rfl
              obtain ⟨v0, v1, y5, e0, e1⟩ := HC.out w' h.1
              refine wpOp_step rfl fun K hK => ?_
              go_simp
              exact hK _ _ ⟨x127, x128, x129, x130, _, _, x133, rfl, h.same 5 _ (.con (.string s0)) (by rw [HV.out]; rfl) rfl⟩
            · obtain rfl : x127 = .agg #[.int .i64 T, .slice sb pubs.length cb] := h.get 0 (hw _ rfl ⟨0, .data⟩ (by simp) rfl) (.con (.agg #[.int .i64 T, .slice sb pubs.length cb])) (by rw [HV.out]; rfl) _ rfl
              obtain rfl : x132 = .string s0 := h.get 5 (hw _ rfl ⟨5, .data⟩ (by simp) rfl) (.con (.string s0)) (by rw [HV.out]; rfl) _ rfl
              obtain ⟨v0, v1, y5, e0, e1⟩ := HC.out w' h.1
              refine wpOp_step rfl fun K hK => ?_
              go_simp
              refine (HAH.out w' h.1).mono ?_
              rintro e w2 ⟨rfl, hb2⟩
              exact hK _ _ ⟨_, x128, x129, x130, x131, _, _, rfl, h.did hb2 6 _ (.con (.bool q)) (by rw [HV.out]; rfl) rfl⟩
            · omega
          case last =>
            rintro d a' w' hall ⟨x127, x128, x129, x130, x131, x132, x133, rfl, h⟩
            have hle := h.1
            obtain rfl : x133 = .bool q := h.get 6 (hall _ (by omega)) (.con (.bool q)) (by rw [HV.out]; rfl) _ rfl
            have HLE := Lib.hid hle
            clear h hall hle HV
            have HRC := Lib.hid (HR.out.carry HLE.out)
            cases q
            case true =>
              go_wp2
              go_roundw
              case rel => exact ⟨j + 1, _, by omega, by go_num, by rw [HTK.out, if_neg (by rw [HFQ.out]; decide), List.append_nil]; exact HRC.out⟩
              case measure => simp [intOf]; omega
            go_wp2_with fail
            have HLE0 := Lib.hid HLE.out
            obtain ⟨wv, rfl⟩ : ∃ wv, wv = w' := ⟨w', rfl⟩
            clear HLE
            replace HC := Lib.hid (show ∀ w' : World, Below wv.heap.size wv w' → _ from fun w' h => HC.out w' (HLE0.out.trans (h.mono HLE0.out.size)))
            obtain ⟨v0, v1, y5, e0, e1⟩ := HC.out wv (Below.refl _ _)
            go_upto_region 27 with fail
            clear v0 v1 y5 e0 e1
            obtain ⟨V, hV⟩ : ∃ V : List MP, V = [.con (.pointer (some ⟨Y, 5, none⟩)), .con (.slice sz nf cz), .con (.slice (some ⟨b, off, none⟩) oth.length oc), .con (.int .i64 (j : Int)), .con (.pointer (some ⟨b, off + j * 2, none⟩)), .con (.agg #[.string s0, .string s1]), .row wv.heap.size 1 26 #[.string s0, .string s1]] := ⟨_, rfl⟩
            have HV := Lib.hid hV
            clear hV
            refine wp_region_inv 7 (fun d a' w' => ∃ x135 x136 x137 x138 x139 x140 x141, a' = ⟨#[Value.agg #[Value.int IntKind.u8 u.kind, Value.int IntKind.i64 u.n, Value.string u.t, Value.slice an u.names.length cn, Value.slice ai u.items.length ci], Value.slice pa pubs.length pc, Value.int IntKind.i64 (qn : Int), Value.int IntKind.i64 th, Value.slice (some { block := b, off := off }) oth.length oc, Value.pointer (some { block := w.heap.size, off := 0 }), undef, undef, undef, undef, u10, Value.pointer (some { block := Y, off := 0 }), Value.string X, Value.int IntKind.i64 0, Value.pointer (some { block := A, off := 0 }), Value.slice sk pubs.length ck, Value.int IntKind.i64 (pubs.length : Int), u17, u18, u19, Value.int IntKind.i64 (j : Int), Value.agg #[Value.int IntKind.u8 u.kind, Value.int IntKind.i64 u.n, Value.string u.t, Value.slice an u.names.length cn, Value.slice ai u.items.length ci], Value.agg #[Value.int IntKind.u8 u.kind, Value.int IntKind.i64 u.n, Value.string u.t, Value.slice an u.names.length cn, Value.slice ai u.items.length ci], Value.agg #[Value.int IntKind.u8 u.kind, Value.int IntKind.i64 u.n, Value.string u.t, Value.slice an u.names.length cn, Value.slice ai u.items.length ci], Value.agg #[Value.int IntKind.u8 u.kind, Value.int IntKind.i64 u.n, Value.string u.t, Value.slice an u.names.length cn, Value.slice ai u.items.length ci], Value.slice (some { block := w.heap.size + 1, off := 0 }) 4 4, Value.bool false, Value.bool false, Value.slice pa pubs.length pc, Value.int IntKind.i64 (pubs.length : Int), Value.bool (decide ((pubs.length : Int) < 1)), Value.bool (decide ((pubs.length : Int) < 1)), Value.bool (decide ((pubs.length : Int) < 1)), Value.slice pa pubs.length pc, Value.int IntKind.i64 (pubs.length : Int), Value.bool (decide (16 < (pubs.length : Int))), Value.bool (decide ((pubs.length : Int) < 1) || decide (16 < (pubs.length : Int))), Value.bool (decide ((pubs.length : Int) < 1) || decide (16 < (pubs.length : Int))), Value.slice (some { block := b, off := off }) oth.length oc, Value.int IntKind.i64 (oth.length : Int), Value.bool (decide (40 < (oth.length : Int))), Value.bool (decide ((pubs.length : Int) < 1) || decide (16 < (pubs.length : Int)) || decide (40 < (oth.length : Int))), Value.bool (decide ((pubs.length : Int) < 1) || decide (16 < (pubs.length : Int)) || decide (40 < (oth.length : Int))), Value.bool true, Value.bool false, Value.bool (decide ((pubs.length : Int) < 1) || decide (16 < (pubs.length : Int)) || decide (40 < (oth.length : Int))), undef, Value.agg #[Value.int IntKind.u8 u.kind, Value.int IntKind.i64 u.n, Value.string u.t, Value.slice an u.names.length cn, Value.slice ai u.items.length ci], Value.agg #[Value.int IntKind.u8 u.kind, Value.int IntKind.i64 u.n, Value.string u.t, Value.slice an u.names.length cn, Value.slice ai u.items.length ci, Value.slice none 0 0], Value.tuple #[Value.string X, Value.int IntKind.i64 0], Value.agg #[Value.int IntKind.u8 u.kind, Value.int IntKind.i64 u.n, Value.string u.t, Value.slice an u.names.length cn, Value.slice ai u.items.length ci, Value.slice none 0 0], Value.tuple #[Value.string X, Value.int IntKind.i64 0], Value.string X, Value.int IntKind.i64 0, Value.int IntKind.i64 0, Value.bool false, Value.int IntKind.i64 n, Value.int IntKind.u64 (IntKind.u64.wrap n), Value.slice pa pubs.length pc, Value.int IntKind.i64 (pubs.length : Int), Value.int IntKind.i64 ((pubs.length : Int) + 1), Value.int IntKind.u64 ((pubs.length : Int) + 1), Value.int IntKind.u64 ((IntKind.u64.wrap n).tmod ((pubs.length : Int) + 1)), Value.int IntKind.i64 (qn : Int), Value.int IntKind.i64 th, Value.int IntKind.u64 (IntKind.u64.wrap th), Value.slice pa pubs.length pc, Value.int IntKind.i64 (pubs.length : Int), Value.int IntKind.u64 (pubs.length : Int), Value.int IntKind.u64 ((IntKind.u64.wrap th).tmod (pubs.length : Int)), Value.int IntKind.i64 (qt : Int), Value.int IntKind.i64 T, Value.agg #[Value.int IntKind.i64 T, Value.slice none 0 0], Value.int IntKind.i64 (pubs.length : Int), Value.slice pa pubs.length pc, Value.int IntKind.i64 (pubs.length : Int), Value.bool false, u77, u78, u79, u80, u81, u82, u83, u84, u85, u86, u87, u88, u89, u90, u91, u92, u93, u94, u95, u96, u97, u98, u99, u100, u101, u102, u103, u104, u105, u106, u107, u108, u109, u110, u111, u112, u113, u114, u115, u116, u117, u118, u119, u120, Value.int IntKind.i64 (j : Int), Value.slice (some { block := b, off := off }) oth.length oc, Value.int IntKind.i64 (oth.length : Int), Value.bool true, u125, u126, x127, x128, x129, x130, x131, x132, Value.bool false, Value.bool true, x135, x136, x137, x138, x139, x140, x141, u142, u143, undef, undef, undef, undef, undef, undef, undef, undef, undef, undef, undef, undef, undef, undef, undef, undef, undef, undef, undef, undef, undef, undef, undef, undef, undef, undef, undef, undef, undef, undef, undef, undef, undef, undef, undef, undef, undef, undef, undef, undef, undef], []⟩ ∧ RegI wv V d w' [x135, x136, x137, x138, x139, x140, x141]) (by kernel_rfl) (by kernel_rfl) ?first ?step ?last
            case first => exact ⟨_, _, _, _, _, _, _, rfl, RegI.first _ _ _ (by rw [HV.out]; rfl)⟩
            case step =>
              rintro d a' w' ⟨x135, x136, x137, x138, x139, x140, x141, rfl, h⟩ q hq hn hw
              rcases q with _ | _ | _ | _ | _ | _ | _ | q
              · refine wpOp_step rfl fun K hK => ?_
                go_simp
                exact hK _ _ ⟨_, x136, x137, x138, x139, x140, x141, rfl, h.same 0 _ (.con (.pointer (some ⟨Y, 5, none⟩))) (by rw [HV.out]; rfl) rfl⟩
              · obtain rfl : x135 = .pointer (some ⟨Y, 5, none⟩) := h.get 0 (hw _ rfl ⟨0, .data⟩ (by simp) rfl) (.con (.pointer (some ⟨Y, 5, none⟩))) (by rw [HV.out]; rfl) _ rfl
                obtain ⟨v0, v1, y5, e0, e1⟩ := HC.out w' h.1
                refine wpOp_step rfl fun K hK => ?_
                go_simp
                exact hK _ _ ⟨_, _, x137, x138, x139, x140, x141, rfl, h.same 1 _ (.con (.slice sz nf cz)) (by rw [HV.out]; rfl) rfl⟩
              · refine wpOp_step rfl fun K hK => ?_
                go_simp
                exact hK _ _ ⟨x135, x136, _, x138, x139, x140, x141, rfl, h.same 2 _ (.con (.slice (some ⟨b, off, none⟩) oth.length oc)) (by rw [HV.out]; rfl) rfl⟩
              · refine wpOp_step rfl fun K hK => ?_
                go_simp
                exact hK _ _ ⟨x135, x136, x137, _, x139, x140, x141, rfl, h.same 3 _ (.con (.int .i64 (j : Int))) (by rw [HV.out]; rfl) rfl⟩
              · obtain rfl : x137 = .slice (some ⟨b, off, none⟩) oth.length oc := h.get 2 (hw _ rfl ⟨2, .data⟩ (by simp) rfl) (.con (.slice (some ⟨b, off, none⟩) oth.length oc)) (by rw [HV.out]; rfl) _ rfl
                obtain rfl : x138 = .int .i64 (j : Int) := h.get 3 (hw _ rfl ⟨3, .data⟩ (by simp) rfl) (.con (.int .i64 (j : Int))) (by rw [HV.out]; rfl) _ rfl
                obtain ⟨v0, v1, y5, e0, e1⟩ := HC.out w' h.1
                refine wpOp_step rfl fun K hK => ?_
                go_simp
                exact hK _ _ ⟨x135, x136, _, _, _, x140, x141, rfl, h.same 4 _ (.con (.pointer (some ⟨b, off + j * 2, none⟩))) (by rw [HV.out]; rfl) rfl⟩
              · obtain rfl : x139 = .pointer (some ⟨b, off + j * 2, none⟩) := h.get 4 (hw _ rfl ⟨4, .data⟩ (by simp) rfl) (.con (.pointer (some ⟨b, off + j * 2, none⟩))) (by rw [HV.out]; rfl) _ rfl
                obtain ⟨v0, v1, y5, e0, e1⟩ := HC.out w' h.1
                refine wpOp_step rfl fun K hK => ?_
                go_simp
                exact hK _ _ ⟨x135, x136, x137, x138, _, _, x141, rfl, h.same 5 _ (.con (.agg #[.string s0, .string s1])) (by rw [HV.out]; rfl) rfl⟩
              · obtain rfl : x140 = .agg #[.string s0, .string s1] := h.get 5 (hw _ rfl ⟨5, .data⟩ (by simp) rfl) (.con (.agg #[.string s0, .string s1])) (by rw [HV.out]; rfl) _ rfl
                refine wpOp_step rfl fun K hK => ?_
                go_simp
                exact hK _ _ ⟨x135, x136, x137, x138, x139, _, _, rfl, h.new _ 6 _ (.row wv.heap.size 1 26 #[.string s0, .string s1]) (by rw [HV.out]; rfl) (IsRow.made _ h.1.size)⟩
              · omega
            case last =>
              rintro d a' w' hall ⟨x135, x136, x137, x138, x139, x140, x141, rfl, h⟩
              have hle := h.1
              obtain rfl : x136 = .slice sz nf cz := h.get 1 (hall _ (by omega)) (.con (.slice sz nf cz)) (by rw [HV.out]; rfl) _ rfl
              obtain ⟨b141, k141, rfl, m141⟩ := h.get 6 (hall _ (by omega)) (.row wv.heap.size 1 26 #[.string s0, .string s1]) (by rw [HV.out]; rfl) _ rfl
              have HLE := Lib.hid hle
              clear h hall hle HV
              have HRD := Lib.hid (HRC.out.carry HLE.out)
              have HW1 := Lib.hid (World.news_of_block m141)
              have hown : w'.ownsRow H 26 2 (.slice sz nf cz) nf (PF.flatMap encK) := by have h := HRD.out.rw.ey; rwa [← HNF.out] at h
              have hk1 : nf + 1 ≤ maxLen := by unfold maxLen; omega
              have hk3 : H ≤ w'.heap.size := HRD.out.rw.size
              clear k141 m141
              refine wpList_append_lies _ rfl (.tmp 136) (.tmp 141) 45 rfl H 26 i1 _ 2 32 Tryz.underlying45 hi1 hy0 hy1 hy2 rfl (by decide) (.slice sz nf cz) nf (PF.flatMap encK) rfl hown ⟨b141, 0, none⟩ 1 1 (Array.toList #[.string s0, .string s1]) rfl rfl HW1.out (by simp [Value.oneCell']) (by decide) hk1 (by omega) hk3 _ rfl ?_
              intro g gc w7 ho7 hg7 hat7 hlt7
              obtain ⟨y5, -, f5, -⟩ := HRD.out.rw.grown (Below.refl _ _) hg7 (fun b hb => (hown.lt b hb).1)
              have hadd := HRC.out.addY (p := (s0, s1)) (c := gc) HLE.out (by rw [← HNF.out]; exact ho7) hg7 hat7
              rw [← HNF.out] at hadd
              have HAD := Lib.hid hadd
              clear hadd ho7 hg7 hat7 hlt7 hk3 hown
              go_wp2
              go_roundw
              case rel => exact ⟨j + 1, _, by omega, by go_num, by rw [HTK.out, if_pos (by rw [HFQ.out]; decide)]; exact HAD.out⟩
              case measure => simp [intOf]; omega
        · have hje : j = oth.length := by omega
          have HPE := Lib.hid (show PF = enS (enK pubs) qn u.enc ++ oth.filter (enF Q) by rw [HPF.out, hje, List.take_length, HPP.out, HKE.out])
          have m3 : ¬ ((j : Int) < (oth.length : Int)) := by omega
          clear hje hlt hj HPF
          obtain ⟨wz, rfl⟩ : ∃ wz, wz = wr := ⟨wr, rfl⟩
          have HZ0R := Lib.hid (show ∀ w' : World, Below wz.heap.size wz w' → Below W0.heap.size W0 w' from fun w' h => HBR.out.trans (h.mono HBR.out.size))
          have HQE := Lib.hid (show Q = (enK pubs).map id2 by rw [HQQ.out, HKE.out])
          have HOKE := Lib.hid (show ∀ p ∈ enK pubs, ok2 p = true by have h := HOKS.out; rwa [HKE.out] at h)
          have HEVZ := Lib.hid (show ∀ w' : World, Below wz.heap.size wz w' → EnvAt w' u PF an ai sz cn ci from fun w' h => by
            obtain ⟨sz2, cz2, _, _, _, _, ez2, -, -, hs2, -, -⟩ := (HR.out.carry h).slices
            simp only [Value.slice.injEq] at ez2
            rw [← ez2.1] at hs2
            refine ⟨HU.out w' (HZ0R.out w' h), hs2, by have := HWT.out; omega, fun s hs => ?_, by rw [← HNF.out]; omega⟩
            rw [HPE.out] at hs
            rcases List.mem_append.1 hs with hs | hs
            · unfold enS at hs
              obtain ⟨k2, _, rfl⟩ := List.mem_map.1 hs
              have := makeS_size k2 u.enc
              omega
            · exact HOZ.out s (List.mem_filter.1 hs).1)
          have HAUZ := Lib.hid (show ∀ w' : World, Below wz.heap.size wz w' → AuthAt w' Q sb from fun w' h => ⟨HQA.out w' h, fun s hs => by rw [HQE.out] at hs; obtain ⟨k2, _, rfl⟩ := List.mem_map.1 hs; exact id2_size' k2, by have := HQL.out; omega⟩)
          have HKRZ := Lib.hid (show ∀ w' : World, Below wz.heap.size wz w' → KeyRow w' (enK pubs) sk from fun w' h => by
            obtain ⟨_, _, _, _, sk2, ck2, -, -, ek2, -, -, hs2⟩ := (HR.out.carry h).slices
            simp only [Value.slice.injEq] at ek2
            rw [← ek2.1, HKE.out] at hs2
            refine ⟨hs2, by rw [enK_length]; omega, fun k2 hk2 => ?_⟩
            have h3 := pub_size (ok2_parts (HOKE.out k2 hk2))
            obtain ⟨x, _, rfl⟩ := List.mem_map.1 hk2
            exact ⟨show schemeH.size ≤ 300 by decide, by have : x.size ≤ 128 := h3; show x.size ≤ 300; omega⟩)
          have HCZ := Lib.hid (show ∀ w' : World, Below wz.heap.size wz w' → w'.cell? ⟨Y, 0, none⟩ = some (.int .u8 u.kind) ∧ w'.cell? ⟨Y, 1, none⟩ = some (.int .i64 u.n) ∧ w'.cell? ⟨Y, 2, none⟩ = some (.string u.t) ∧ w'.cell? ⟨Y, 3, none⟩ = some (.slice an u.names.length cn) ∧ w'.cell? ⟨Y, 4, none⟩ = some (.slice ai u.items.length ci) ∧ w'.cell? ⟨Y, 5, none⟩ = some (.slice sz nf cz) ∧ w'.cell? ⟨A, 0, none⟩ = some (.int .i64 T) ∧ w'.cell? ⟨A, 1, none⟩ = some (.slice sb pubs.length cb) from fun w' h => (HR.out.carry h).rw.cells)
          obtain ⟨ao, hao⟩ : ∃ ao, ao = authOk T Q := ⟨_, rfl⟩
          obtain ⟨eo, heo⟩ : ∃ eo, eo = envOk u PF := ⟨_, rfl⟩
          obtain ⟨cv, hcv⟩ : ∃ cv : Nat, cv = countV .mac u PF T Q (enK pubs) := ⟨_, rfl⟩
          obtain ⟨gv, hgv⟩ : ∃ gv : Bool, gv = enoughV .mac u PF T Q (enK pubs) := ⟨_, rfl⟩
          have HAM := Lib.hid (show ∀ w' : World, Below wz.heap.size wz w' → Calls Tryz.prog 32 #[.agg #[.int .i64 T, .slice sb pubs.length cb]] w' (fun e w'' => e = .returned (.bool ao) ∧ Below w'.heap.size w' w'') from fun w' h => by
            have hc := authMay T Q sb cb w' (HQA.out w' h) (HAUZ.out w' h).sizes
            rw [HQL.out, ← hao] at hc
            exact hc)
          have HMX := Lib.hid (show ∀ w' : World, Below wz.heap.size wz w' → Calls Tryz.prog 33 #[.agg #[.int .u8 u.kind, .int .i64 u.n, .string u.t, .slice an u.names.length cn, .slice ai u.items.length ci, .slice sz nf cz]] w' (fun e w'' => e = .returned (.bool eo) ∧ Below w'.heap.size w' w'') from fun w' h => by
            have hc := signMay u PF an ai sz cn ci cz w' (HEVZ.out w' h)
            unfold envV at hc
            rw [← HNF.out, ← heo] at hc
            exact hc)
          have HH := Lib.hid (show ∀ w : World, Calls Tryz.prog 26 #[] w (fun e w' => ∃ x, e = .returned x ∧ VerIs w' x .mac ∧ Below w.heap.size w w') from fun w => by
            refine (judgeHMAC w).mono ?_
            rintro e w' ⟨rfl, rfl⟩
            exact ⟨_, rfl, ⟨_, rfl, heap_alloc_new w _⟩, (Below.refl _ _).alloc (Nat.le_refl _) _⟩)
          have HCN := Lib.hid (show ∀ w' : World, Below wz.heap.size wz w' → ∀ x, VerIs w' x .mac → Calls Tryz.prog 21 #[x, .agg #[.int .u8 u.kind, .int .i64 u.n, .string u.t, .slice an u.names.length cn, .slice ai u.items.length ci, .slice sz nf cz], .agg #[.int .i64 T, .slice sb pubs.length cb], .slice sk pubs.length ck] w' (fun e w'' => e = .returned (.int .i64 (cv : Int)) ∧ Below w'.heap.size w' w'') from fun w' h x hx => by
            have hc := judgeCount .mac x u PF an ai sz cn ci cz T Q sb cb (enK pubs) sk ck w' hx (HEVZ.out w' h) (HAUZ.out w' h) (HKRZ.out w' h) HNUM.out (HP.out w' (HZ0R.out w' h)) (HT.out w' (HZ0R.out w' h))
            unfold envV at hc
            rw [← HNF.out, HQL.out, enK_length, ← hcv] at hc
            exact hc)
          have HEN := Lib.hid (show ∀ w' : World, Below wz.heap.size wz w' → ∀ x, VerIs w' x .mac → Calls Tryz.prog 23 #[x, .agg #[.int .u8 u.kind, .int .i64 u.n, .string u.t, .slice an u.names.length cn, .slice ai u.items.length ci, .slice sz nf cz], .agg #[.int .i64 T, .slice sb pubs.length cb], .slice sk pubs.length ck] w' (fun e w'' => e = .returned (.bool gv) ∧ Below w'.heap.size w' w'') from fun w' h x hx => by
            have hc := judgeEnough .mac x u PF an ai sz cn ci cz T Q sb cb (enK pubs) sk ck w' hx (HEVZ.out w' h) (HAUZ.out w' h) (HKRZ.out w' h) HNUM.out (HP.out w' (HZ0R.out w' h)) (HT.out w' (HZ0R.out w' h))
            unfold envV at hc
            rw [← HNF.out, HQL.out, enK_length, ← hgv] at hc
            exact hc)
          have HAO := Lib.hid hao
          have HEO2 := Lib.hid heo
          have HBAD := Lib.hid (show (ao && eo) = false → cv = 0 ∧ gv = false from fun h => by
            have := enough_bad (v := .mac) (x := u) (l := PF) (t := T) (ids := Q) (keys := enK pubs) (fun h2 => by rw [← hao, ← heo] at h2; rw [h2.1, h2.2] at h; cases h)
            rw [hcv, hgv]; exact this)
          have HGOOD := Lib.hid (show (ao && eo) = true → cv = qn ∧ gv = decide (T ≤ (qn : Int)) from fun h => by
            rw [Bool.and_eq_true] at h
            have := enough_all (x := u) (pubs := pubs) (n := qn) (oth := oth) (t := T) HOKE.out hqn (by rw [← HQE.out, ← hao]; exact h.1) (by rw [← HQE.out, ← HPE.out, ← heo]; exact h.2)
            rw [← HQE.out, ← HPE.out] at this
            rw [hcv, hgv]; exact this)
          clear hao heo hcv hgv
          obtain ⟨q0, q1, q2, q3, q4, q5, q6, q7⟩ := HCZ.out wz (Below.refl _ _)
          go_upto_region 28 with fail
          go_cut [151] (fun s wx => ∃ c : Bool, s = .bool c ∧ c = !(ao && eo) ∧ Below wz.heap.size wz wx)
          case first =>
            go_wp2_with fail
            refine (HAM.out wz (Below.refl _ _)).mono ?_
            clear q0 q1 q2 q3 q4 q5 q6 q7
            rintro e w1 ⟨rfl, hb1⟩
            have HB1 := Lib.hid hb1
            clear hb1
            obtain ⟨q0, q1, q2, q3, q4, q5, q6, q7⟩ := HCZ.out w1 HB1.out
            cases ao
            · go_wp2_with fail
              go_meet
              exact ⟨true, rfl, rfl, HB1.out⟩
            · go_wp2_with fail
              refine (HMX.out w1 HB1.out).mono ?_
              clear q0 q1 q2 q3 q4 q5 q6 q7
              rintro e w2 ⟨rfl, hb2⟩
              have HB2 := Lib.hid (HB1.out.trans (hb2.mono HB1.out.size))
              clear hb2
              go_wp2_with fail
              go_meet
              exact ⟨!eo, rfl, by simp, HB2.out⟩
          case rest =>
            obtain ⟨c, rfl, hc, hbc⟩ := hcut
            have HBC := Lib.hid hbc
            clear q0 q1 q2 q3 q4 q5 q6 q7
            obtain ⟨wy, rfl⟩ : ∃ wy, wy = wc := ⟨wc, rfl⟩
            have HZY := Lib.hid (show ∀ w' : World, Below wy.heap.size wy w' → Below wz.heap.size wz w' from fun w' h => HBC.out.trans (h.mono HBC.out.size))
            replace HCN := Lib.hid (show ∀ w' : World, Below wy.heap.size wy w' → ∀ x, VerIs w' x .mac → Calls Tryz.prog 21 #[x, .agg #[.int .u8 u.kind, .int .i64 u.n, .string u.t, .slice an u.names.length cn, .slice ai u.items.length ci, .slice sz nf cz], .agg #[.int .i64 T, .slice sb pubs.length cb], .slice sk pubs.length ck] w' (fun e w'' => e = .returned (.int .i64 (cv : Int)) ∧ Below w'.heap.size w' w'') from fun w' h x hx => HCN.out w' (HZY.out w' h) x hx)
            replace HEN := Lib.hid (show ∀ w' : World, Below wy.heap.size wy w' → ∀ x, VerIs w' x .mac → Calls Tryz.prog 23 #[x, .agg #[.int .u8 u.kind, .int .i64 u.n, .string u.t, .slice an u.names.length cn, .slice ai u.items.length ci, .slice sz nf cz], .agg #[.int .i64 T, .slice sb pubs.length cb], .slice sk pubs.length ck] w' (fun e w'' => e = .returned (.bool gv) ∧ Below w'.heap.size w' w'') from fun w' h x hx => HEN.out w' (HZY.out w' h) x hx)
            have HCY := Lib.hid (fun (w' : World) (h : Below wy.heap.size wy w') => HCZ.out w' (HZY.out w' h))
            clear hbc HAM HMX
            cases c
            case true =>
              obtain ⟨rfl, rfl⟩ := HBAD.out (by cases h : (ao && eo) with | false => rfl | true => rw [h] at hc; cases hc)
              clear hc HGOOD
              go_upto_region 29 with fail
              obtain ⟨V, hV⟩ : ∃ V : List MP, V = [MP.ver, .con (.agg #[.int .u8 u.kind, .int .i64 u.n, .string u.t, .slice an u.names.length cn, .slice ai u.items.length ci, .slice sz nf cz]), .con (.agg #[.int .i64 T, .slice sb pubs.length cb]), .con (.slice sk pubs.length ck), .con (.int .i64 ((0 : Nat) : Int)), .con (.bool true), .con (.bool true), MP.ver, .con (.agg #[.int .u8 u.kind, .int .i64 u.n, .string u.t, .slice an u.names.length cn, .slice ai u.items.length ci, .slice sz nf cz]), .con (.agg #[.int .i64 T, .slice sb pubs.length cb]), .con (.slice sk pubs.length ck), .con (.bool false), .con (.bool true), .con (.bool true)] := ⟨_, rfl⟩
              have HV := Lib.hid hV
              clear hV
              refine wp_region_inv 14 (fun d a' w' => ∃ x152 x153 x154 x155 x156 x157 x158 x159 x160 x161 x162 x163 x164 x165, a' = ⟨#[Value.agg #[Value.int IntKind.u8 u.kind, Value.int IntKind.i64 u.n, Value.string u.t, Value.slice an u.names.length cn, Value.slice ai u.items.length ci], Value.slice pa pubs.length pc, Value.int IntKind.i64 (qn : Int), Value.int IntKind.i64 th, Value.slice oa oth.length oc, Value.pointer (some { block := w.heap.size, off := 0 }), undef, undef, undef, undef, u10, Value.pointer (some { block := Y, off := 0 }), Value.string X, Value.int IntKind.i64 0, Value.pointer (some { block := A, off := 0 }), Value.slice sk pubs.length ck, Value.int IntKind.i64 (pubs.length : Int), u17, u18, u19, Value.int IntKind.i64 (j : Int), u21, u22, u23, u24, u25, u26, u27, u28, u29, u30, u31, u32, u33, u34, u35, u36, u37, u38, u39, u40, u41, u42, u43, u44, u45, u46, u47, u48, u49, u50, u51, u52, u53, u54, u55, u56, u57, u58, u59, u60, u61, u62, u63, u64, u65, u66, u67, u68, u69, u70, u71, u72, u73, u74, u75, u76, u77, u78, u79, u80, u81, u82, u83, u84, u85, u86, u87, u88, u89, u90, u91, u92, u93, u94, u95, u96, u97, u98, u99, u100, u101, u102, u103, u104, u105, u106, u107, u108, u109, u110, u111, u112, u113, u114, u115, u116, u117, u118, u119, u120, u121, u122, u123, u124, u125, u126, u127, u128, u129, u130, u131, u132, u133, u134, u135, u136, u137, u138, u139, u140, u141, u142, u143, u144, u145, u146, u147, u148, u149, u150, Value.bool true, x152, x153, x154, x155, x156, x157, x158, x159, x160, x161, x162, x163, x164, x165, u166, u167, u168, u169, u170, u171, u172, u173, u174, u175, u176, u177, u178, u179, u180, u181, u182, u183, u184], []⟩ ∧ RegI wy V d w' [x152, x153, x154, x155, x156, x157, x158, x159, x160, x161, x162, x163, x164, x165]) (by kernel_rfl) (by kernel_rfl) ?first ?step ?last
              case first => exact ⟨_, _, _, _, _, _, _, _, _, _, _, _, _, _, rfl, RegI.first _ _ _ (by rw [HV.out]; rfl)⟩
              case step =>
                rintro d a' w' ⟨x152, x153, x154, x155, x156, x157, x158, x159, x160, x161, x162, x163, x164, x165, rfl, h⟩ q hq hn hw
                rcases q with _ | _ | _ | _ | _ | _ | _ | _ | _ | _ | _ | _ | _ | _ | q
                · obtain ⟨q0, q1, q2, q3, q4, q5, q6, q7⟩ := HCY.out w' h.1
                  refine wpOp_step rfl fun K hK => ?_
                  go_simp
                  refine (HH.out w').mono ?_
                  rintro e w2 ⟨y, rfl, hy, hb2⟩
                  exact hK _ _ ⟨_, x153, x154, x155, x156, x157, x158, x159, x160, x161, x162, x163, x164, x165, rfl, h.did hb2 0 _ (MP.ver) (by rw [HV.out]; rfl) hy⟩
                · obtain ⟨q0, q1, q2, q3, q4, q5, q6, q7⟩ := HCY.out w' h.1
                  refine wpOp_step rfl fun K hK => ?_
                  go_simp
                  exact hK _ _ ⟨x152, _, x154, x155, x156, x157, x158, x159, x160, x161, x162, x163, x164, x165, rfl, h.same 1 _ (.con (.agg #[.int .u8 u.kind, .int .i64 u.n, .string u.t, .slice an u.names.length cn, .slice ai u.items.length ci, .slice sz nf cz])) (by rw [HV.out]; rfl) rfl⟩
                · obtain ⟨q0, q1, q2, q3, q4, q5, q6, q7⟩ := HCY.out w' h.1
                  refine wpOp_step rfl fun K hK => ?_
                  go_simp
                  exact hK _ _ ⟨x152, x153, _, x155, x156, x157, x158, x159, x160, x161, x162, x163, x164, x165, rfl, h.same 2 _ (.con (.agg #[.int .i64 T, .slice sb pubs.length cb])) (by rw [HV.out]; rfl) rfl⟩
                · refine wpOp_step rfl fun K hK => ?_
                  go_simp
                  exact hK _ _ ⟨x152, x153, x154, _, x156, x157, x158, x159, x160, x161, x162, x163, x164, x165, rfl, h.same 3 _ (.con (.slice sk pubs.length ck)) (by rw [HV.out]; rfl) rfl⟩
                · have hs152 := h.get 0 (hw _ rfl ⟨0, .data⟩ (by simp) rfl) (MP.ver) (by rw [HV.out]; rfl) _ rfl
                  obtain rfl : x153 = .agg #[.int .u8 u.kind, .int .i64 u.n, .string u.t, .slice an u.names.length cn, .slice ai u.items.length ci, .slice sz nf cz] := h.get 1 (hw _ rfl ⟨1, .data⟩ (by simp) rfl) (.con (.agg #[.int .u8 u.kind, .int .i64 u.n, .string u.t, .slice an u.names.length cn, .slice ai u.items.length ci, .slice sz nf cz])) (by rw [HV.out]; rfl) _ rfl
                  obtain rfl : x154 = .agg #[.int .i64 T, .slice sb pubs.length cb] := h.get 2 (hw _ rfl ⟨2, .data⟩ (by simp) rfl) (.con (.agg #[.int .i64 T, .slice sb pubs.length cb])) (by rw [HV.out]; rfl) _ rfl
                  obtain rfl : x155 = .slice sk pubs.length ck := h.get 3 (hw _ rfl ⟨3, .data⟩ (by simp) rfl) (.con (.slice sk pubs.length ck)) (by rw [HV.out]; rfl) _ rfl
                  obtain ⟨q0, q1, q2, q3, q4, q5, q6, q7⟩ := HCY.out w' h.1
                  refine wpOp_step rfl fun K hK => ?_
                  go_simp
                  refine (HCN.out w' h.1 _ hs152).mono ?_
                  rintro e w2 ⟨rfl, hb2⟩
                  exact hK _ _ ⟨x152, _, _, _, _, x157, x158, x159, x160, x161, x162, x163, x164, x165, rfl, h.did hb2 4 _ (.con (.int .i64 ((0 : Nat) : Int))) (by rw [HV.out]; rfl) rfl⟩
                · obtain rfl : x156 = .int .i64 ((0 : Nat) : Int) := h.get 4 (hw _ rfl ⟨4, .data⟩ (by simp) rfl) (.con (.int .i64 ((0 : Nat) : Int))) (by rw [HV.out]; rfl) _ rfl
                  refine wpOp_step rfl fun K hK => ?_
                  go_simp
                  exact hK _ _ ⟨x152, x153, x154, x155, _, _, x158, x159, x160, x161, x162, x163, x164, x165, rfl, h.same 5 _ (.con (.bool true)) (by rw [HV.out]; rfl) rfl⟩
                · obtain rfl : x157 = .bool true := h.get 5 (hw _ rfl ⟨5, .data⟩ (by simp) rfl) (.con (.bool true)) (by rw [HV.out]; rfl) _ rfl
                  refine wpOp_step rfl fun K hK => ?_
                  go_simp
                  exact hK _ _ ⟨x152, x153, x154, x155, x156, _, _, x159, x160, x161, x162, x163, x164, x165, rfl, h.same 6 _ (.con (.bool true)) (by rw [HV.out]; rfl) rfl⟩
                · obtain rfl : x158 = .bool true := h.get 6 (hw _ rfl ⟨6, .chain⟩ (by simp) rfl) (.con (.bool true)) (by rw [HV.out]; rfl) _ rfl
                  obtain ⟨q0, q1, q2, q3, q4, q5, q6, q7⟩ := HCY.out w' h.1
                  refine wpOp_step rfl fun K hK => ?_
                  go_simp
                  refine (HH.out w').mono ?_
                  rintro e w2 ⟨y, rfl, hy, hb2⟩
                  exact hK _ _ ⟨x152, x153, x154, x155, x156, x157, _, _, x160, x161, x162, x163, x164, x165, rfl, h.did hb2 7 _ (MP.ver) (by rw [HV.out]; rfl) hy⟩
                · obtain rfl : x158 = .bool true := h.get 6 (hw _ rfl ⟨6, .guard⟩ (by simp) rfl) (.con (.bool true)) (by rw [HV.out]; rfl) _ rfl
                  obtain ⟨q0, q1, q2, q3, q4, q5, q6, q7⟩ := HCY.out w' h.1
                  refine wpOp_step rfl fun K hK => ?_
                  go_simp
                  exact hK _ _ ⟨x152, x153, x154, x155, x156, x157, _, x159, _, x161, x162, x163, x164, x165, rfl, h.same 8 _ (.con (.agg #[.int .u8 u.kind, .int .i64 u.n, .string u.t, .slice an u.names.length cn, .slice ai u.items.length ci, .slice sz nf cz])) (by rw [HV.out]; rfl) rfl⟩
                · obtain rfl : x158 = .bool true := h.get 6 (hw _ rfl ⟨6, .guard⟩ (by simp) rfl) (.con (.bool true)) (by rw [HV.out]; rfl) _ rfl
                  obtain ⟨q0, q1, q2, q3, q4, q5, q6, q7⟩ := HCY.out w' h.1
                  refine wpOp_step rfl fun K hK => ?_
                  go_simp
                  exact hK _ _ ⟨x152, x153, x154, x155, x156, x157, _, x159, x160, _, x162, x163, x164, x165, rfl, h.same 9 _ (.con (.agg #[.int .i64 T, .slice sb pubs.length cb])) (by rw [HV.out]; rfl) rfl⟩
                · obtain rfl : x158 = .bool true := h.get 6 (hw _ rfl ⟨6, .guard⟩ (by simp) rfl) (.con (.bool true)) (by rw [HV.out]; rfl) _ rfl
                  refine wpOp_step rfl fun K hK => ?_
                  go_simp
                  exact hK _ _ ⟨x152, x153, x154, x155, x156, x157, _, x159, x160, x161, _, x163, x164, x165, rfl, h.same 10 _ (.con (.slice sk pubs.length ck)) (by rw [HV.out]; rfl) rfl⟩
                · obtain rfl : x158 = .bool true := h.get 6 (hw _ rfl ⟨6, .guard⟩ (by simp) rfl) (.con (.bool true)) (by rw [HV.out]; rfl) _ rfl
                  have hs159 := h.get 7 (hw _ rfl ⟨7, .data⟩ (by simp) rfl) (MP.ver) (by rw [HV.out]; rfl) _ rfl
                  obtain rfl : x160 = .agg #[.int .u8 u.kind, .int .i64 u.n, .string u.t, .slice an u.names.length cn, .slice ai u.items.length ci, .slice sz nf cz] := h.get 8 (hw _ rfl ⟨8, .data⟩ (by simp) rfl) (.con (.agg #[.int .u8 u.kind, .int .i64 u.n, .string u.t, .slice an u.names.length cn, .slice ai u.items.length ci, .slice sz nf cz])) (by rw [HV.out]; rfl) _ rfl
                  obtain rfl : x161 = .agg #[.int .i64 T, .slice sb pubs.length cb] := h.get 9 (hw _ rfl ⟨9, .data⟩ (by simp) rfl) (.con (.agg #[.int .i64 T, .slice sb pubs.length cb])) (by rw [HV.out]; rfl) _ rfl
                  obtain rfl : x162 = .slice sk pubs.length ck := h.get 10 (hw _ rfl ⟨10, .data⟩ (by simp) rfl) (.con (.slice sk pubs.length ck)) (by rw [HV.out]; rfl) _ rfl
                  obtain ⟨q0, q1, q2, q3, q4, q5, q6, q7⟩ := HCY.out w' h.1
                  refine wpOp_step rfl fun K hK => ?_
                  go_simp
                  refine (HEN.out w' h.1 _ hs159).mono ?_
                  rintro e w2 ⟨rfl, hb2⟩
                  exact hK _ _ ⟨x152, x153, x154, x155, x156, x157, _, x159, _, _, _, _, x164, x165, rfl, h.did hb2 11 _ (.con (.bool false)) (by rw [HV.out]; rfl) rfl⟩
                · obtain rfl : x158 = .bool true := h.get 6 (hw _ rfl ⟨6, .guard⟩ (by simp) rfl) (.con (.bool true)) (by rw [HV.out]; rfl) _ rfl
                  obtain rfl : x163 = .bool false := h.get 11 (hw _ rfl ⟨11, .data⟩ (by simp) rfl) (.con (.bool false)) (by rw [HV.out]; rfl) _ rfl
                  refine wpOp_step rfl fun K hK => ?_
                  go_simp
                  exact hK _ _ ⟨x152, x153, x154, x155, x156, x157, _, x159, x160, x161, x162, _, _, x165, rfl, h.same 12 _ (.con (.bool true)) (by rw [HV.out]; rfl) rfl⟩
                · obtain rfl : x158 = .bool true := h.get 6 (hw _ rfl ⟨6, .data⟩ (by simp) rfl) (.con (.bool true)) (by rw [HV.out]; rfl) _ rfl
                  obtain rfl : x164 = .bool true := h.get 12 (hw _ rfl ⟨12, .data⟩ (by simp) rfl) (.con (.bool true)) (by rw [HV.out]; rfl) _ rfl
                  refine wpOp_step rfl fun K hK => ?_
                  go_simp
                  exact hK _ _ ⟨x152, x153, x154, x155, x156, x157, _, x159, x160, x161, x162, x163, _, _, rfl, h.same 13 _ (.con (.bool true)) (by rw [HV.out]; rfl) rfl⟩
                · omega
              case last =>
                rintro d a' w' hall ⟨x152, x153, x154, x155, x156, x157, x158, x159, x160, x161, x162, x163, x164, x165, rfl, h⟩
                have hle := h.1
                obtain rfl : x165 = .bool true := h.get 13 (hall _ (by omega)) (.con (.bool true)) (by rw [HV.out]; rfl) _ rfl
                have HLE := Lib.hid hle
                clear h hall hle HV
                have HBL := Lib.hid (HZ0R.out _ (HZY.out _ HLE.out))
                go_wp2
                go_ret
                exact ⟨by simp, HBT.out _ HBL.out⟩
            case false =>
              obtain ⟨rfl, hg⟩ := HGOOD.out (by cases h : (ao && eo) with | true => rfl | false => rw [h] at hc; cases hc)
              clear hc HBAD
              by_cases hT : T ≤ (cv : Int)
              · obtain rfl : gv = true := by rw [hg, decide_eq_true hT]
                clear hg
                go_upto_region 30 with fail
                obtain ⟨V, hV⟩ : ∃ V : List MP, V = [MP.ver, .con (.agg #[.int .u8 u.kind, .int .i64 u.n, .string u.t, .slice an u.names.length cn, .slice ai u.items.length ci, .slice sz nf cz]), .con (.agg #[.int .i64 T, .slice sb pubs.length cb]), .con (.slice sk pubs.length ck), .con (.int .i64 (cv : Int)), .con (.int .i64 (cv : Int)), .con (.bool true), .con (.bool true), MP.ver, .con (.agg #[.int .u8 u.kind, .int .i64 u.n, .string u.t, .slice an u.names.length cn, .slice ai u.items.length ci, .slice sz nf cz]), .con (.agg #[.int .i64 T, .slice sb pubs.length cb]), .con (.slice sk pubs.length ck), .con (.bool true), .con (.int .i64 (cv : Int)), .con (.pointer (some ⟨A, 0, none⟩)), .con (.int .i64 T), .con (.bool true), .con (.bool true), .con (.bool true)] := ⟨_, rfl⟩
                have HV := Lib.hid hV
                clear hV
                refine wp_region_inv 19 (fun d a' w' => ∃ x166 x167 x168 x169 x170 x171 x172 x173 x174 x175 x176 x177 x178 x179 x180 x181 x182 x183 x184, a' = ⟨#[Value.agg #[Value.int IntKind.u8 u.kind, Value.int IntKind.i64 u.n, Value.string u.t, Value.slice an u.names.length cn, Value.slice ai u.items.length ci], Value.slice pa pubs.length pc, Value.int IntKind.i64 (cv : Int), Value.int IntKind.i64 th, Value.slice oa oth.length oc, Value.pointer (some { block := w.heap.size, off := 0 }), undef, undef, undef, undef, u10, Value.pointer (some { block := Y, off := 0 }), Value.string X, Value.int IntKind.i64 0, Value.pointer (some { block := A, off := 0 }), Value.slice sk pubs.length ck, Value.int IntKind.i64 (pubs.length : Int), u17, u18, u19, Value.int IntKind.i64 (j : Int), u21, u22, u23, u24, u25, u26, u27, u28, u29, u30, u31, u32, u33, u34, u35, u36, u37, u38, u39, u40, u41, u42, u43, u44, u45, u46, u47, u48, u49, u50, u51, u52, u53, u54, u55, u56, u57, u58, u59, u60, u61, u62, u63, u64, u65, u66, u67, u68, u69, u70, u71, u72, u73, u74, u75, u76, u77, u78, u79, u80, u81, u82, u83, u84, u85, u86, u87, u88, u89, u90, u91, u92, u93, u94, u95, u96, u97, u98, u99, u100, u101, u102, u103, u104, u105, u106, u107, u108, u109, u110, u111, u112, u113, u114, u115, u116, u117, u118, u119, u120, u121, u122, u123, u124, u125, u126, u127, u128, u129, u130, u131, u132, u133, u134, u135, u136, u137, u138, u139, u140, u141, u142, u143, u144, u145, u146, u147, u148, u149, u150, Value.bool false, u152, u153, u154, u155, u156, u157, u158, u159, u160, u161, u162, u163, u164, u165, x166, x167, x168, x169, x170, x171, x172, x173, x174, x175, x176, x177, x178, x179, x180, x181, x182, x183, x184], []⟩ ∧ RegI wy V d w' [x166, x167, x168, x169, x170, x171, x172, x173, x174, x175, x176, x177, x178, x179, x180, x181, x182, x183, x184]) (by kernel_rfl) (by kernel_rfl) ?first ?step ?last
                case first => exact ⟨_, _, _, _, _, _, _, _, _, _, _, _, _, _, _, _, _, _, _, rfl, RegI.first _ _ _ (by rw [HV.out]; rfl)⟩
                case step =>
                  rintro d a' w' ⟨x166, x167, x168, x169, x170, x171, x172, x173, x174, x175, x176, x177, x178, x179, x180, x181, x182, x183, x184, rfl, h⟩ q hq hn hw
                  rcases q with _ | _ | _ | _ | _ | _ | _ | _ | _ | _ | _ | _ | _ | _ | _ | _ | _ | _ | _ | q
                  · obtain ⟨q0, q1, q2, q3, q4, q5, q6, q7⟩ := HCY.out w' h.1
                    refine wpOp_step rfl fun K hK => ?_
                    go_simp
                    refine (HH.out w').mono ?_
                    rintro e w2 ⟨y, rfl, hy, hb2⟩
                    exact hK _ _ ⟨_, x167, x168, x169, x170, x171, x172, x173, x174, x175, x176, x177, x178, x179, x180, x181, x182, x183, x184, rfl, h.did hb2 0 _ (MP.ver) (by rw [HV.out]; rfl) hy⟩
                  · obtain ⟨q0, q1, q2, q3, q4, q5, q6, q7⟩ := HCY.out w' h.1
                    refine wpOp_step rfl fun K hK => ?_
                    go_simp
                    exact hK _ _ ⟨x166, _, x168, x169, x170, x171, x172, x173, x174, x175, x176, x177, x178, x179, x180, x181, x182, x183, x184, rfl, h.same 1 _ (.con (.agg #[.int .u8 u.kind, .int .i64 u.n, .string u.t, .slice an u.names.length cn, .slice ai u.items.length ci, .slice sz nf cz])) (by rw [HV.out]; rfl) rfl⟩
                  · obtain ⟨q0, q1, q2, q3, q4, q5, q6, q7⟩ := HCY.out w' h.1
                    refine wpOp_step rfl fun K hK => ?_
                    go_simp
                    exact hK _ _ ⟨x166, x167, _, x169, x170, x171, x172, x173, x174, x175, x176, x177, x178, x179, x180, x181, x182, x183, x184, rfl, h.same 2 _ (.con (.agg #[.int .i64 T, .slice sb pubs.length cb])) (by rw [HV.out]; rfl) rfl⟩
                  · refine wpOp_step rfl fun K hK => ?_
                    go_simp
                    exact hK _ _ ⟨x166, x167, x168, _, x170, x171, x172, x173, x174, x175, x176, x177, x178, x179, x180, x181, x182, x183, x184, rfl, h.same 3 _ (.con (.slice sk pubs.length ck)) (by rw [HV.out]; rfl) rfl⟩
                  · have hs166 := h.get 0 (hw _ rfl ⟨0, .data⟩ (by simp) rfl) (MP.ver) (by rw [HV.out]; rfl) _ rfl
                    obtain rfl : x167 = .agg #[.int .u8 u.kind, .int .i64 u.n, .string u.t, .slice an u.names.length cn, .slice ai u.items.length ci, .slice sz nf cz] := h.get 1 (hw _ rfl ⟨1, .data⟩ (by simp) rfl) (.con (.agg #[.int .u8 u.kind, .int .i64 u.n, .string u.t, .slice an u.names.length cn, .slice ai u.items.length ci, .slice sz nf cz])) (by rw [HV.out]; rfl) _ rfl
                    obtain rfl : x168 = .agg #[.int .i64 T, .slice sb pubs.length cb] := h.get 2 (hw _ rfl ⟨2, .data⟩ (by simp) rfl) (.con (.agg #[.int .i64 T, .slice sb pubs.length cb])) (by rw [HV.out]; rfl) _ rfl
                    obtain rfl : x169 = .slice sk pubs.length ck := h.get 3 (hw _ rfl ⟨3, .data⟩ (by simp) rfl) (.con (.slice sk pubs.length ck)) (by rw [HV.out]; rfl) _ rfl
                    obtain ⟨q0, q1, q2, q3, q4, q5, q6, q7⟩ := HCY.out w' h.1
                    refine wpOp_step rfl fun K hK => ?_
                    go_simp
                    refine (HCN.out w' h.1 _ hs166).mono ?_
                    rintro e w2 ⟨rfl, hb2⟩
                    exact hK _ _ ⟨x166, _, _, _, _, x171, x172, x173, x174, x175, x176, x177, x178, x179, x180, x181, x182, x183, x184, rfl, h.did hb2 4 _ (.con (.int .i64 (cv : Int))) (by rw [HV.out]; rfl) rfl⟩
                  · refine wpOp_step rfl fun K hK => ?_
                    go_simp
                    exact hK _ _ ⟨x166, x167, x168, x169, x170, _, x172, x173, x174, x175, x176, x177, x178, x179, x180, x181, x182, x183, x184, rfl, h.same 5 _ (.con (.int .i64 (cv : Int))) (by rw [HV.out]; rfl) rfl⟩
                  · obtain rfl : x170 = .int .i64 (cv : Int) := h.get 4 (hw _ rfl ⟨4, .data⟩ (by simp) rfl) (.con (.int .i64 (cv : Int))) (by rw [HV.out]; rfl) _ rfl
                    obtain rfl : x171 = .int .i64 (cv : Int) := h.get 5 (hw _ rfl ⟨5, .data⟩ (by simp) rfl) (.con (.int .i64 (cv : Int))) (by rw [HV.out]; rfl) _ rfl
                    refine wpOp_step rfl fun K hK => ?_
                    go_simp
                    exact hK _ _ ⟨x166, x167, x168, x169, _, _, _, x173, x174, x175, x176, x177, x178, x179, x180, x181, x182, x183, x184, rfl, h.same 6 _ (.con (.bool true)) (by rw [HV.out]; rfl) rfl⟩
                  · obtain rfl : x172 = .bool true := h.get 6 (hw _ rfl ⟨6, .data⟩ (by simp) rfl) (.con (.bool true)) (by rw [HV.out]; rfl) _ rfl
                    refine wpOp_step rfl fun K hK => ?_
                    go_simp
                    exact hK _ _ ⟨x166, x167, x168, x169, x170, x171, _, _, x174, x175, x176, x177, x178, x179, x180, x181, x182, x183, x184, rfl, h.same 7 _ (.con (.bool true)) (by rw [HV.out]; rfl) rfl⟩
                  · obtain rfl : x173 = .bool true := h.get 7 (hw _ rfl ⟨7, .chain⟩ (by simp) rfl) (.con (.bool true)) (by rw [HV.out]; rfl) _ rfl
                    obtain ⟨q0, q1, q2, q3, q4, q5, q6, q7⟩ := HCY.out w' h.1
                    refine wpOp_step rfl fun K hK => ?_
                    go_simp
                    refine (HH.out w').mono ?_
                    rintro e w2 ⟨y, rfl, hy, hb2⟩
                    exact hK _ _ ⟨x166, x167, x168, x169, x170, x171, x172, _, _, x175, x176, x177, x178, x179, x180, x181, x182, x183, x184, rfl, h.did hb2 8 _ (MP.ver) (by rw [HV.out]; rfl) hy⟩
                  · obtain rfl : x173 = .bool true := h.get 7 (hw _ rfl ⟨7, .guard⟩ (by simp) rfl) (.con (.bool true)) (by rw [HV.out]; rfl) _ rfl
                    obtain ⟨q0, q1, q2, q3, q4, q5, q6, q7⟩ := HCY.out w' h.1
                    refine wpOp_step rfl fun K hK => ?_
                    go_simp
                    exact hK _ _ ⟨x166, x167, x168, x169, x170, x171, x172, _, x174, _, x176, x177, x178, x179, x180, x181, x182, x183, x184, rfl, h.same 9 _ (.con (.agg #[.int .u8 u.kind, .int .i64 u.n, .string u.t, .slice an u.names.length cn, .slice ai u.items.length ci, .slice sz nf cz])) (by rw [HV.out]; rfl) rfl⟩
                  · obtain rfl : x173 = .bool true := h.get 7 (hw _ rfl ⟨7, .guard⟩ (by simp) rfl) (.con (.bool true)) (by rw [HV.out]; rfl) _ rfl
                    obtain ⟨q0, q1, q2, q3, q4, q5, q6, q7⟩ := HCY.out w' h.1
                    refine wpOp_step rfl fun K hK => ?_
                    go_simp
                    exact hK _ _ ⟨x166, x167, x168, x169, x170, x171, x172, _, x174, x175, _, x177, x178, x179, x180, x181, x182, x183, x184, rfl, h.same 10 _ (.con (.agg #[.int .i64 T, .slice sb pubs.length cb])) (by rw [HV.out]; rfl) rfl⟩
                  · obtain rfl : x173 = .bool true := h.get 7 (hw _ rfl ⟨7, .guard⟩ (by simp) rfl) (.con (.bool true)) (by rw [HV.out]; rfl) _ rfl
                    refine wpOp_step rfl fun K hK => ?_
                    go_simp
                    exact hK _ _ ⟨x166, x167, x168, x169, x170, x171, x172, _, x174, x175, x176, _, x178, x179, x180, x181, x182, x183, x184, rfl, h.same 11 _ (.con (.slice sk pubs.length ck)) (by rw [HV.out]; rfl) rfl⟩
                  · obtain rfl : x173 = .bool true := h.get 7 (hw _ rfl ⟨7, .guard⟩ (by simp) rfl) (.con (.bool true)) (by rw [HV.out]; rfl) _ rfl
                    have hs174 := h.get 8 (hw _ rfl ⟨8, .data⟩ (by simp) rfl) (MP.ver) (by rw [HV.out]; rfl) _ rfl
                    obtain rfl : x175 = .agg #[.int .u8 u.kind, .int .i64 u.n, .string u.t, .slice an u.names.length cn, .slice ai u.items.length ci, .slice sz nf cz] := h.get 9 (hw _ rfl ⟨9, .data⟩ (by simp) rfl) (.con (.agg #[.int .u8 u.kind, .int .i64 u.n, .string u.t, .slice an u.names.length cn, .slice ai u.items.length ci, .slice sz nf cz])) (by rw [HV.out]; rfl) _ rfl
                    obtain rfl : x176 = .agg #[.int .i64 T, .slice sb pubs.length cb] := h.get 10 (hw _ rfl ⟨10, .data⟩ (by simp) rfl) (.con (.agg #[.int .i64 T, .slice sb pubs.length cb])) (by rw [HV.out]; rfl) _ rfl
                    obtain rfl : x177 = .slice sk pubs.length ck := h.get 11 (hw _ rfl ⟨11, .data⟩ (by simp) rfl) (.con (.slice sk pubs.length ck)) (by rw [HV.out]; rfl) _ rfl
                    obtain ⟨q0, q1, q2, q3, q4, q5, q6, q7⟩ := HCY.out w' h.1
                    refine wpOp_step rfl fun K hK => ?_
                    go_simp
                    refine (HEN.out w' h.1 _ hs174).mono ?_
                    rintro e w2 ⟨rfl, hb2⟩
                    exact hK _ _ ⟨x166, x167, x168, x169, x170, x171, x172, _, x174, _, _, _, _, x179, x180, x181, x182, x183, x184, rfl, h.did hb2 12 _ (.con (.bool true)) (by rw [HV.out]; rfl) rfl⟩
                  · obtain rfl : x173 = .bool true := h.get 7 (hw _ rfl ⟨7, .guard⟩ (by simp) rfl) (.con (.bool true)) (by rw [HV.out]; rfl) _ rfl
                    refine wpOp_step rfl fun K hK => ?_
                    go_simp
                    exact hK _ _ ⟨x166, x167, x168, x169, x170, x171, x172, _, x174, x175, x176, x177, x178, _, x180, x181, x182, x183, x184, rfl, h.same 13 _ (.con (.int .i64 (cv : Int))) (by rw [HV.out]; rfl) rfl⟩
                  · obtain rfl : x173 = .bool true := h.get 7 (hw _ rfl ⟨7, .guard⟩ (by simp) rfl) (.con (.bool true)) (by rw [HV.out]; rfl) _ rfl
                    refine wpOp_step rfl fun K hK => ?_
                    go_simp
                    exact hK _ _ ⟨x166, x167, x168, x169, x170, x171, x172, _, x174, x175, x176, x177, x178, x179, _, x181, x182, x183, x184, rfl, h.same 14 _ (.con (.pointer (some ⟨A, 0, none⟩))) (by rw [HV.out]; rfl) rfl⟩
                  · obtain rfl : x173 = .bool true := h.get 7 (hw _ rfl ⟨7, .guard⟩ (by simp) rfl) (.con (.bool true)) (by rw [HV.out]; rfl) _ rfl
                    obtain rfl : x180 = .pointer (some ⟨A, 0, none⟩) := h.get 14 (hw _ rfl ⟨14, .data⟩ (by simp) rfl) (.con (.pointer (some ⟨A, 0, none⟩))) (by rw [HV.out]; rfl) _ rfl
                    obtain ⟨q0, q1, q2, q3, q4, q5, q6, q7⟩ := HCY.out w' h.1
                    refine wpOp_step rfl fun K hK => ?_
                    go_simp
                    exact hK _ _ ⟨x166, x167, x168, x169, x170, x171, x172, _, x174, x175, x176, x177, x178, x179, _, _, x182, x183, x184, rfl, h.same 15 _ (.con (.int .i64 T)) (by rw [HV.out]; rfl) rfl⟩
                  · obtain rfl : x173 = .bool true := h.get 7 (hw _ rfl ⟨7, .guard⟩ (by simp) rfl) (.con (.bool true)) (by rw [HV.out]; rfl) _ rfl
                    obtain rfl : x179 = .int .i64 (cv : Int) := h.get 13 (hw _ rfl ⟨13, .data⟩ (by simp) rfl) (.con (.int .i64 (cv : Int))) (by rw [HV.out]; rfl) _ rfl
                    obtain rfl : x181 = .int .i64 T := h.get 15 (hw _ rfl ⟨15, .data⟩ (by simp) rfl) (.con (.int .i64 T)) (by rw [HV.out]; rfl) _ rfl
                    refine wpOp_step rfl fun K hK => ?_
                    go_simp
                    exact hK _ _ ⟨x166, x167, x168, x169, x170, x171, x172, _, x174, x175, x176, x177, x178, _, x180, _, _, x183, x184, rfl, h.same 16 _ (.con (.bool true)) (by rw [HV.out]; rfl) rfl⟩
                  · obtain rfl : x173 = .bool true := h.get 7 (hw _ rfl ⟨7, .guard⟩ (by simp) rfl) (.con (.bool true)) (by rw [HV.out]; rfl) _ rfl
                    obtain rfl : x178 = .bool true := h.get 12 (hw _ rfl ⟨12, .data⟩ (by simp) rfl) (.con (.bool true)) (by rw [HV.out]; rfl) _ rfl
                    obtain rfl : x182 = .bool true := h.get 16 (hw _ rfl ⟨16, .data⟩ (by simp) rfl) (.con (.bool true)) (by rw [HV.out]; rfl) _ rfl
                    refine wpOp_step rfl fun K hK => ?_
                    go_simp
                    exact hK _ _ ⟨x166, x167, x168, x169, x170, x171, x172, _, x174, x175, x176, x177, _, x179, x180, x181, _, _, x184, rfl, h.same 17 _ (.con (.bool true)) (by rw [HV.out]; rfl) rfl⟩
                  · obtain rfl : x173 = .bool true := h.get 7 (hw _ rfl ⟨7, .data⟩ (by simp) rfl) (.con (.bool true)) (by rw [HV.out]; rfl) _ rfl
                    obtain rfl : x183 = .bool true := h.get 17 (hw _ rfl ⟨17, .data⟩ (by simp) rfl) (.con (.bool true)) (by rw [HV.out]; rfl) _ rfl
                    refine wpOp_step rfl fun K hK => ?_
                    go_simp
                    exact hK _ _ ⟨x166, x167, x168, x169, x170, x171, x172, _, x174, x175, x176, x177, x178, x179, x180, x181, x182, _, _, rfl, h.same 18 _ (.con (.bool true)) (by rw [HV.out]; rfl) rfl⟩
                  · omega
                case last =>
                  rintro d a' w' hall ⟨x166, x167, x168, x169, x170, x171, x172, x173, x174, x175, x176, x177, x178, x179, x180, x181, x182, x183, x184, rfl, h⟩
                  have hle := h.1
                  obtain rfl : x184 = .bool true := h.get 18 (hall _ (by omega)) (.con (.bool true)) (by rw [HV.out]; rfl) _ rfl
                  have HLE := Lib.hid hle
                  clear h hall hle HV
                  have HBL := Lib.hid (HZ0R.out _ (HZY.out _ HLE.out))
                  go_wp2
                  go_ret
                  exact ⟨by simp, HBT.out _ HBL.out⟩
              · obtain rfl : gv = false := by rw [hg, decide_eq_false hT]
                clear hg
                go_upto_region 30 with fail
                obtain ⟨V, hV⟩ : ∃ V : List MP, V = [MP.ver, .con (.agg #[.int .u8 u.kind, .int .i64 u.n, .string u.t, .slice an u.names.length cn, .slice ai u.items.length ci, .slice sz nf cz]), .con (.agg #[.int .i64 T, .slice sb pubs.length cb]), .con (.slice sk pubs.length ck), .con (.int .i64 (cv : Int)), .con (.int .i64 (cv : Int)), .con (.bool true), .con (.bool true), MP.ver, .con (.agg #[.int .u8 u.kind, .int .i64 u.n, .string u.t, .slice an u.names.length cn, .slice ai u.items.length ci, .slice sz nf cz]), .con (.agg #[.int .i64 T, .slice sb pubs.length cb]), .con (.slice sk pubs.length ck), .con (.bool false), .con (.int .i64 (cv : Int)), .con (.pointer (some ⟨A, 0, none⟩)), .con (.int .i64 T), .con (.bool false), .con (.bool true), .con (.bool true)] := ⟨_, rfl⟩
                have HV := Lib.hid hV
                clear hV
                refine wp_region_inv 19 (fun d a' w' => ∃ x166 x167 x168 x169 x170 x171 x172 x173 x174 x175 x176 x177 x178 x179 x180 x181 x182 x183 x184, a' = ⟨#[Value.agg #[Value.int IntKind.u8 u.kind, Value.int IntKind.i64 u.n, Value.string u.t, Value.slice an u.names.length cn, Value.slice ai u.items.length ci], Value.slice pa pubs.length pc, Value.int IntKind.i64 (cv : Int), Value.int IntKind.i64 th, Value.slice oa oth.length oc, Value.pointer (some { block := w.heap.size, off := 0 }), undef, undef, undef, undef, u10, Value.pointer (some { block := Y, off := 0 }), Value.string X, Value.int IntKind.i64 0, Value.pointer (some { block := A, off := 0 }), Value.slice sk pubs.length ck, Value.int IntKind.i64 (pubs.length : Int), u17, u18, u19, Value.int IntKind.i64 (j : Int), u21, u22, u23, u24, u25, u26, u27, u28, u29, u30, u31, u32, u33, u34, u35, u36, u37, u38, u39, u40, u41, u42, u43, u44, u45, u46, u47, u48, u49, u50, u51, u52, u53, u54, u55, u56, u57, u58, u59, u60, u61, u62, u63, u64, u65, u66, u67, u68, u69, u70, u71, u72, u73, u74, u75, u76, u77, u78, u79, u80, u81, u82, u83, u84, u85, u86, u87, u88, u89, u90, u91, u92, u93, u94, u95, u96, u97, u98, u99, u100, u101, u102, u103, u104, u105, u106, u107, u108, u109, u110, u111, u112, u113, u114, u115, u116, u117, u118, u119, u120, u121, u122, u123, u124, u125, u126, u127, u128, u129, u130, u131, u132, u133, u134, u135, u136, u137, u138, u139, u140, u141, u142, u143, u144, u145, u146, u147, u148, u149, u150, Value.bool false, u152, u153, u154, u155, u156, u157, u158, u159, u160, u161, u162, u163, u164, u165, x166, x167, x168, x169, x170, x171, x172, x173, x174, x175, x176, x177, x178, x179, x180, x181, x182, x183, x184], []⟩ ∧ RegI wy V d w' [x166, x167, x168, x169, x170, x171, x172, x173, x174, x175, x176, x177, x178, x179, x180, x181, x182, x183, x184]) (by kernel_rfl) (by kernel_rfl) ?first ?step ?last
                case first => exact ⟨_, _, _, _, _, _, _, _, _, _, _, _, _, _, _, _, _, _, _, rfl, RegI.first _ _ _ (by rw [HV.out]; rfl)⟩
                case step =>
                  rintro d a' w' ⟨x166, x167, x168, x169, x170, x171, x172, x173, x174, x175, x176, x177, x178, x179, x180, x181, x182, x183, x184, rfl, h⟩ q hq hn hw
                  rcases q with _ | _ | _ | _ | _ | _ | _ | _ | _ | _ | _ | _ | _ | _ | _ | _ | _ | _ | _ | q
                  · obtain ⟨q0, q1, q2, q3, q4, q5, q6, q7⟩ := HCY.out w' h.1
                    refine wpOp_step rfl fun K hK => ?_
                    go_simp
                    refine (HH.out w').mono ?_
                    rintro e w2 ⟨y, rfl, hy, hb2⟩
                    exact hK _ _ ⟨_, x167, x168, x169, x170, x171, x172, x173, x174, x175, x176, x177, x178, x179, x180, x181, x182, x183, x184, rfl, h.did hb2 0 _ (MP.ver) (by rw [HV.out]; rfl) hy⟩
                  · obtain ⟨q0, q1, q2, q3, q4, q5, q6, q7⟩ := HCY.out w' h.1
                    refine wpOp_step rfl fun K hK => ?_
                    go_simp
                    exact hK _ _ ⟨x166, _, x168, x169, x170, x171, x172, x173, x174, x175, x176, x177, x178, x179, x180, x181, x182, x183, x184, rfl, h.same 1 _ (.con (.agg #[.int .u8 u.kind, .int .i64 u.n, .string u.t, .slice an u.names.length cn, .slice ai u.items.length ci, .slice sz nf cz])) (by rw [HV.out]; rfl) rfl⟩
                  · obtain ⟨q0, q1, q2, q3, q4, q5, q6, q7⟩ := HCY.out w' h.1
                    refine wpOp_step rfl fun K hK => ?_
                    go_simp
                    exact hK _ _ ⟨x166, x167, _, x169, x170, x171, x172, x173, x174, x175, x176, x177, x178, x179, x180, x181, x182, x183, x184, rfl, h.same 2 _ (.con (.agg #[.int .i64 T, .slice sb pubs.length cb])) (by rw [HV.out]; rfl) rfl⟩
                  · refine wpOp_step rfl fun K hK => ?_
                    go_simp
                    exact hK _ _ ⟨x166, x167, x168, _, x170, x171, x172, x173, x174, x175, x176, x177, x178, x179, x180, x181, x182, x183, x184, rfl, h.same 3 _ (.con (.slice sk pubs.length ck)) (by rw [HV.out]; rfl) rfl⟩
                  · have hs166 := h.get 0 (hw _ rfl ⟨0, .data⟩ (by simp) rfl) (MP.ver) (by rw [HV.out]; rfl) _ rfl
                    obtain rfl : x167 = .agg #[.int .u8 u.kind, .int .i64 u.n, .string u.t, .slice an u.names.length cn, .slice ai u.items.length ci, .slice sz nf cz] := h.get 1 (hw _ rfl ⟨1, .data⟩ (by simp) rfl) (.con (.agg #[.int .u8 u.kind, .int .i64 u.n, .string u.t, .slice an u.names.length cn, .slice ai u.items.length ci, .slice sz nf cz])) (by rw [HV.out]; rfl) _ rfl
                    obtain rfl : x168 = .agg #[.int .i64 T, .slice sb pubs.length cb] := h.get 2 (hw _ rfl ⟨2, .data⟩ (by simp) rfl) (.con (.agg #[.int .i64 T, .slice sb pubs.length cb])) (by rw [HV.out]; rfl) _ rfl
                    obtain rfl : x169 = .slice sk pubs.length ck := h.get 3 (hw _ rfl ⟨3, .data⟩ (by simp) rfl) (.con (.slice sk pubs.length ck)) (by rw [HV.out]; rfl) _ rfl
                    obtain ⟨q0, q1, q2, q3, q4, q5, q6, q7⟩ := HCY.out w' h.1
                    refine wpOp_step rfl fun K hK => ?_
                    go_simp
                    refine (HCN.out w' h.1 _ hs166).mono ?_
                    rintro e w2 ⟨rfl, hb2⟩
                    exact hK _ _ ⟨x166, _, _, _, _, x171, x172, x173, x174, x175, x176, x177, x178, x179, x180, x181, x182, x183, x184, rfl, h.did hb2 4 _ (.con (.int .i64 (cv : Int))) (by rw [HV.out]; rfl) rfl⟩
                  · refine wpOp_step rfl fun K hK => ?_
                    go_simp
                    exact hK _ _ ⟨x166, x167, x168, x169, x170, _, x172, x173, x174, x175, x176, x177, x178, x179, x180, x181, x182, x183, x184, rfl, h.same 5 _ (.con (.int .i64 (cv : Int))) (by rw [HV.out]; rfl) rfl⟩
                  · obtain rfl : x170 = .int .i64 (cv : Int) := h.get 4 (hw _ rfl ⟨4, .data⟩ (by simp) rfl) (.con (.int .i64 (cv : Int))) (by rw [HV.out]; rfl) _ rfl
                    obtain rfl : x171 = .int .i64 (cv : Int) := h.get 5 (hw _ rfl ⟨5, .data⟩ (by simp) rfl) (.con (.int .i64 (cv : Int))) (by rw [HV.out]; rfl) _ rfl
                    refine wpOp_step rfl fun K hK => ?_
                    go_simp
                    exact hK _ _ ⟨x166, x167, x168, x169, _, _, _, x173, x174, x175, x176, x177, x178, x179, x180, x181, x182, x183, x184, rfl, h.same 6 _ (.con (.bool true)) (by rw [HV.out]; rfl) rfl⟩
                  · obtain rfl : x172 = .bool true := h.get 6 (hw _ rfl ⟨6, .data⟩ (by simp) rfl) (.con (.bool true)) (by rw [HV.out]; rfl) _ rfl
                    refine wpOp_step rfl fun K hK => ?_
                    go_simp
                    exact hK _ _ ⟨x166, x167, x168, x169, x170, x171, _, _, x174, x175, x176, x177, x178, x179, x180, x181, x182, x183, x184, rfl, h.same 7 _ (.con (.bool true)) (by rw [HV.out]; rfl) rfl⟩
                  · obtain rfl : x173 = .bool true := h.get 7 (hw _ rfl ⟨7, .chain⟩ (by simp) rfl) (.con (.bool true)) (by rw [HV.out]; rfl) _ rfl
                    obtain ⟨q0, q1, q2, q3, q4, q5, q6, q7⟩ := HCY.out w' h.1
                    refine wpOp_step rfl fun K hK => ?_
                    go_simp
                    refine (HH.out w').mono ?_
                    rintro e w2 ⟨y, rfl, hy, hb2⟩
                    exact hK _ _ ⟨x166, x167, x168, x169, x170, x171, x172, _, _, x175, x176, x177, x178, x179, x180, x181, x182, x183, x184, rfl, h.did hb2 8 _ (MP.ver) (by rw [HV.out]; rfl) hy⟩
                  · obtain rfl : x173 = .bool true := h.get 7 (hw _ rfl ⟨7, .guard⟩ (by simp) rfl) (.con (.bool true)) (by rw [HV.out]; rfl) _ rfl
                    obtain ⟨q0, q1, q2, q3, q4, q5, q6, q7⟩ := HCY.out w' h.1
                    refine wpOp_step rfl fun K hK => ?_
                    go_simp
                    exact hK _ _ ⟨x166, x167, x168, x169, x170, x171, x172, _, x174, _, x176, x177, x178, x179, x180, x181, x182, x183, x184, rfl, h.same 9 _ (.con (.agg #[.int .u8 u.kind, .int .i64 u.n, .string u.t, .slice an u.names.length cn, .slice ai u.items.length ci, .slice sz nf cz])) (by rw [HV.out]; rfl) rfl⟩
                  · obtain rfl : x173 = .bool true := h.get 7 (hw _ rfl ⟨7, .guard⟩ (by simp) rfl) (.con (.bool true)) (by rw [HV.out]; rfl) _ rfl
                    obtain ⟨q0, q1, q2, q3, q4, q5, q6, q7⟩ := HCY.out w' h.1
                    refine wpOp_step rfl fun K hK => ?_
                    go_simp
                    exact hK _ _ ⟨x166, x167, x168, x169, x170, x171, x172, _, x174, x175, _, x177, x178, x179, x180, x181, x182, x183, x184, rfl, h.same 10 _ (.con (.agg #[.int .i64 T, .slice sb pubs.length cb])) (by rw [HV.out]; rfl) rfl⟩
                  · obtain rfl : x173 = .bool true := h.get 7 (hw _ rfl ⟨7, .guard⟩ (by simp) rfl) (.con (.bool true)) (by rw [HV.out]; rfl) _ rfl
                    refine wpOp_step rfl fun K hK => ?_
                    go_simp
                    exact hK _ _ ⟨x166, x167, x168, x169, x170, x171, x172, _, x174, x175, x176, _, x178, x179, x180, x181, x182, x183, x184, rfl, h.same 11 _ (.con (.slice sk pubs.length ck)) (by rw [HV.out]; rfl) rfl⟩
                  · obtain rfl : x173 = .bool true := h.get 7 (hw _ rfl ⟨7, .guard⟩ (by simp) rfl) (.con (.bool true)) (by rw [HV.out]; rfl) _ rfl
                    have hs174 := h.get 8 (hw _ rfl ⟨8, .data⟩ (by simp) rfl) (MP.ver) (by rw [HV.out]; rfl) _ rfl
                    obtain rfl : x175 = .agg #[.int .u8 u.kind, .int .i64 u.n, .string u.t, .slice an u.names.length cn, .slice ai u.items.length ci, .slice sz nf cz] := h.get 9 (hw _ rfl ⟨9, .data⟩ (by simp) rfl) (.con (.agg #[.int .u8 u.kind, .int .i64 u.n, .string u.t, .slice an u.names.length cn, .slice ai u.items.length ci, .slice sz nf cz])) (by rw [HV.out]; rfl) _ rfl
                    obtain rfl : x176 = .agg #[.int .i64 T, .slice sb pubs.length cb] := h.get 10 (hw _ rfl ⟨10, .data⟩ (by simp) rfl) (.con (.agg #[.int .i64 T, .slice sb pubs.length cb])) (by rw [HV.out]; rfl) _ rfl
                    obtain rfl : x177 = .slice sk pubs.length ck := h.get 11 (hw _ rfl ⟨11, .data⟩ (by simp) rfl) (.con (.slice sk pubs.length ck)) (by rw [HV.out]; rfl) _ rfl
                    obtain ⟨q0, q1, q2, q3, q4, q5, q6, q7⟩ := HCY.out w' h.1
                    refine wpOp_step rfl fun K hK => ?_
                    go_simp
                    refine (HEN.out w' h.1 _ hs174).mono ?_
                    rintro e w2 ⟨rfl, hb2⟩
                    exact hK _ _ ⟨x166, x167, x168, x169, x170, x171, x172, _, x174, _, _, _, _, x179, x180, x181, x182, x183, x184, rfl, h.did hb2 12 _ (.con (.bool false)) (by rw [HV.out]; rfl) rfl⟩
                  · obtain rfl : x173 = .bool true := h.get 7 (hw _ rfl ⟨7, .guard⟩ (by simp) rfl) (.con (.bool true)) (by rw [HV.out]; rfl) _ rfl
                    refine wpOp_step rfl fun K hK => ?_
                    go_simp
                    exact hK _ _ ⟨x166, x167, x168, x169, x170, x171, x172, _, x174, x175, x176, x177, x178, _, x180, x181, x182, x183, x184, rfl, h.same 13 _ (.con (.int .i64 (cv : Int))) (by rw [HV.out]; rfl) rfl⟩
                  · obtain rfl : x173 = .bool true := h.get 7 (hw _ rfl ⟨7, .guard⟩ (by simp) rfl) (.con (.bool true)) (by rw [HV.out]; rfl) _ rfl
                    refine wpOp_step rfl fun K hK => ?_
                    go_simp
                    exact hK _ _ ⟨x166, x167, x168, x169, x170, x171, x172, _, x174, x175, x176, x177, x178, x179, _, x181, x182, x183, x184, rfl, h.same 14 _ (.con (.pointer (some ⟨A, 0, none⟩))) (by rw [HV.out]; rfl) rfl⟩
                  · obtain rfl : x173 = .bool true := h.get 7 (hw _ rfl ⟨7, .guard⟩ (by simp) rfl) (.con (.bool true)) (by rw [HV.out]; rfl) _ rfl
                    obtain rfl : x180 = .pointer (some ⟨A, 0, none⟩) := h.get 14 (hw _ rfl ⟨14, .data⟩ (by simp) rfl) (.con (.pointer (some ⟨A, 0, none⟩))) (by rw [HV.out]; rfl) _ rfl
                    obtain ⟨q0, q1, q2, q3, q4, q5, q6, q7⟩ := HCY.out w' h.1
                    refine wpOp_step rfl fun K hK => ?_
                    go_simp
                    exact hK _ _ ⟨x166, x167, x168, x169, x170, x171, x172, _, x174, x175, x176, x177, x178, x179, _, _, x182, x183, x184, rfl, h.same 15 _ (.con (.int .i64 T)) (by rw [HV.out]; rfl) rfl⟩
                  · obtain rfl : x173 = .bool true := h.get 7 (hw _ rfl ⟨7, .guard⟩ (by simp) rfl) (.con (.bool true)) (by rw [HV.out]; rfl) _ rfl
                    obtain rfl : x179 = .int .i64 (cv : Int) := h.get 13 (hw _ rfl ⟨13, .data⟩ (by simp) rfl) (.con (.int .i64 (cv : Int))) (by rw [HV.out]; rfl) _ rfl
                    obtain rfl : x181 = .int .i64 T := h.get 15 (hw _ rfl ⟨15, .data⟩ (by simp) rfl) (.con (.int .i64 T)) (by rw [HV.out]; rfl) _ rfl
                    refine wpOp_step rfl fun K hK => ?_
                    go_simp
                    exact hK _ _ ⟨x166, x167, x168, x169, x170, x171, x172, _, x174, x175, x176, x177, x178, _, x180, _, _, x183, x184, rfl, h.same 16 _ (.con (.bool false)) (by rw [HV.out]; rfl) rfl⟩
                  · obtain rfl : x173 = .bool true := h.get 7 (hw _ rfl ⟨7, .guard⟩ (by simp) rfl) (.con (.bool true)) (by rw [HV.out]; rfl) _ rfl
                    obtain rfl : x178 = .bool false := h.get 12 (hw _ rfl ⟨12, .data⟩ (by simp) rfl) (.con (.bool false)) (by rw [HV.out]; rfl) _ rfl
                    obtain rfl : x182 = .bool false := h.get 16 (hw _ rfl ⟨16, .data⟩ (by simp) rfl) (.con (.bool false)) (by rw [HV.out]; rfl) _ rfl
                    refine wpOp_step rfl fun K hK => ?_
                    go_simp
                    exact hK _ _ ⟨x166, x167, x168, x169, x170, x171, x172, _, x174, x175, x176, x177, _, x179, x180, x181, _, _, x184, rfl, h.same 17 _ (.con (.bool true)) (by rw [HV.out]; rfl) rfl⟩
                  · obtain rfl : x173 = .bool true := h.get 7 (hw _ rfl ⟨7, .data⟩ (by simp) rfl) (.con (.bool true)) (by rw [HV.out]; rfl) _ rfl
                    obtain rfl : x183 = .bool true := h.get 17 (hw _ rfl ⟨17, .data⟩ (by simp) rfl) (.con (.bool true)) (by rw [HV.out]; rfl) _ rfl
                    refine wpOp_step rfl fun K hK => ?_
                    go_simp
                    exact hK _ _ ⟨x166, x167, x168, x169, x170, x171, x172, _, x174, x175, x176, x177, x178, x179, x180, x181, x182, _, _, rfl, h.same 18 _ (.con (.bool true)) (by rw [HV.out]; rfl) rfl⟩
                  · omega
                case last =>
                  rintro d a' w' hall ⟨x166, x167, x168, x169, x170, x171, x172, x173, x174, x175, x176, x177, x178, x179, x180, x181, x182, x183, x184, rfl, h⟩
                  have hle := h.1
                  obtain rfl : x184 = .bool true := h.get 18 (hall _ (by omega)) (.con (.bool true)) (by rw [HV.out]; rfl) _ rfl
                  have HLE := Lib.hid hle
                  clear h hall hle HV
                  have HBL := Lib.hid (HZ0R.out _ (HZY.out _ HLE.out))
                  go_wp2
                  go_ret
                  exact ⟨by simp, HBT.out _ HBL.out⟩

end Go.Proofs.YtaekmmnpdbmoeaaGreatDoor
