/- The contract of legatelaw17.JudgeTable. Printed by gentab.py. -/
import Derived.Test.YtaekmmnpdbmoeaaGreatDoorJr33
import Derived.Test.YtaekmmnpdbmoeaaGreatDoorJx00
import Derived.Test.YtaekmmnpdbmoeaaGreatDoorJr28
import Derived.Test.YtaekmmnpdbmoeaaGreatDoorJr16

namespace Go.Proofs.YtaekmmnpdbmoeaaGreatDoor
open Go.RowKit

def tabP (l : List Sig2) (keys : List Key2) (id : ByteArray) : Bool := (findK id keys).2 && l.any fun s => decide (s.1 = id)

set_option maxHeartbeats 2000000 in
set_option maxRecDepth 100000 in
theorem lawTab (u : JV) (l : List Sig2) (an ai sa : Option Addr) (cn ci sc : Nat) (t : Int) (ids : List ByteArray) (ia : Option Addr) (ic : Nat) (keys : List Key2) (ka : Option Addr) (kc : Nat) (m : ByteArray) (w : World)
    (hI : JudgeIn w u l an ai sa cn ci ids ia keys ka) (hn : u.num) (hT : Tabs w) (hP : Pow10 w) :
    Calls Tryz.prog 8 #[envV u an ai cn ci sa l.length sc, .agg #[.int .i64 t, .slice ia ids.length ic], .slice ka keys.length kc, .string m] w fun e w' => e = .returned (.bool true) ∧ Below w.heap.size w w' := by
  obtain ⟨i1, hi1, hy0, hy1, hy2⟩ := info_parts infoVer
  obtain ⟨W0, hW0⟩ : ∃ W0, W0 = (w.alloc (.cells #[.int .u8 u.kind, .int .i64 u.n, .string u.t, .slice an u.names.length cn, .slice ai u.items.length ci, .slice sa l.length sc] 47)).alloc (.cells #[.int .i64 t, .slice ia ids.length ic] 49) := ⟨_, rfl⟩
  have HB0 := Lib.hid (show Below w.heap.size w W0 by rw [hW0]; exact below_n2 w _ _)
  have HZ0 := Lib.hid (show W0.heap.size = w.heap.size + 2 by rw [hW0]; simp)
  have hb0 : W0.heap[w.heap.size]? = some (.cells #[.int .u8 u.kind, .int .i64 u.n, .string u.t, .slice an u.names.length cn, .slice ai u.items.length ci, .slice sa l.length sc] 47 (0, 0)) := by
    rw [hW0, Below.heap_alloc _ _ _ (by simp)]; exact heap_alloc_new w _
  have hb1 : W0.heap[w.heap.size + 1]? = some (.cells #[.int .i64 t, .slice ia ids.length ic] 49 (0, 0)) := by
    rw [hW0]
    have := heap_alloc_new (w.alloc (.cells #[.int .u8 u.kind, .int .i64 u.n, .string u.t, .slice an u.names.length cn, .slice ai u.items.length ci, .slice sa l.length sc] 47)) (.cells #[.int .i64 t, .slice ia ids.length ic] 49)
    simpa using this
  have HS := Lib.hid (show ∀ w' : World, Below W0.heap.size W0 w' → w'.cell? ⟨w.heap.size, 0, none⟩ = some (.int .u8 u.kind) ∧ w'.cell? ⟨w.heap.size, 1, none⟩ = some (.int .i64 u.n) ∧ w'.cell? ⟨w.heap.size, 2, none⟩ = some (.string u.t) ∧ w'.cell? ⟨w.heap.size, 3, none⟩ = some (.slice an u.names.length cn) ∧ w'.cell? ⟨w.heap.size, 4, none⟩ = some (.slice ai u.items.length ci) ∧ w'.cell? ⟨w.heap.size, 5, none⟩ = some (.slice sa l.length sc) ∧
      w'.cell? ⟨w.heap.size + 1, 0, none⟩ = some (.int .i64 t) ∧ w'.cell? ⟨w.heap.size + 1, 1, none⟩ = some (.slice ia ids.length ic) from fun w' h => by
    have y0 := (h.block _ (heap_lt hb0)).trans hb0
    have y1 := (h.block _ (heap_lt hb1)).trans hb1
    exact ⟨box_cell y0 rfl, box_cell y0 rfl, box_cell y0 rfl, box_cell y0 rfl, box_cell y0 rfl, box_cell y0 rfl, box_cell y1 rfl, box_cell y1 rfl⟩)
  have HBT := Lib.hid (show ∀ w' : World, Below W0.heap.size W0 w' → Below w.heap.size w w' from fun w' h => HB0.out.trans (h.mono HB0.out.size))
  have HT := Lib.hid (show ∀ w' : World, Below W0.heap.size W0 w' → Tabs w' from fun w' h => hT.below (HBT.out w' h))
  have HP := Lib.hid (show ∀ w' : World, Below W0.heap.size W0 w' → Pow10 w' from fun w' h => hP.below (HBT.out w' h))
  have HA := Lib.hid (show ∀ w' : World, Below W0.heap.size W0 w' → Calls Tryz.prog 14 #[] w' (fun e w'' => e = .returned (.bool true) ∧ Below w'.heap.size w' w'') from fun w' h => lawAwake17 w' (HT.out w' h) (HP.out w' h))
  have HI := Lib.hid (show ∀ w' : World, Below W0.heap.size W0 w' → JudgeIn w' u l an ai sa cn ci ids ia keys ka from fun w' h => hI.below (HBT.out w' h))
  have HLG := Lib.hid (show Calls Tryz.prog 20 #[.agg #[.int .u8 u.kind, .int .i64 u.n, .string u.t, .slice an u.names.length cn, .slice ai u.items.length ci, .slice sa l.length sc], .agg #[.int .i64 t, .slice ia ids.length ic], .slice ka keys.length kc] W0 (LongPost17 u l ids keys W0) from lawLong17 u l an ai sa cn ci sc t ids ia ic keys ka kc W0 (HI.out W0 (Below.refl _ _)))
  have HW0 := Lib.hid hW0
  have HNUM := Lib.hid hn
  unfold envV
  clear hT hP hb0 hb1 hW0 hI hn
  go_enter Tryz.func8, Tryz.ntmps8
  obtain ⟨q0, q1, q2, q3, q4, q5, q6, q7⟩ := HS.out W0 (Below.refl _ _)
  rw [HW0.out] at q0 q1 q2 q3 q4 q5 q6 q7
  go_wp2_with fail
  rw [← HW0.out]
  refine HLG.out.mono ?_
  clear HLG HW0 q0 q1 q2 q3 q4 q5 q6 q7
  rintro e w1 ⟨b, rfl, hb, hb1⟩
  have HB1 := Lib.hid hb1
  clear hb1
  obtain ⟨q0, q1, q2, q3, q4, q5, q6, q7⟩ := HS.out w1 HB1.out
  cases b
  case true =>
    clear hb
    go_wp2_with fail
    refine (HA.out w1 HB1.out).mono ?_
    rintro e w99 ⟨rfl, hb9⟩
    have HB9 := Lib.hid (HB1.out.trans (hb9.mono HB1.out.size))
    clear hb9
    go_wp2
    go_ret
    exact ⟨rfl, HBT.out _ HB9.out⟩
  have HNL := Lib.hid (hb rfl)
  clear hb
  by_cases g0 : m.size ≤ 300
  case neg =>
    have g0' : decide (300 < m.size) = true := by simp; omega
    go_wp2_with fail
    refine (HA.out w1 HB1.out).mono ?_
    rintro e w99 ⟨rfl, hb9⟩
    have HB9 := Lib.hid (HB1.out.trans (hb9.mono HB1.out.size))
    clear hb9
    go_wp2
    go_ret
    exact ⟨rfl, HBT.out _ HB9.out⟩
  have g0' : decide (300 < m.size) = false := by simp; omega
  have HMY := Lib.hid (show Calls Tryz.prog 33 #[.agg #[.int .u8 u.kind, .int .i64 u.n, .string u.t, .slice an u.names.length cn, .slice ai u.items.length ci, .slice sa l.length sc]] w1 (fun e w' => e = .returned (.bool (envOk u l)) ∧ Below w1.heap.size w1 w') from signMay u l an ai sa cn ci sc w1 (HNL.out.env (HI.out w1 HB1.out)))
  obtain ⟨eo, heo⟩ : ∃ eo, eo = envOk u l := ⟨_, rfl⟩
  rw [← heo] at HMY
  have HEO := Lib.hid heo
  clear heo
  go_wp2_with fail
  refine HMY.out.mono ?_
  clear HMY q0 q1 q2 q3 q4 q5 q6 q7
  rintro e w2 ⟨rfl, hb2⟩
  have HB2 := Lib.hid (HB1.out.trans (hb2.mono HB1.out.size))
  clear hb2
  obtain ⟨q0, q1, q2, q3, q4, q5, q6, q7⟩ := HS.out w2 HB2.out
  cases eo
  case false =>
    go_wp2_with fail
    refine (HA.out w2 HB2.out).mono ?_
    rintro e w99 ⟨rfl, hb9⟩
    have HB9 := Lib.hid (HB2.out.trans (hb9.mono HB2.out.size))
    clear hb9
    go_wp2
    go_ret
    exact ⟨rfl, HBT.out _ HB9.out⟩
  obtain ⟨ao, hao⟩ : ∃ ao, ao = authOk t ids := ⟨_, rfl⟩
  have HAM := Lib.hid (authMay t ids ia ic w2 (HI.out w2 HB2.out).strs (fun s hs => by have := HNL.out.idsizes s hs; omega))
  rw [← hao] at HAM
  have HAO := Lib.hid hao
  clear hao
  go_wp2_with fail
  refine HAM.out.mono ?_
  clear HAM q0 q1 q2 q3 q4 q5 q6 q7
  rintro e w3 ⟨rfl, hb3⟩
  have HB3 := Lib.hid (HB2.out.trans (hb3.mono HB2.out.size))
  clear hb3
  cases ao
  case false =>
    go_wp2_with fail
    refine (HA.out w3 HB3.out).mono ?_
    rintro e w99 ⟨rfl, hb9⟩
    have HB9 := Lib.hid (HB3.out.trans (hb9.mono HB3.out.size))
    clear hb9
    go_wp2
    go_ret
    exact ⟨rfl, HBT.out _ HB9.out⟩
  go_wp2_with fail
  refine (HA.out w3 HB3.out).mono ?_
  rintro e w4 ⟨rfl, hb4⟩
  have HB4 := Lib.hid (HB3.out.trans (hb4.mono HB3.out.size))
  clear hb4 HA
  have HSI := Lib.hid (show Calls Tryz.prog 29 #[.agg #[.int .u8 u.kind, .int .i64 u.n, .string u.t, .slice an u.names.length cn, .slice ai u.items.length ci, .slice sa l.length sc]] w4 (fun e w' => e = .returned (.tuple #[.string ⟨(signS u l).toArray⟩, .int .i64 (signE u l)]) ∧ Below w4.heap.size w4 w') from signSigned u l an ai sa cn ci sc w4 (HNL.out.env (HI.out w4 HB4.out)) HNUM.out (HP.out w4 HB4.out))
  rw [show signE u l = 0 by unfold signE; rw [← HEO.out]; rfl, show signS u l = u.enc by unfold signS; rw [← HEO.out]; rfl] at HSI
  obtain ⟨X, hX⟩ : ∃ X : ByteArray, X = ⟨u.enc.toArray⟩ := ⟨_, rfl⟩
  rw [← hX] at HSI
  have HX := Lib.hid hX
  clear hX
  obtain ⟨q0, q1, q2, q3, q4, q5, q6, q7⟩ := HS.out w4 HB4.out
  go_wp2_with fail
  refine HSI.out.mono ?_
  clear HSI q0 q1 q2 q3 q4 q5 q6 q7
  rintro e w5 ⟨rfl, hb5⟩
  have HB5 := Lib.hid (HB4.out.trans (hb5.mono HB4.out.size))
  clear hb5
  have HXZ := Lib.hid (show X.size ≤ 1099511620000 by
    rw [HX.out]
    show u.enc.toArray.size ≤ _
    rw [List.size_toArray]
    have h1 := HNL.out.wt
    have h2 := JV.enc_length u (JV.form_of_may u _ _ HNUM.out (envOk_may HEO.out.symm))
    omega)
  have HDG := Lib.hid (digest X w5 (by have := HXZ.out; omega) (HT.out w5 HB5.out))
  rw [show (⟨(shaHex X.data.toList).toArray⟩ : ByteArray) = dig u.enc by rw [HX.out]; rfl] at HDG
  obtain ⟨D, hD⟩ : ∃ D, D = dig u.enc := ⟨_, rfl⟩
  rw [← hD] at HDG
  have HDD := Lib.hid hD
  clear hD
  go_wp2_with fail
  refine HDG.out.mono ?_
  clear HDG
  rintro e w6 ⟨rfl, hb6⟩
  have HB6 := Lib.hid (HB5.out.trans (hb6.mono HB5.out.size))
  clear hb6
  obtain ⟨Y, hY⟩ : ∃ Y : List Ver3, Y = l.map fun s => (s.1, s.2, D) := ⟨_, rfl⟩
  obtain ⟨N, hN⟩ : ∃ N : List Ver3, N = l.map fun s => (s.1, s.2, m) := ⟨_, rfl⟩
  have HYG := Lib.hid (show ∀ k (h : k < l.length), Y[k]? = some (l[k].1, l[k].2, D) from fun k h => by rw [hY, List.getElem?_map, List.getElem?_eq_getElem h]; rfl)
  have HNG := Lib.hid (show ∀ k (h : k < l.length), N[k]? = some (l[k].1, l[k].2, m) from fun k h => by rw [hN, List.getElem?_map, List.getElem?_eq_getElem h]; rfl)
  have HY := Lib.hid hY
  have HN := Lib.hid hN
  clear hY hN
  go_wp2_with fail
  go_loopw [12, 13, 14] (fun vy vn i wr => ∃ k : Nat, k ≤ l.length ∧ i = .int .i64 k ∧ TabAt w6 wr Y N k k vy vn) (fun _ _ i _ => l.length - (intOf i).toNat)
  case atStart => exact ⟨0, Nat.zero_le _, rfl, ⟨Below.refl _ _, ⟨rfl, .inl ⟨rfl, rfl⟩⟩, ⟨rfl, .inl ⟨rfl, rfl⟩⟩, fun b hb => by cases hb⟩⟩
  case round =>
    obtain ⟨k, hk, rfl, hA⟩ := hrel
    obtain ⟨ya, yc, rfl⟩ := owns_slice hA.y
    obtain ⟨na, nc, rfl⟩ := owns_slice hA.n
    have HA := Lib.hid hA
    clear hA
    have HBR := Lib.hid (HB6.out.trans (HA.out.below.mono HB6.out.size))
    obtain ⟨q0, q1, q2, q3, q4, q5, q6, q7⟩ := HS.out wr HBR.out
    clear q0 q1 q2 q3 q4 q6 q7
    by_cases hlt : k < l.length
    · obtain ⟨b, off, ha, _, hb, e0, e1⟩ := (HI.out w6 HB6.out).sigs.at k hlt
      subst ha
      obtain ⟨s0, hs0⟩ : ∃ s0, s0 = l[k].1 := ⟨_, rfl⟩
      obtain ⟨s1, hs1⟩ : ∃ s1, s1 = l[k].2 := ⟨_, rfl⟩
      have HYK := Lib.hid (HYG.out k hlt)
      have HNK := Lib.hid (HNG.out k hlt)
      rw [← hs0] at e0 HYK HNK
      rw [← hs1] at e1 HYK HNK
      have HC := Lib.hid (show ∀ w' : World, Below w6.heap.size w6 w' → w'.cell? ⟨w.heap.size, 5, none⟩ = some (.slice (some ⟨b, off, none⟩) l.length sc) ∧ w'.cell? ⟨b, off + k * 2, none⟩ = some (.string s0) ∧ w'.cell? ⟨b, off + k * 2 + 1, none⟩ = some (.string s1) from fun w' h =>
        ⟨(HS.out w' (HB6.out.trans (h.mono HB6.out.size))).2.2.2.2.2.1, (World.cell?_of_block (w := w6) (h.block b hb)).trans e0, (World.cell?_of_block (w := w6) (h.block b hb)).trans e1⟩)
      clear hs0 hs1 e0 e1 hb q5
      obtain ⟨q5, e0, e1⟩ := HC.out wr HA.out.below
      go_wp2_with fail
      clear q5 e0 e1
      obtain ⟨V, hV⟩ : ∃ V : List MP, V = [.con (.slice ya k yc), .con (.pointer (some ⟨w.heap.size, 5, none⟩)), .con (.slice (some ⟨b, off, none⟩) l.length sc), .con (.int .i64 (k : Int)), .con (.pointer (some ⟨b, off + k * 2, none⟩)), .con (.pointer (some ⟨b, off + k * 2, none⟩)), .con (.string s0), .con (.pointer (some ⟨w.heap.size, 5, none⟩)), .con (.slice (some ⟨b, off, none⟩) l.length sc), .con (.int .i64 (k : Int)), .con (.pointer (some ⟨b, off + k * 2, none⟩)), .con (.pointer (some ⟨b, off + k * 2 + 1, none⟩)), .con (.string s1), .con (.string D), .con (.agg #[.string s0, .string s1, .string D]), .row wr.heap.size 1 60 #[.string s0, .string s1, .string D]] := ⟨_, rfl⟩
      have HV := Lib.hid hV
      clear hV
      refine wp_region_inv 16 (fun d a' w' => ∃ x61 x62 x63 x64 x65 x66 x67 x68 x69 x70 x71 x72 x73 x74 x75 x76, a' = ⟨#[.agg #[.int .u8 u.kind, .int .i64 u.n, .string u.t, .slice an u.names.length cn, .slice ai u.items.length ci, .slice (some ⟨b, off, none⟩) l.length sc], .agg #[.int .i64 t, .slice ia ids.length ic], .slice ka keys.length kc, .string m, .pointer (some ⟨w.heap.size, 0, none⟩), .pointer (some ⟨w.heap.size + 1, 0, none⟩), undef, undef, .bool false, .string X, .int .i64 0, .string D, .slice ya k yc, .slice na k nc, .int .i64 (k : Int), undef, undef, undef, undef, undef, undef, .agg #[.int .u8 u.kind, .int .i64 u.n, .string u.t, .slice an u.names.length cn, .slice ai u.items.length ci, .slice (some ⟨b, off, none⟩) l.length sc], .agg #[.int .i64 t, .slice ia ids.length ic], .slice ka keys.length kc, .bool false, .bool false, .string m, .int .i64 (m.size : Int), .bool (decide (300 < (m.size : Int))), .bool (decide (300 < (m.size : Int))), .bool (decide (300 < (m.size : Int))), .agg #[.int .u8 u.kind, .int .i64 u.n, .string u.t, .slice an u.names.length cn, .slice ai u.items.length ci, .slice (some ⟨b, off, none⟩) l.length sc], .bool true, .bool false, .bool (decide (300 < (m.size : Int))), .bool (decide (300 < (m.size : Int))), .agg #[.int .i64 t, .slice ia ids.length ic], .bool true, .bool false, .bool (decide (300 < (m.size : Int))), .bool (decide (300 < (m.size : Int))), .bool true, .bool false, .bool (decide (300 < (m.size : Int))), undef, .tuple #[.string X, .int .i64 0], .agg #[.int .u8 u.kind, .int .i64 u.n, .string u.t, .slice an u.names.length cn, .slice ai u.items.length ci, .slice (some ⟨b, off, none⟩) l.length sc], .tuple #[.string X, .int .i64 0], .string X, .int .i64 0, .int .i64 0, .bool false, .string X, .string D, .int .i64 (k : Int), .pointer (some ⟨w.heap.size, 5, none⟩), .slice (some ⟨b, off, none⟩) l.length sc, .int .i64 (l.length : Int), .bool true, u59, u60, x61, x62, x63, x64, x65, x66, x67, x68, x69, x70, x71, x72, x73, x74, x75, x76, u77, u78, u79, u80, u81, u82, u83, u84, u85, u86, u87, u88, u89, u90, u91, u92, u93, u94, undef, undef, undef, undef, undef, undef, undef, undef, undef, undef, undef, undef, undef, undef, undef, undef, undef, undef, undef, undef, undef, undef, undef, undef, undef, undef, undef, undef, undef, undef, undef, undef, undef, undef, undef, undef, undef, undef, undef, undef, undef, undef, undef, undef, undef, undef, undef, undef, undef, undef, undef, undef, undef, undef, undef, undef, undef, undef, undef, undef, undef, undef, undef, undef, undef, undef, undef, undef, undef, undef, undef, undef, undef, undef, undef, undef, undef, undef, undef, undef, undef, undef, undef, undef, undef, undef], []⟩ ∧ RegI wr V d w' [x61, x62, x63, x64, x65, x66, x67, x68, x69, x70, x71, x72, x73, x74, x75, x76]) (by kernel_rfl) (by kernel_rfl) ?first ?step ?last
      case first => exact ⟨_, _, _, _, _, _, _, _, _, _, _, _, _, _, _, _, rfl, RegI.first _ _ _ (by rw [HV.out]; rfl)⟩
      case step =>
        rintro d a' w' ⟨x61, x62, x63, x64, x65, x66, x67, x68, x69, x70, x71, x72, x73, x74, x75, x76, rfl, h⟩ q hq hn hw
        rcases q with _ | _ | _ | _ | _ | _ | _ | _ | _ | _ | _ | _ | _ | _ | _ | _ | q
        · refine wpOp_step rfl fun K hK => ?_
          go_simp
          exact hK _ _ ⟨_, x62, x63, x64, x65, x66, x67, x68, x69, x70, x71, x72, x73, x74, x75, x76, rfl, h.same 0 _ (.con (.slice ya k yc)) (by rw [HV.out]; rfl) rfl⟩
        · refine wpOp_step rfl fun K hK => ?_
          go_simp
          exact hK _ _ ⟨x61, _, x63, x64, x65, x66, x67, x68, x69, x70, x71, x72, x73, x74, x75, x76, rfl, h.same 1 _ (.con (.pointer (some ⟨w.heap.size, 5, none⟩))) (by rw [HV.out]; rfl) rfl⟩
        · obtain rfl : x62 = .pointer (some ⟨w.heap.size, 5, none⟩) := h.get 1 (hw _ rfl ⟨1, .data⟩ (by simp) rfl) (.con (.pointer (some ⟨w.heap.size, 5, none⟩))) (by rw [HV.out]; rfl) _ rfl
          obtain ⟨q5, e0, e1⟩ := HC.out w' (HA.out.below.trans (h.1.mono HA.out.below.size))
          refine wpOp_step rfl fun K hK => ?_
          go_simp
          exact hK _ _ ⟨x61, _, _, x64, x65, x66, x67, x68, x69, x70, x71, x72, x73, x74, x75, x76, rfl, h.same 2 _ (.con (.slice (some ⟨b, off, none⟩) l.length sc)) (by rw [HV.out]; rfl) rfl⟩
        · refine wpOp_step rfl fun K hK => ?_
          go_simp
          exact hK _ _ ⟨x61, x62, x63, _, x65, x66, x67, x68, x69, x70, x71, x72, x73, x74, x75, x76, rfl, h.same 3 _ (.con (.int .i64 (k : Int))) (by rw [HV.out]; rfl) rfl⟩
        · obtain rfl : x63 = .slice (some ⟨b, off, none⟩) l.length sc := h.get 2 (hw _ rfl ⟨2, .data⟩ (by simp) rfl) (.con (.slice (some ⟨b, off, none⟩) l.length sc)) (by rw [HV.out]; rfl) _ rfl
          obtain rfl : x64 = .int .i64 (k : Int) := h.get 3 (hw _ rfl ⟨3, .data⟩ (by simp) rfl) (.con (.int .i64 (k : Int))) (by rw [HV.out]; rfl) _ rfl
          obtain ⟨q5, e0, e1⟩ := HC.out w' (HA.out.below.trans (h.1.mono HA.out.below.size))
          refine wpOp_step rfl fun K hK => ?_
          go_simp
          exact hK _ _ ⟨x61, x62, _, _, _, x66, x67, x68, x69, x70, x71, x72, x73, x74, x75, x76, rfl, h.same 4 _ (.con (.pointer (some ⟨b, off + k * 2, none⟩))) (by rw [HV.out]; rfl) rfl⟩
        · obtain rfl : x65 = .pointer (some ⟨b, off + k * 2, none⟩) := h.get 4 (hw _ rfl ⟨4, .data⟩ (by simp) rfl) (.con (.pointer (some ⟨b, off + k * 2, none⟩))) (by rw [HV.out]; rfl) _ rfl
          refine wpOp_step rfl fun K hK => ?_
          go_simp
          exact hK _ _ ⟨x61, x62, x63, x64, _, _, x67, x68, x69, x70, x71, x72, x73, x74, x75, x76, rfl, h.same 5 _ (.con (.pointer (some ⟨b, off + k * 2, none⟩))) (by rw [HV.out]; rfl) rfl⟩
        · obtain rfl : x66 = .pointer (some ⟨b, off + k * 2, none⟩) := h.get 5 (hw _ rfl ⟨5, .data⟩ (by simp) rfl) (.con (.pointer (some ⟨b, off + k * 2, none⟩))) (by rw [HV.out]; rfl) _ rfl
          obtain ⟨q5, e0, e1⟩ := HC.out w' (HA.out.below.trans (h.1.mono HA.out.below.size))
          refine wpOp_step rfl fun K hK => ?_
          go_simp
          exact hK _ _ ⟨x61, x62, x63, x64, x65, _, _, x68, x69, x70, x71, x72, x73, x74, x75, x76, rfl, h.same 6 _ (.con (.string s0)) (by rw [HV.out]; rfl) rfl⟩
        · refine wpOp_step rfl fun K hK => ?_
          go_simp
          exact hK _ _ ⟨x61, x62, x63, x64, x65, x66, x67, _, x69, x70, x71, x72, x73, x74, x75, x76, rfl, h.same 7 _ (.con (.pointer (some ⟨w.heap.size, 5, none⟩))) (by rw [HV.out]; rfl) rfl⟩
        · obtain rfl : x68 = .pointer (some ⟨w.heap.size, 5, none⟩) := h.get 7 (hw _ rfl ⟨7, .data⟩ (by simp) rfl) (.con (.pointer (some ⟨w.heap.size, 5, none⟩))) (by rw [HV.out]; rfl) _ rfl
          obtain ⟨q5, e0, e1⟩ := HC.out w' (HA.out.below.trans (h.1.mono HA.out.below.size))
          refine wpOp_step rfl fun K hK => ?_
          go_simp
          exact hK _ _ ⟨x61, x62, x63, x64, x65, x66, x67, _, _, x70, x71, x72, x73, x74, x75, x76, rfl, h.same 8 _ (.con (.slice (some ⟨b, off, none⟩) l.length sc)) (by rw [HV.out]; rfl) rfl⟩
        · refine wpOp_step rfl fun K hK => ?_
          go_simp
          exact hK _ _ ⟨x61, x62, x63, x64, x65, x66, x67, x68, x69, _, x71, x72, x73, x74, x75, x76, rfl, h.same 9 _ (.con (.int .i64 (k : Int))) (by rw [HV.out]; rfl) rfl⟩
        · obtain rfl : x69 = .slice (some ⟨b, off, none⟩) l.length sc := h.get 8 (hw _ rfl ⟨8, .data⟩ (by simp) rfl) (.con (.slice (some ⟨b, off, none⟩) l.length sc)) (by rw [HV.out]; rfl) _ rfl
          obtain rfl : x70 = .int .i64 (k : Int) := h.get 9 (hw _ rfl ⟨9, .data⟩ (by simp) rfl) (.con (.int .i64 (k : Int))) (by rw [HV.out]; rfl) _ rfl
          obtain ⟨q5, e0, e1⟩ := HC.out w' (HA.out.below.trans (h.1.mono HA.out.below.size))
          refine wpOp_step rfl fun K hK => ?_
          go_simp
          exact hK _ _ ⟨x61, x62, x63, x64, x65, x66, x67, x68, _, _, _, x72, x73, x74, x75, x76, rfl, h.same 10 _ (.con (.pointer (some ⟨b, off + k * 2, none⟩))) (by rw [HV.out]; rfl) rfl⟩
        · obtain rfl : x71 = .pointer (some ⟨b, off + k * 2, none⟩) := h.get 10 (hw _ rfl ⟨10, .data⟩ (by simp) rfl) (.con (.pointer (some ⟨b, off + k * 2, none⟩))) (by rw [HV.out]; rfl) _ rfl
          refine wpOp_step rfl fun K hK => ?_
          go_simp
          exact hK _ _ ⟨x61, x62, x63, x64, x65, x66, x67, x68, x69, x70, _, _, x73, x74, x75, x76, rfl, h.same 11 _ (.con (.pointer (some ⟨b, off + k * 2 + 1, none⟩))) (by rw [HV.out]; rfl) rfl⟩
        · obtain rfl : x72 = .pointer (some ⟨b, off + k * 2 + 1, none⟩) := h.get 11 (hw _ rfl ⟨11, .data⟩ (by simp) rfl) (.con (.pointer (some ⟨b, off + k * 2 + 1, none⟩))) (by rw [HV.out]; rfl) _ rfl
          obtain ⟨q5, e0, e1⟩ := HC.out w' (HA.out.below.trans (h.1.mono HA.out.below.size))
          refine wpOp_step rfl fun K hK => ?_
          go_simp
          exact hK _ _ ⟨x61, x62, x63, x64, x65, x66, x67, x68, x69, x70, x71, _, _, x74, x75, x76, rfl, h.same 12 _ (.con (.string s1)) (by rw [HV.out]; rfl) rfl⟩
        · refine wpOp_step rfl fun K hK => ?_
          go_simp
          exact hK _ _ ⟨x61, x62, x63, x64, x65, x66, x67, x68, x69, x70, x71, x72, x73, _, x75, x76, rfl, h.same 13 _ (.con (.string D)) (by rw [HV.out]; rfl) rfl⟩
        · obtain rfl : x67 = .string s0 := h.get 6 (hw _ rfl ⟨6, .data⟩ (by simp) rfl) (.con (.string s0)) (by rw [HV.out]; rfl) _ rfl
          obtain rfl : x73 = .string s1 := h.get 12 (hw _ rfl ⟨12, .data⟩ (by simp) rfl) (.con (.string s1)) (by rw [HV.out]; rfl) _ rfl
          obtain rfl : x74 = .string D := h.get 13 (hw _ rfl ⟨13, .data⟩ (by simp) rfl) (.con (.string D)) (by rw [HV.out]; rfl) _ rfl
          refine wpOp_step rfl fun K hK => ?_
          go_simp
          exact hK _ _ ⟨x61, x62, x63, x64, x65, x66, _, x68, x69, x70, x71, x72, _, _, _, x76, rfl, h.same 14 _ (.con (.agg #[.string s0, .string s1, .string D])) (by rw [HV.out]; rfl) rfl⟩
        · obtain rfl : x75 = .agg #[.string s0, .string s1, .string D] := h.get 14 (hw _ rfl ⟨14, .data⟩ (by simp) rfl) (.con (.agg #[.string s0, .string s1, .string D])) (by rw [HV.out]; rfl) _ rfl
          refine wpOp_step rfl fun K hK => ?_
          go_simp
          exact hK _ _ ⟨x61, x62, x63, x64, x65, x66, x67, x68, x69, x70, x71, x72, x73, x74, _, _, rfl, h.new _ 15 _ (.row wr.heap.size 1 60 #[.string s0, .string s1, .string D]) (by rw [HV.out]; rfl) (IsRow.made _ h.1.size)⟩
        · omega
      case last =>
        rintro d a' w' hall ⟨x61, x62, x63, x64, x65, x66, x67, x68, x69, x70, x71, x72, x73, x74, x75, x76, rfl, h⟩
        have hle := h.1
        obtain rfl : x61 = .slice ya k yc := h.get 0 (hall _ (by omega)) (.con (.slice ya k yc)) (by rw [HV.out]; rfl) _ rfl
        obtain ⟨b76, k76, rfl, m76⟩ := h.get 15 (hall _ (by omega)) (.row wr.heap.size 1 60 #[.string s0, .string s1, .string D]) (by rw [HV.out]; rfl) _ rfl
        have HLE := Lib.hid hle
        clear h hall hle HV
        have HAW := Lib.hid (HA.out.carry HLE.out)
        have HW1 := Lib.hid (World.news_of_block m76)
        have HONE := Lib.hid (show ∀ z : ByteArray, ∀ u ∈ Array.toList #[Value.string s0, .string s1, .string z], u.oneCell' = true from fun z => by simp [Value.oneCell'])
        have hk1 : k + 1 ≤ maxLen := by have := HNL.out.len; unfold maxLen; omega
        have hk2 : (k + 1) * 48 ≤ 140737488355328 := by have := HNL.out.len; omega
        have hk3 : w6.heap.size ≤ w'.heap.size := HAW.out.below.size
        clear k76 m76
        refine wpList_append_lies _ rfl (.tmp 61) (.tmp 76) 22 rfl w6.heap.size 60 i1 _ 3 48 Tryz.underlying22 hi1 hy0 hy1 hy2 rfl (by decide) (.slice ya k yc) k ((Y.take k).flatMap encV) rfl HAW.out.y ⟨b76, 0, none⟩ 1 1 (Array.toList #[.string s0, .string s1, .string D]) rfl rfl HW1.out (HONE.out D) (by decide) hk1 hk2 hk3 _ rfl ?_
        intro g gc w7 ho7 hg7 hat7 hlt7
        have HA7 := Lib.hid (HAW.out.step (Below.refl _ _) HYK.out ho7 hg7 hat7)
        clear ho7 hg7 hat7 hlt7 hk3
        go_wp2_with fail
        obtain ⟨V, hV⟩ : ∃ V : List MP, V = [.con (.slice na k nc), .con (.pointer (some ⟨w.heap.size, 5, none⟩)), .con (.slice (some ⟨b, off, none⟩) l.length sc), .con (.int .i64 (k : Int)), .con (.pointer (some ⟨b, off + k * 2, none⟩)), .con (.pointer (some ⟨b, off + k * 2, none⟩)), .con (.string s0), .con (.pointer (some ⟨w.heap.size, 5, none⟩)), .con (.slice (some ⟨b, off, none⟩) l.length sc), .con (.int .i64 (k : Int)), .con (.pointer (some ⟨b, off + k * 2, none⟩)), .con (.pointer (some ⟨b, off + k * 2 + 1, none⟩)), .con (.string s1), .con (.string m), .con (.agg #[.string s0, .string s1, .string m]), .row w7.heap.size 1 60 #[.string s0, .string s1, .string m]] := ⟨_, rfl⟩
        have HV := Lib.hid hV
        clear hV
        refine wp_region_inv 16 (fun d a' w' => ∃ x78 x79 x80 x81 x82 x83 x84 x85 x86 x87 x88 x89 x90 x91 x92 x93, a' = ⟨#[.agg #[.int .u8 u.kind, .int .i64 u.n, .string u.t, .slice an u.names.length cn, .slice ai u.items.length ci, .slice (some ⟨b, off, none⟩) l.length sc], .agg #[.int .i64 t, .slice ia ids.length ic], .slice ka keys.length kc, .string m, .pointer (some ⟨w.heap.size, 0, none⟩), .pointer (some ⟨w.heap.size + 1, 0, none⟩), undef, undef, .bool false, .string X, .int .i64 0, .string D, .slice (some ⟨g, 0, none⟩) (k + 1) gc, .slice na k nc, .int .i64 (k : Int), undef, undef, undef, undef, undef, undef, .agg #[.int .u8 u.kind, .int .i64 u.n, .string u.t, .slice an u.names.length cn, .slice ai u.items.length ci, .slice (some ⟨b, off, none⟩) l.length sc], .agg #[.int .i64 t, .slice ia ids.length ic], .slice ka keys.length kc, .bool false, .bool false, .string m, .int .i64 (m.size : Int), .bool (decide (300 < (m.size : Int))), .bool (decide (300 < (m.size : Int))), .bool (decide (300 < (m.size : Int))), .agg #[.int .u8 u.kind, .int .i64 u.n, .string u.t, .slice an u.names.length cn, .slice ai u.items.length ci, .slice (some ⟨b, off, none⟩) l.length sc], .bool true, .bool false, .bool (decide (300 < (m.size : Int))), .bool (decide (300 < (m.size : Int))), .agg #[.int .i64 t, .slice ia ids.length ic], .bool true, .bool false, .bool (decide (300 < (m.size : Int))), .bool (decide (300 < (m.size : Int))), .bool true, .bool false, .bool (decide (300 < (m.size : Int))), undef, .tuple #[.string X, .int .i64 0], .agg #[.int .u8 u.kind, .int .i64 u.n, .string u.t, .slice an u.names.length cn, .slice ai u.items.length ci, .slice (some ⟨b, off, none⟩) l.length sc], .tuple #[.string X, .int .i64 0], .string X, .int .i64 0, .int .i64 0, .bool false, .string X, .string D, .int .i64 (k : Int), .pointer (some ⟨w.heap.size, 5, none⟩), .slice (some ⟨b, off, none⟩) l.length sc, .int .i64 (l.length : Int), .bool true, u59, u60, .slice ya k yc, x62, x63, x64, x65, x66, x67, x68, x69, x70, x71, x72, x73, x74, x75, .slice (some ⟨b76, 0, none⟩) 1 1, .slice (some ⟨g, 0, none⟩) (k + 1) gc, x78, x79, x80, x81, x82, x83, x84, x85, x86, x87, x88, x89, x90, x91, x92, x93, u94, undef, undef, undef, undef, undef, undef, undef, undef, undef, undef, undef, undef, undef, undef, undef, undef, undef, undef, undef, undef, undef, undef, undef, undef, undef, undef, undef, undef, undef, undef, undef, undef, undef, undef, undef, undef, undef, undef, undef, undef, undef, undef, undef, undef, undef, undef, undef, undef, undef, undef, undef, undef, undef, undef, undef, undef, undef, undef, undef, undef, undef, undef, undef, undef, undef, undef, undef, undef, undef, undef, undef, undef, undef, undef, undef, undef, undef, undef, undef, undef, undef, undef, undef, undef, undef, undef], []⟩ ∧ RegI w7 V d w' [x78, x79, x80, x81, x82, x83, x84, x85, x86, x87, x88, x89, x90, x91, x92, x93]) (by kernel_rfl) (by kernel_rfl) ?first ?step ?last
        case first => exact ⟨_, _, _, _, _, _, _, _, _, _, _, _, _, _, _, _, rfl, RegI.first _ _ _ (by rw [HV.out]; rfl)⟩
        case step =>
          rintro d a' w' ⟨x78, x79, x80, x81, x82, x83, x84, x85, x86, x87, x88, x89, x90, x91, x92, x93, rfl, h⟩ q hq hn hw
          rcases q with _ | _ | _ | _ | _ | _ | _ | _ | _ | _ | _ | _ | _ | _ | _ | _ | q
          · refine wpOp_step rfl fun K hK => ?_
            go_simp
            exact hK _ _ ⟨_, x79, x80, x81, x82, x83, x84, x85, x86, x87, x88, x89, x90, x91, x92, x93, rfl, h.same 0 _ (.con (.slice na k nc)) (by rw [HV.out]; rfl) rfl⟩
          · refine wpOp_step rfl fun K hK => ?_
            go_simp
            exact hK _ _ ⟨x78, _, x80, x81, x82, x83, x84, x85, x86, x87, x88, x89, x90, x91, x92, x93, rfl, h.same 1 _ (.con (.pointer (some ⟨w.heap.size, 5, none⟩))) (by rw [HV.out]; rfl) rfl⟩
          · obtain rfl : x79 = .pointer (some ⟨w.heap.size, 5, none⟩) := h.get 1 (hw _ rfl ⟨1, .data⟩ (by simp) rfl) (.con (.pointer (some ⟨w.heap.size, 5, none⟩))) (by rw [HV.out]; rfl) _ rfl
            obtain ⟨q5, e0, e1⟩ := HC.out w' (HA7.out.below.trans (h.1.mono HA7.out.below.size))
            refine wpOp_step rfl fun K hK => ?_
            go_simp
            exact hK _ _ ⟨x78, _, _, x81, x82, x83, x84, x85, x86, x87, x88, x89, x90, x91, x92, x93, rfl, h.same 2 _ (.con (.slice (some ⟨b, off, none⟩) l.length sc)) (by rw [HV.out]; rfl) rfl⟩
          · refine wpOp_step rfl fun K hK => ?_
            go_simp
            exact hK _ _ ⟨x78, x79, x80, _, x82, x83, x84, x85, x86, x87, x88, x89, x90, x91, x92, x93, rfl, h.same 3 _ (.con (.int .i64 (k : Int))) (by rw [HV.out]; rfl) rfl⟩
          · obtain rfl : x80 = .slice (some ⟨b, off, none⟩) l.length sc := h.get 2 (hw _ rfl ⟨2, .data⟩ (by simp) rfl) (.con (.slice (some ⟨b, off, none⟩) l.length sc)) (by rw [HV.out]; rfl) _ rfl
            obtain rfl : x81 = .int .i64 (k : Int) := h.get 3 (hw _ rfl ⟨3, .data⟩ (by simp) rfl) (.con (.int .i64 (k : Int))) (by rw [HV.out]; rfl) _ rfl
            obtain ⟨q5, e0, e1⟩ := HC.out w' (HA7.out.below.trans (h.1.mono HA7.out.below.size))
            refine wpOp_step rfl fun K hK => ?_
            go_simp
            exact hK _ _ ⟨x78, x79, _, _, _, x83, x84, x85, x86, x87, x88, x89, x90, x91, x92, x93, rfl, h.same 4 _ (.con (.pointer (some ⟨b, off + k * 2, none⟩))) (by rw [HV.out]; rfl) rfl⟩
          · obtain rfl : x82 = .pointer (some ⟨b, off + k * 2, none⟩) := h.get 4 (hw _ rfl ⟨4, .data⟩ (by simp) rfl) (.con (.pointer (some ⟨b, off + k * 2, none⟩))) (by rw [HV.out]; rfl) _ rfl
            refine wpOp_step rfl fun K hK => ?_
            go_simp
            exact hK _ _ ⟨x78, x79, x80, x81, _, _, x84, x85, x86, x87, x88, x89, x90, x91, x92, x93, rfl, h.same 5 _ (.con (.pointer (some ⟨b, off + k * 2, none⟩))) (by rw [HV.out]; rfl) rfl⟩
          · obtain rfl : x83 = .pointer (some ⟨b, off + k * 2, none⟩) := h.get 5 (hw _ rfl ⟨5, .data⟩ (by simp) rfl) (.con (.pointer (some ⟨b, off + k * 2, none⟩))) (by rw [HV.out]; rfl) _ rfl
            obtain ⟨q5, e0, e1⟩ := HC.out w' (HA7.out.below.trans (h.1.mono HA7.out.below.size))
            refine wpOp_step rfl fun K hK => ?_
            go_simp
            exact hK _ _ ⟨x78, x79, x80, x81, x82, _, _, x85, x86, x87, x88, x89, x90, x91, x92, x93, rfl, h.same 6 _ (.con (.string s0)) (by rw [HV.out]; rfl) rfl⟩
          · refine wpOp_step rfl fun K hK => ?_
            go_simp
            exact hK _ _ ⟨x78, x79, x80, x81, x82, x83, x84, _, x86, x87, x88, x89, x90, x91, x92, x93, rfl, h.same 7 _ (.con (.pointer (some ⟨w.heap.size, 5, none⟩))) (by rw [HV.out]; rfl) rfl⟩
          · obtain rfl : x85 = .pointer (some ⟨w.heap.size, 5, none⟩) := h.get 7 (hw _ rfl ⟨7, .data⟩ (by simp) rfl) (.con (.pointer (some ⟨w.heap.size, 5, none⟩))) (by rw [HV.out]; rfl) _ rfl
            obtain ⟨q5, e0, e1⟩ := HC.out w' (HA7.out.below.trans (h.1.mono HA7.out.below.size))
            refine wpOp_step rfl fun K hK => ?_
            go_simp
            exact hK _ _ ⟨x78, x79, x80, x81, x82, x83, x84, _, _, x87, x88, x89, x90, x91, x92, x93, rfl, h.same 8 _ (.con (.slice (some ⟨b, off, none⟩) l.length sc)) (by rw [HV.out]; rfl) rfl⟩
          · refine wpOp_step rfl fun K hK => ?_
            go_simp
            exact hK _ _ ⟨x78, x79, x80, x81, x82, x83, x84, x85, x86, _, x88, x89, x90, x91, x92, x93, rfl, h.same 9 _ (.con (.int .i64 (k : Int))) (by rw [HV.out]; rfl) rfl⟩
          · obtain rfl : x86 = .slice (some ⟨b, off, none⟩) l.length sc := h.get 8 (hw _ rfl ⟨8, .data⟩ (by simp) rfl) (.con (.slice (some ⟨b, off, none⟩) l.length sc)) (by rw [HV.out]; rfl) _ rfl
            obtain rfl : x87 = .int .i64 (k : Int) := h.get 9 (hw _ rfl ⟨9, .data⟩ (by simp) rfl) (.con (.int .i64 (k : Int))) (by rw [HV.out]; rfl) _ rfl
            obtain ⟨q5, e0, e1⟩ := HC.out w' (HA7.out.below.trans (h.1.mono HA7.out.below.size))
            refine wpOp_step rfl fun K hK => ?_
            go_simp
            exact hK _ _ ⟨x78, x79, x80, x81, x82, x83, x84, x85, _, _, _, x89, x90, x91, x92, x93, rfl, h.same 10 _ (.con (.pointer (some ⟨b, off + k * 2, none⟩))) (by rw [HV.out]; rfl) rfl⟩
          · obtain rfl : x88 = .pointer (some ⟨b, off + k * 2, none⟩) := h.get 10 (hw _ rfl ⟨10, .data⟩ (by simp) rfl) (.con (.pointer (some ⟨b, off + k * 2, none⟩))) (by rw [HV.out]; rfl) _ rfl
            refine wpOp_step rfl fun K hK => ?_
            go_simp
            exact hK _ _ ⟨x78, x79, x80, x81, x82, x83, x84, x85, x86, x87, _, _, x90, x91, x92, x93, rfl, h.same 11 _ (.con (.pointer (some ⟨b, off + k * 2 + 1, none⟩))) (by rw [HV.out]; rfl) rfl⟩
          · obtain rfl : x89 = .pointer (some ⟨b, off + k * 2 + 1, none⟩) := h.get 11 (hw _ rfl ⟨11, .data⟩ (by simp) rfl) (.con (.pointer (some ⟨b, off + k * 2 + 1, none⟩))) (by rw [HV.out]; rfl) _ rfl
            obtain ⟨q5, e0, e1⟩ := HC.out w' (HA7.out.below.trans (h.1.mono HA7.out.below.size))
            refine wpOp_step rfl fun K hK => ?_
            go_simp
            exact hK _ _ ⟨x78, x79, x80, x81, x82, x83, x84, x85, x86, x87, x88, _, _, x91, x92, x93, rfl, h.same 12 _ (.con (.string s1)) (by rw [HV.out]; rfl) rfl⟩
          · refine wpOp_step rfl fun K hK => ?_
            go_simp
            exact hK _ _ ⟨x78, x79, x80, x81, x82, x83, x84, x85, x86, x87, x88, x89, x90, _, x92, x93, rfl, h.same 13 _ (.con (.string m)) (by rw [HV.out]; rfl) rfl⟩
          · obtain rfl : x84 = .string s0 := h.get 6 (hw _ rfl ⟨6, .data⟩ (by simp) rfl) (.con (.string s0)) (by rw [HV.out]; rfl) _ rfl
            obtain rfl : x90 = .string s1 := h.get 12 (hw _ rfl ⟨12, .data⟩ (by simp) rfl) (.con (.string s1)) (by rw [HV.out]; rfl) _ rfl
            obtain rfl : x91 = .string m := h.get 13 (hw _ rfl ⟨13, .data⟩ (by simp) rfl) (.con (.string m)) (by rw [HV.out]; rfl) _ rfl
            refine wpOp_step rfl fun K hK => ?_
            go_simp
            exact hK _ _ ⟨x78, x79, x80, x81, x82, x83, _, x85, x86, x87, x88, x89, _, _, _, x93, rfl, h.same 14 _ (.con (.agg #[.string s0, .string s1, .string m])) (by rw [HV.out]; rfl) rfl⟩
          · obtain rfl : x92 = .agg #[.string s0, .string s1, .string m] := h.get 14 (hw _ rfl ⟨14, .data⟩ (by simp) rfl) (.con (.agg #[.string s0, .string s1, .string m])) (by rw [HV.out]; rfl) _ rfl
            refine wpOp_step rfl fun K hK => ?_
            go_simp
            exact hK _ _ ⟨x78, x79, x80, x81, x82, x83, x84, x85, x86, x87, x88, x89, x90, x91, _, _, rfl, h.new _ 15 _ (.row w7.heap.size 1 60 #[.string s0, .string s1, .string m]) (by rw [HV.out]; rfl) (IsRow.made _ h.1.size)⟩
          · omega
        case last =>
          rintro d a' w' hall ⟨x78, x79, x80, x81, x82, x83, x84, x85, x86, x87, x88, x89, x90, x91, x92, x93, rfl, h⟩
          have hle := h.1
          obtain rfl : x78 = .slice na k nc := h.get 0 (hall _ (by omega)) (.con (.slice na k nc)) (by rw [HV.out]; rfl) _ rfl
          obtain ⟨b93, k93, rfl, m93⟩ := h.get 15 (hall _ (by omega)) (.row w7.heap.size 1 60 #[.string s0, .string s1, .string m]) (by rw [HV.out]; rfl) _ rfl
          have HLE := Lib.hid hle
          clear h hall hle HV
          have HAX := Lib.hid ((HA7.out.carry HLE.out).swap)
          have HW2 := Lib.hid (World.news_of_block m93)
          have hk4 : w6.heap.size ≤ w'.heap.size := HAX.out.below.size
          clear k93 m93
          refine wpList_append_lies _ rfl (.tmp 78) (.tmp 93) 22 rfl w6.heap.size 60 i1 _ 3 48 Tryz.underlying22 hi1 hy0 hy1 hy2 rfl (by decide) (.slice na k nc) k ((N.take k).flatMap encV) rfl HAX.out.y ⟨b93, 0, none⟩ 1 1 (Array.toList #[.string s0, .string s1, .string m]) rfl rfl HW2.out (HONE.out m) (by decide) hk1 hk2 hk4 _ rfl ?_
          intro gn gnc w8 ho8 hg8 hat8 hlt8
          have HA8 := Lib.hid ((HAX.out.step (Below.refl _ _) HNK.out ho8 hg8 hat8).swap)
          clear ho8 hg8 hat8 hlt8 hk4
          go_wp2
          go_roundw
          case rel => exact ⟨k + 1, by omega, by go_num, HA8.out⟩
          case measure => simp [intOf]; omega
    · have hke : k = l.length := by omega
      subst hke
      clear hlt hk
      obtain ⟨w9, rfl⟩ : ∃ w9, w9 = wr := ⟨wr, rfl⟩
      go_wp2_with fail
      go_loopw [15, 16, 17, 18, 19, 20] (fun n i _ _ _ _ wr => ∃ q : Nat, q ≤ ids.length ∧ i = .int .i64 q ∧ n = .int .i64 (((ids.take q).filter (tabP l keys)).length : Int) ∧ Below w9.heap.size w9 wr) (fun _ i _ _ _ _ _ => ids.length - (intOf i).toNat)
      case atStart => exact ⟨0, Nat.zero_le _, rfl, rfl, Below.refl _ _⟩
      case round =>
        obtain ⟨q, hq, rfl, rfl, hbel⟩ := hrel
        have HBL := Lib.hid hbel
        have HBZ := Lib.hid (HBR.out.trans (hbel.mono HBR.out.size))
        clear hbel q5
        obtain ⟨q0, q1, q2, q3, q4, q5, q6, q7⟩ := HS.out wr HBZ.out
        by_cases hlt : q < ids.length
        · obtain ⟨b, off, ha, _, hb, e0⟩ := (HI.out wr HBZ.out).strs.at q hlt
          subst ha
          obtain ⟨y, hy⟩ : ∃ y, y = ids[q] := ⟨_, rfl⟩
          rw [← hy] at e0
          have HQ := Lib.hid hy
          clear hy
          obtain ⟨nn, hnn⟩ : ∃ nn : Nat, nn = ((ids.take q).filter (tabP l keys)).length := ⟨_, rfl⟩
          have hnl : nn ≤ 500 := by rw [hnn]; have h1 := List.length_filter_le (tabP l keys) (ids.take q); have h2 := List.length_take_le q ids; have h3 := HNL.out.idlen; rw [List.length_take] at h1; omega
          have HNN := Lib.hid hnn
          rw [← hnn]
          clear hnn
          have HFD := Lib.hid (keyFind keys y ka kc wr (HI.out wr HBZ.out).rows (by have := HNL.out.keylen; omega) HNL.out.keysizes (HT.out wr HBZ.out))
          unfold KFindPost at HFD
          obtain ⟨⟨⟨f1, f2⟩, fb⟩, hf⟩ : ∃ r : Key2 × Bool, r = findK y keys := ⟨_, rfl⟩
          rw [← hf] at HFD
          have HFB := Lib.hid (show (findK y keys).2 = fb by rw [← hf])
          clear hf
          go_wp2_with fail
          refine HFD.out.mono ?_
          clear HFD
          rintro e wF ⟨rfl, hbf⟩
          have HBF := Lib.hid (HBL.out.trans ((hbf.alloc hbf.size (.cells #[.string f1, .string f2] 24)).mono HBL.out.size))
          clear hbf q0 q1 q2 q3 q4 q5 q6 q7 e0 hb
          obtain ⟨wK, hwK⟩ : ∃ wK, wK = wF.alloc (.cells #[.string f1, .string f2] 24) := ⟨_, rfl⟩
          rw [← hwK] at HBF
          have HWK := Lib.hid hwK
          clear hwK
          have HBK := Lib.hid (HBR.out.trans (HBF.out.mono HBR.out.size))
          go_wp2_with fail
          rw [← HWK.out]
          go_loopw [19, 20] (fun hv i wq => ∃ r : Nat, r ≤ l.length ∧ i = .int .i64 r ∧ hv = .bool ((l.take r).any fun s => decide (s.1 = y)) ∧ Below wK.heap.size wK wq) (fun _ i _ => l.length - (intOf i).toNat)
          case atStart => exact ⟨0, Nat.zero_le _, rfl, rfl, Below.refl _ _⟩
          case round =>
            obtain ⟨r, hr, rfl, rfl, hbel⟩ := hrel
            have HBQ := Lib.hid (HBF.out.trans (hbel.mono HBF.out.size))
            have hbk := hbel
            clear hbel
            have HBY := Lib.hid (HBR.out.trans (HBQ.out.mono HBR.out.size))
            obtain ⟨hv, hhv⟩ : ∃ hv : Bool, hv = (l.take r).any fun s => decide (s.1 = y) := ⟨_, rfl⟩
            rw [← hhv]
            have HHV := Lib.hid hhv
            clear hhv
            have HKB := Lib.hid (show Below wK.heap.size wK wr from hbk)
            clear hbk
            have hll : l.length ≤ 40 := HNL.out.len
            have hil : ids.length ≤ 500 := HNL.out.idlen
            obtain ⟨q0, q1, q2, q3, q4, q5, q6, q7⟩ := HS.out wr HBY.out
            by_cases hlr : r < l.length
            · cases hv
              case true =>
                have HNX := Lib.hid (show ((l.take (r + 1)).any fun s => decide (s.1 = y)) = true by
                  rw [List.take_succ_eq_append_getElem hlr, List.any_append, ← HHV.out]; rfl)
                clear HHV
                go_wp2_with fail
                go_quiet (fail)
                go_wp2
                go_roundw
                case rel => exact ⟨r + 1, by omega, by go_num, by rw [HNX.out], Below.drewN HKB.out _⟩
                case measure => simp [intOf]; omega
              case false =>
                obtain ⟨b2, off2, ha2, _, _, e1, _⟩ := (HI.out wr HBY.out).sigs.at r hlr
                subst ha2
                obtain ⟨b3, off3, ha3, _, _, e3⟩ := (HI.out wr HBY.out).strs.at q hlt
                obtain ⟨rfl, rfl⟩ : b = b3 ∧ off = off3 := by simpa using ha3
                rw [← HQ.out] at e3
                obtain ⟨z, hz⟩ : ∃ z, z = l[r].1 := ⟨_, rfl⟩
                rw [← hz] at e1
                have HNX := Lib.hid (show ((l.take (r + 1)).any fun s => decide (s.1 = y)) = decide (z = y) by
                  rw [List.take_succ_eq_append_getElem hlr, List.any_append, ← HHV.out, Bool.false_or, List.any_cons, List.any_nil, Bool.or_false, hz])
                have m1 : (0 : Int) ≤ (r : Int) := by omega
                have m2 : (r : Int) < (l.length : Int) := by omega
                have m3 : (0 : Int) ≤ (q : Int) := by omega
                have m4 : (q : Int) < (ids.length : Int) := by omega
                clear hz HHV ha3
                cases h1 : (z.toList == y.toList)
                · have HN0 := Lib.hid (show ((l.take (r + 1)).any fun s => decide (s.1 = y)) = false by
                    rw [HNX.out, decide_eq_false (fun e : z = y => by rw [e] at h1; simp at h1)])
                  clear HNX
                  go_wp2_with fail
                  go_quiet (fail)
                  go_wp2
                  go_roundw
                  case rel => exact ⟨r + 1, by omega, by go_num, by rw [HN0.out], Below.drewN HKB.out _⟩
                  case measure => simp [intOf]; omega
                · have HN0 := Lib.hid (show ((l.take (r + 1)).any fun s => decide (s.1 = y)) = true by
                    rw [HNX.out, decide_eq_true (show z = y from ba_ext (eq_of_beq h1))])
                  clear HNX
                  go_wp2_with fail
                  go_quiet (fail)
                  go_wp2
                  go_roundw
                  case rel => exact ⟨r + 1, by omega, by go_num, by rw [HN0.out], Below.drewN HKB.out _⟩
                  case measure => simp [intOf]; omega
            · have hre : r = l.length := by omega
              subst hre
              have HHW := Lib.hid (show tabP l keys y = (fb && hv) by unfold tabP; rw [HFB.out, HHV.out, List.take_length])
              have HFN := Lib.hid (show ((ids.take (q + 1)).filter (tabP l keys)).length = nn + (if (fb && hv) = true then 1 else 0) by
                rw [List.take_succ_eq_append_getElem hlt, List.filter_append, List.length_append, ← HNN.out, ← HQ.out, ← HHW.out]
                cases h : tabP l keys y <;> simp [h])
              have HBV := Lib.hid (show Below w9.heap.size w9 wr from HBQ.out)
              clear hlr hr HHV
              cases fb
              · go_wp2_with fail
                go_roundw
                case rel => exact ⟨q + 1, by omega, by go_num, by rw [HFN.out]; simp, HBV.out⟩
                case measure => simp [intOf]; omega
              · cases hv
                · go_wp2_with fail
                  go_roundw
                  case rel => exact ⟨q + 1, by omega, by go_num, by rw [HFN.out]; simp, HBV.out⟩
                  case measure => simp [intOf]; omega
                · go_wp2_with fail
                  go_roundw
                  case rel => exact ⟨q + 1, by omega, by go_num, by rw [HFN.out]; go_num, HBV.out⟩
                  case measure => simp [intOf]; omega
        · have hqe : q = ids.length := by omega
          subst hqe
          clear hlt hq
          obtain ⟨n, hn⟩ : ∃ n : Nat, n = ((ids.take ids.length).filter (tabP l keys)).length := ⟨_, rfl⟩
          rw [← hn]
          rw [List.take_length] at hn
          obtain ⟨wZ, rfl⟩ : ∃ wZ, wZ = wr := ⟨wr, rfl⟩
          have hml : Y.length = l.length := by rw [HY.out, List.length_map]
          have hmn : N.length = l.length := by rw [HN.out, List.length_map]
          have hll : l.length ≤ 40 := HNL.out.len
          have HY9 := Lib.hid (show TrisAt w9 0 w9.heap.size ya Y from (owns_tris (l := Y) (n := l.length) (by have h := HA.out.y; rwa [List.take_of_length_le (by omega)] at h) hml.symm).carry (Nat.zero_le _) (Nat.le_refl _) fun _ _ _ => rfl)
          have HN9 := Lib.hid (show TrisAt w9 0 w9.heap.size na N from (owns_tris (l := N) (n := l.length) (by have h := HA.out.n; rwa [List.take_of_length_le (by omega)] at h) hmn.symm).carry (Nat.zero_le _) (Nat.le_refl _) fun _ _ _ => rfl)
          have HZ9 := Lib.hid (show ∀ w' : World, Below wZ.heap.size wZ w' → Below w9.heap.size w9 w' from fun w' h => HBL.out.trans (h.mono HBL.out.size))
          have HZW := Lib.hid (show ∀ w' : World, Below wZ.heap.size wZ w' → Below W0.heap.size W0 w' from fun w' h => HBR.out.trans ((HZ9.out w' h).mono HBR.out.size))
          have HTAB := Lib.hid (show ∀ (L : List Ver3) (a : Option Addr) (c : Nat) (w' : World), TrisAt w' 0 w'.heap.size a L → L.length ≤ 60 → Calls Tryz.prog 27 #[.slice a L.length c] w' (fun e w'' => ∃ x, e = .returned x ∧ VerIs w'' x (.tab L) ∧ Below w'.heap.size w' w'') from fun L a c w' hR hl => by
            refine (judgeTable L a c w' hR hl).mono ?_
            rintro e w1 ⟨p, a', c', rfl, hp, hx, hT, hb⟩
            exact ⟨_, rfl, .inl ⟨p, a', c', rfl, hx, hl, hT.carry (Nat.zero_le _) (Nat.le_of_lt (heap_lt hx)) (fun _ _ _ => rfl)⟩, hb⟩)
          have HTY := Lib.hid (show ∀ w' : World, Below wZ.heap.size wZ w' → Calls Tryz.prog 27 #[.slice ya l.length yc] w' (fun e w'' => ∃ x, e = .returned x ∧ VerIs w'' x (.tab Y) ∧ Below w'.heap.size w' w'') from fun w' h => by
            have hc := HTAB.out Y ya yc w' (HY9.out.below (HZ9.out w' h) (Nat.le_refl _) (Nat.le_refl _) (HZ9.out w' h).size) (by omega)
            rwa [hml] at hc)
          have HTN := Lib.hid (show ∀ w' : World, Below wZ.heap.size wZ w' → Calls Tryz.prog 27 #[.slice na l.length nc] w' (fun e w'' => ∃ x, e = .returned x ∧ VerIs w'' x (.tab N) ∧ Below w'.heap.size w' w'') from fun w' h => by
            have hc := HTAB.out N na nc w' (HN9.out.below (HZ9.out w' h) (Nat.le_refl _) (Nat.le_refl _) (HZ9.out w' h).size) (by omega)
            rwa [hmn] at hc)
          have HT0 := Lib.hid (show ∀ w' : World, Below wZ.heap.size wZ w' → Calls Tryz.prog 27 #[.slice none 0 0] w' (fun e w'' => ∃ x, e = .returned x ∧ VerIs w'' x (.tab []) ∧ Below w'.heap.size w' w'') from fun w' h => HTAB.out [] none 0 w' (.inl rfl) (by simp))
          have HCNT := Lib.hid (show ∀ (L : List Ver3) (x : Value) (w' : World), Below wZ.heap.size wZ w' → VerIs w' x (.tab L) → Calls Tryz.prog 21 #[x, .agg #[.int .u8 u.kind, .int .i64 u.n, .string u.t, .slice an u.names.length cn, .slice ai u.items.length ci, .slice sa l.length sc], .agg #[.int .i64 t, .slice ia ids.length ic], .slice ka keys.length kc] w' (fun e w'' => e = .returned (.int .i64 (countV (.tab L) u l t ids keys : Nat)) ∧ Below w'.heap.size w' w'') from fun L x w' h hx => by
            have hI := HI.out w' (HZW.out w' h)
            exact judgeCount (.tab L) x u l an ai sa cn ci sc t ids ia ic keys ka kc w' hx (HNL.out.env hI) (HNL.out.auth hI) (HNL.out.row hI) HNUM.out (HP.out w' (HZW.out w' h)) (HT.out w' (HZW.out w' h)))
          have hcy : countV (.tab Y) u l t ids keys = n := by rw [HY.out, HDD.out, tab_yes HEO.out.symm HAO.out.symm, hn]; rfl
          have hc0 : countV (.tab []) u l t ids keys = 0 := tab_no fun v hv => by cases hv
          have HCNN := Lib.hid (show m ≠ D → countV (.tab N) u l t ids keys = 0 from fun h => tab_no fun v hv => by
            rw [HN.out] at hv
            obtain ⟨s, _, rfl⟩ := List.mem_map.1 hv
            rw [← HDD.out]; exact h)
          have HCY := Lib.hid (show ∀ (x : Value) (w' : World), Below wZ.heap.size wZ w' → VerIs w' x (.tab Y) → Calls Tryz.prog 21 #[x, .agg #[.int .u8 u.kind, .int .i64 u.n, .string u.t, .slice an u.names.length cn, .slice ai u.items.length ci, .slice sa l.length sc], .agg #[.int .i64 t, .slice ia ids.length ic], .slice ka keys.length kc] w' (fun e w'' => e = .returned (.int .i64 (n : Int)) ∧ Below w'.heap.size w' w'') from fun x w' h hx => by
            have hc := HCNT.out Y x w' h hx
            rwa [hcy] at hc)
          have HC0 := Lib.hid (show ∀ (x : Value) (w' : World), Below wZ.heap.size wZ w' → VerIs w' x (.tab []) → Calls Tryz.prog 21 #[x, .agg #[.int .u8 u.kind, .int .i64 u.n, .string u.t, .slice an u.names.length cn, .slice ai u.items.length ci, .slice sa l.length sc], .agg #[.int .i64 t, .slice ia ids.length ic], .slice ka keys.length kc] w' (fun e w'' => e = .returned (.int .i64 0) ∧ Below w'.heap.size w' w'') from fun x w' h hx => by
            have hc := HCNT.out [] x w' h hx
            rwa [hc0] at hc)
          have HEY := Lib.hid (show ∀ (x : Value) (w' : World), Below wZ.heap.size wZ w' → VerIs w' x (.tab Y) → Calls Tryz.prog 23 #[x, .agg #[.int .u8 u.kind, .int .i64 u.n, .string u.t, .slice an u.names.length cn, .slice ai u.items.length ci, .slice sa l.length sc], .agg #[.int .i64 t, .slice ia ids.length ic], .slice ka keys.length kc] w' (fun e w'' => e = .returned (.bool (decide (t ≤ (n : Int)))) ∧ Below w'.heap.size w' w'') from fun x w' h hx => by
            have hI := HI.out w' (HZW.out w' h)
            have hc := judgeEnough (.tab Y) x u l an ai sa cn ci sc t ids ia ic keys ka kc w' hx (HNL.out.env hI) (HNL.out.auth hI) (HNL.out.row hI) HNUM.out (HP.out w' (HZW.out w' h)) (HT.out w' (HZW.out w' h))
            rw [show enoughV (.tab Y) u l t ids keys = decide (t ≤ (n : Int)) by unfold enoughV; rw [hcy, ← HAO.out, Bool.true_and]] at hc
            exact hc)
          clear hcy hc0 hml hmn hn q0 q1 q2 q3 q4
          go_upto_region 25 with fail
          obtain ⟨V, hV⟩ : ∃ V : List MP, V = [.con (.slice ya l.length yc), MP.tab Y, .con (.agg #[.int .u8 u.kind, .int .i64 u.n, .string u.t, .slice an u.names.length cn, .slice ai u.items.length ci, .slice sa l.length sc]), .con (.agg #[.int .i64 t, .slice ia ids.length ic]), .con (.slice ka keys.length kc), .con (.int .i64 (n : Int)), .con (.int .i64 (n : Int)), .con (.bool false), .con (.bool false), .con (.slice ya l.length yc), MP.tab Y, .con (.agg #[.int .u8 u.kind, .int .i64 u.n, .string u.t, .slice an u.names.length cn, .slice ai u.items.length ci, .slice sa l.length sc]), .con (.agg #[.int .i64 t, .slice ia ids.length ic]), .con (.slice ka keys.length kc), .con (.bool (decide (t ≤ (n : Int)))), .con (.int .i64 (n : Int)), .con (.pointer (some ⟨w.heap.size + 1, 0, none⟩)), .con (.int .i64 t), .con (.bool (decide (t ≤ (n : Int)))), .con (.bool false), .con (.bool false), .con (.bool false), MP.tab [], .con (.agg #[.int .u8 u.kind, .int .i64 u.n, .string u.t, .slice an u.names.length cn, .slice ai u.items.length ci, .slice sa l.length sc]), .con (.agg #[.int .i64 t, .slice ia ids.length ic]), .con (.slice ka keys.length kc), .con (.int .i64 0), .con (.bool false)] := ⟨_, rfl⟩
          have HV := Lib.hid hV
          clear hV
          refine wp_region_inv 28 (fun d a' w' => ∃ x140 x141 x142 x143 x144 x145 x146 x147 x148 x149 x150 x151 x152 x153 x154 x155 x156 x157 x158 x159 x160 x161 x162 x163 x164 x165 x166 x167, a' = ⟨#[Value.agg #[Value.int IntKind.u8 u.kind, Value.int IntKind.i64 u.n, Value.string u.t, Value.slice an u.names.length cn, Value.slice ai u.items.length ci, Value.slice sa l.length sc], Value.agg #[Value.int IntKind.i64 t, Value.slice ia ids.length ic], Value.slice ka keys.length kc, Value.string m, Value.pointer (some { block := w.heap.size, off := 0 }), Value.pointer (some { block := w.heap.size + 1, off := 0 }), undef, undef, Value.bool false, Value.string X, Value.int IntKind.i64 0, Value.string D, Value.slice ya l.length yc, Value.slice na l.length nc, Value.int IntKind.i64 (l.length : Int), Value.int IntKind.i64 (n : Int), Value.int IntKind.i64 (ids.length : Int), u17, u18, u19, u20, Value.agg #[Value.int IntKind.u8 u.kind, Value.int IntKind.i64 u.n, Value.string u.t, Value.slice an u.names.length cn, Value.slice ai u.items.length ci, Value.slice sa l.length sc], Value.agg #[Value.int IntKind.i64 t, Value.slice ia ids.length ic], Value.slice ka keys.length kc, Value.bool false, Value.bool false, Value.string m, Value.int IntKind.i64 (m.size : Int), Value.bool (decide (300 < (m.size : Int))), Value.bool (decide (300 < (m.size : Int))), Value.bool (decide (300 < (m.size : Int))), Value.agg #[Value.int IntKind.u8 u.kind, Value.int IntKind.i64 u.n, Value.string u.t, Value.slice an u.names.length cn, Value.slice ai u.items.length ci, Value.slice sa l.length sc], Value.bool true, Value.bool false, Value.bool (decide (300 < (m.size : Int))), Value.bool (decide (300 < (m.size : Int))), Value.agg #[Value.int IntKind.i64 t, Value.slice ia ids.length ic], Value.bool true, Value.bool false, Value.bool (decide (300 < (m.size : Int))), Value.bool (decide (300 < (m.size : Int))), Value.bool true, Value.bool false, Value.bool (decide (300 < (m.size : Int))), undef, Value.tuple #[Value.string X, Value.int IntKind.i64 0], Value.agg #[Value.int IntKind.u8 u.kind, Value.int IntKind.i64 u.n, Value.string u.t, Value.slice an u.names.length cn, Value.slice ai u.items.length ci, Value.slice sa l.length sc], Value.tuple #[Value.string X, Value.int IntKind.i64 0], Value.string X, Value.int IntKind.i64 0, Value.int IntKind.i64 0, Value.bool false, Value.string X, Value.string D, Value.int IntKind.i64 (l.length : Int), Value.pointer (some { block := w.heap.size, off := 5 }), Value.slice sa l.length sc, Value.int IntKind.i64 (l.length : Int), Value.bool false, u59, u60, u61, u62, u63, u64, u65, u66, u67, u68, u69, u70, u71, u72, u73, u74, u75, u76, u77, u78, u79, u80, u81, u82, u83, u84, u85, u86, u87, u88, u89, u90, u91, u92, u93, u94, Value.int IntKind.i64 (ids.length : Int), Value.pointer (some { block := w.heap.size + 1, off := 1 }), Value.slice ia ids.length ic, Value.int IntKind.i64 (ids.length : Int), Value.bool false, u100, u101, u102, u103, u104, u105, u106, u107, u108, u109, u110, u111, u112, u113, u114, u115, u116, u117, u118, u119, u120, u121, u122, u123, u124, u125, u126, u127, u128, u129, u130, u131, u132, u133, u134, u135, u136, u137, u138, u139, x140, x141, x142, x143, x144, x145, x146, x147, x148, x149, x150, x151, x152, x153, x154, x155, x156, x157, x158, x159, x160, x161, x162, x163, x164, x165, x166, x167, undef, undef, undef, undef, undef, undef, undef, undef, undef, undef, undef, undef, undef], []⟩ ∧ RegI wZ V d w' [x140, x141, x142, x143, x144, x145, x146, x147, x148, x149, x150, x151, x152, x153, x154, x155, x156, x157, x158, x159, x160, x161, x162, x163, x164, x165, x166, x167]) (by kernel_rfl) (by kernel_rfl) ?first ?step ?last
          case first => exact ⟨_, _, _, _, _, _, _, _, _, _, _, _, _, _, _, _, _, _, _, _, _, _, _, _, _, _, _, _, rfl, RegI.first _ _ _ (by rw [HV.out]; rfl)⟩
          case step =>
            rintro d a' w' ⟨x140, x141, x142, x143, x144, x145, x146, x147, x148, x149, x150, x151, x152, x153, x154, x155, x156, x157, x158, x159, x160, x161, x162, x163, x164, x165, x166, x167, rfl, h⟩ q hq hn hw
            rcases q with _ | _ | _ | _ | _ | _ | _ | _ | _ | _ | _ | _ | _ | _ | _ | _ | _ | _ | _ | _ | _ | _ | _ | _ | _ | _ | _ | _ | q
            · refine wpOp_step rfl fun K hK => ?_
              go_simp
              exact hK _ _ ⟨_, x141, x142, x143, x144, x145, x146, x147, x148, x149, x150, x151, x152, x153, x154, x155, x156, x157, x158, x159, x160, x161, x162, x163, x164, x165, x166, x167, rfl, h.same 0 _ (.con (.slice ya l.length yc)) (by rw [HV.out]; rfl) rfl⟩
            · obtain rfl : x140 = .slice ya l.length yc := h.get 0 (hw _ rfl ⟨0, .data⟩ (by simp) rfl) (.con (.slice ya l.length yc)) (by rw [HV.out]; rfl) _ rfl
              obtain ⟨q0, q1, q2, q3, q4, q5, q6, q7⟩ := HS.out w' (HZW.out w' h.1)
              refine wpOp_step rfl fun K hK => ?_
              go_simp
              refine (HTY.out w' h.1).mono ?_
              rintro e w2 ⟨y, rfl, hy, hb2⟩
              exact hK _ _ ⟨_, _, x142, x143, x144, x145, x146, x147, x148, x149, x150, x151, x152, x153, x154, x155, x156, x157, x158, x159, x160, x161, x162, x163, x164, x165, x166, x167, rfl, h.did hb2 1 _ (MP.tab Y) (by rw [HV.out]; rfl) hy⟩
            · obtain ⟨q0, q1, q2, q3, q4, q5, q6, q7⟩ := HS.out w' (HZW.out w' h.1)
              refine wpOp_step rfl fun K hK => ?_
              go_simp
              exact hK _ _ ⟨x140, x141, _, x143, x144, x145, x146, x147, x148, x149, x150, x151, x152, x153, x154, x155, x156, x157, x158, x159, x160, x161, x162, x163, x164, x165, x166, x167, rfl, h.same 2 _ (.con (.agg #[.int .u8 u.kind, .int .i64 u.n, .string u.t, .slice an u.names.length cn, .slice ai u.items.length ci, .slice sa l.length sc])) (by rw [HV.out]; rfl) rfl⟩
            · obtain ⟨q0, q1, q2, q3, q4, q5, q6, q7⟩ := HS.out w' (HZW.out w' h.1)
              refine wpOp_step rfl fun K hK => ?_
              go_simp
              exact hK _ _ ⟨x140, x141, x142, _, x144, x145, x146, x147, x148, x149, x150, x151, x152, x153, x154, x155, x156, x157, x158, x159, x160, x161, x162, x163, x164, x165, x166, x167, rfl, h.same 3 _ (.con (.agg #[.int .i64 t, .slice ia ids.length ic])) (by rw [HV.out]; rfl) rfl⟩
            · refine wpOp_step rfl fun K hK => ?_
              go_simp
              exact hK _ _ ⟨x140, x141, x142, x143, _, x145, x146, x147, x148, x149, x150, x151, x152, x153, x154, x155, x156, x157, x158, x159, x160, x161, x162, x163, x164, x165, x166, x167, rfl, h.same 4 _ (.con (.slice ka keys.length kc)) (by rw [HV.out]; rfl) rfl⟩
            · have hs141 := h.get 1 (hw _ rfl ⟨1, .data⟩ (by simp) rfl) (MP.tab Y) (by rw [HV.out]; rfl) _ rfl
              obtain rfl : x142 = .agg #[.int .u8 u.kind, .int .i64 u.n, .string u.t, .slice an u.names.length cn, .slice ai u.items.length ci, .slice sa l.length sc] := h.get 2 (hw _ rfl ⟨2, .data⟩ (by simp) rfl) (.con (.agg #[.int .u8 u.kind, .int .i64 u.n, .string u.t, .slice an u.names.length cn, .slice ai u.items.length ci, .slice sa l.length sc])) (by rw [HV.out]; rfl) _ rfl
              obtain rfl : x143 = .agg #[.int .i64 t, .slice ia ids.length ic] := h.get 3 (hw _ rfl ⟨3, .data⟩ (by simp) rfl) (.con (.agg #[.int .i64 t, .slice ia ids.length ic])) (by rw [HV.out]; rfl) _ rfl
              obtain rfl : x144 = .slice ka keys.length kc := h.get 4 (hw _ rfl ⟨4, .data⟩ (by simp) rfl) (.con (.slice ka keys.length kc)) (by rw [HV.out]; rfl) _ rfl
              obtain ⟨q0, q1, q2, q3, q4, q5, q6, q7⟩ := HS.out w' (HZW.out w' h.1)
              refine wpOp_step rfl fun K hK => ?_
              go_simp
              refine (HCY.out _ w' h.1 hs141).mono ?_
              rintro e w2 ⟨rfl, hb2⟩
              exact hK _ _ ⟨x140, x141, _, _, _, _, x146, x147, x148, x149, x150, x151, x152, x153, x154, x155, x156, x157, x158, x159, x160, x161, x162, x163, x164, x165, x166, x167, rfl, h.did hb2 5 _ (.con (.int .i64 (n : Int))) (by rw [HV.out]; rfl) rfl⟩
            · refine wpOp_step rfl fun K hK => ?_
              go_simp
              exact hK _ _ ⟨x140, x141, x142, x143, x144, x145, _, x147, x148, x149, x150, x151, x152, x153, x154, x155, x156, x157, x158, x159, x160, x161, x162, x163, x164, x165, x166, x167, rfl, h.same 6 _ (.con (.int .i64 (n : Int))) (by rw [HV.out]; rfl) rfl⟩
            · obtain rfl : x145 = .int .i64 (n : Int) := h.get 5 (hw _ rfl ⟨5, .data⟩ (by simp) rfl) (.con (.int .i64 (n : Int))) (by rw [HV.out]; rfl) _ rfl
              obtain rfl : x146 = .int .i64 (n : Int) := h.get 6 (hw _ rfl ⟨6, .data⟩ (by simp) rfl) (.con (.int .i64 (n : Int))) (by rw [HV.out]; rfl) _ rfl
              refine wpOp_step rfl fun K hK => ?_
              go_simp
              exact hK _ _ ⟨x140, x141, x142, x143, x144, _, _, _, x148, x149, x150, x151, x152, x153, x154, x155, x156, x157, x158, x159, x160, x161, x162, x163, x164, x165, x166, x167, rfl, h.same 7 _ (.con (.bool false)) (by rw [HV.out]; rfl) rfl⟩
            · obtain rfl : x147 = .bool false := h.get 7 (hw _ rfl ⟨7, .data⟩ (by simp) rfl) (.con (.bool false)) (by rw [HV.out]; rfl) _ rfl
              refine wpOp_step rfl fun K hK => ?_
              go_simp
              exact hK _ _ ⟨x140, x141, x142, x143, x144, x145, x146, _, _, x149, x150, x151, x152, x153, x154, x155, x156, x157, x158, x159, x160, x161, x162, x163, x164, x165, x166, x167, rfl, h.same 8 _ (.con (.bool false)) (by rw [HV.out]; rfl) rfl⟩
            · obtain rfl : x148 = .bool false := h.get 8 (hw _ rfl ⟨8, .guard⟩ (by simp) rfl) (.con (.bool false)) (by rw [HV.out]; rfl) _ rfl
              refine wpOp_step rfl fun K hK => ?_
              go_simp
              exact hK _ _ ⟨x140, x141, x142, x143, x144, x145, x146, x147, _, _, x150, x151, x152, x153, x154, x155, x156, x157, x158, x159, x160, x161, x162, x163, x164, x165, x166, x167, rfl, h.same 9 _ (.con (.slice ya l.length yc)) (by rw [HV.out]; rfl) rfl⟩
            · obtain rfl : x148 = .bool false := h.get 8 (hw _ rfl ⟨8, .chain⟩ (by simp) rfl) (.con (.bool false)) (by rw [HV.out]; rfl) _ rfl
              obtain rfl : x149 = .slice ya l.length yc := h.get 9 (hw _ rfl ⟨9, .data⟩ (by simp) rfl) (.con (.slice ya l.length yc)) (by rw [HV.out]; rfl) _ rfl
              obtain ⟨q0, q1, q2, q3, q4, q5, q6, q7⟩ := HS.out w' (HZW.out w' h.1)
              refine wpOp_step rfl fun K hK => ?_
              go_simp
              refine (HTY.out w' h.1).mono ?_
              rintro e w2 ⟨y, rfl, hy, hb2⟩
              exact hK _ _ ⟨x140, x141, x142, x143, x144, x145, x146, x147, _, _, _, x151, x152, x153, x154, x155, x156, x157, x158, x159, x160, x161, x162, x163, x164, x165, x166, x167, rfl, h.did hb2 10 _ (MP.tab Y) (by rw [HV.out]; rfl) hy⟩
            · obtain rfl : x148 = .bool false := h.get 8 (hw _ rfl ⟨8, .guard⟩ (by simp) rfl) (.con (.bool false)) (by rw [HV.out]; rfl) _ rfl
              obtain ⟨q0, q1, q2, q3, q4, q5, q6, q7⟩ := HS.out w' (HZW.out w' h.1)
              refine wpOp_step rfl fun K hK => ?_
              go_simp
              exact hK _ _ ⟨x140, x141, x142, x143, x144, x145, x146, x147, _, x149, x150, _, x152, x153, x154, x155, x156, x157, x158, x159, x160, x161, x162, x163, x164, x165, x166, x167, rfl, h.same 11 _ (.con (.agg #[.int .u8 u.kind, .int .i64 u.n, .string u.t, .slice an u.names.length cn, .slice ai u.items.length ci, .slice sa l.length sc])) (by rw [HV.out]; rfl) rfl⟩
            · obtain rfl : x148 = .bool false := h.get 8 (hw _ rfl ⟨8, .guard⟩ (by simp) rfl) (.con (.bool false)) (by rw [HV.out]; rfl) _ rfl
              obtain ⟨q0, q1, q2, q3, q4, q5, q6, q7⟩ := HS.out w' (HZW.out w' h.1)
              refine wpOp_step rfl fun K hK => ?_
              go_simp
              exact hK _ _ ⟨x140, x141, x142, x143, x144, x145, x146, x147, _, x149, x150, x151, _, x153, x154, x155, x156, x157, x158, x159, x160, x161, x162, x163, x164, x165, x166, x167, rfl, h.same 12 _ (.con (.agg #[.int .i64 t, .slice ia ids.length ic])) (by rw [HV.out]; rfl) rfl⟩
            · obtain rfl : x148 = .bool false := h.get 8 (hw _ rfl ⟨8, .guard⟩ (by simp) rfl) (.con (.bool false)) (by rw [HV.out]; rfl) _ rfl
              refine wpOp_step rfl fun K hK => ?_
              go_simp
              exact hK _ _ ⟨x140, x141, x142, x143, x144, x145, x146, x147, _, x149, x150, x151, x152, _, x154, x155, x156, x157, x158, x159, x160, x161, x162, x163, x164, x165, x166, x167, rfl, h.same 13 _ (.con (.slice ka keys.length kc)) (by rw [HV.out]; rfl) rfl⟩
            · obtain rfl : x148 = .bool false := h.get 8 (hw _ rfl ⟨8, .guard⟩ (by simp) rfl) (.con (.bool false)) (by rw [HV.out]; rfl) _ rfl
              have hs150 := h.get 10 (hw _ rfl ⟨10, .data⟩ (by simp) rfl) (MP.tab Y) (by rw [HV.out]; rfl) _ rfl
              obtain rfl : x151 = .agg #[.int .u8 u.kind, .int .i64 u.n, .string u.t, .slice an u.names.length cn, .slice ai u.items.length ci, .slice sa l.length sc] := h.get 11 (hw _ rfl ⟨11, .data⟩ (by simp) rfl) (.con (.agg #[.int .u8 u.kind, .int .i64 u.n, .string u.t, .slice an u.names.length cn, .slice ai u.items.length ci, .slice sa l.length sc])) (by rw [HV.out]; rfl) _ rfl
              obtain rfl : x152 = .agg #[.int .i64 t, .slice ia ids.length ic] := h.get 12 (hw _ rfl ⟨12, .data⟩ (by simp) rfl) (.con (.agg #[.int .i64 t, .slice ia ids.length ic])) (by rw [HV.out]; rfl) _ rfl
              obtain rfl : x153 = .slice ka keys.length kc := h.get 13 (hw _ rfl ⟨13, .data⟩ (by simp) rfl) (.con (.slice ka keys.length kc)) (by rw [HV.out]; rfl) _ rfl
              obtain ⟨q0, q1, q2, q3, q4, q5, q6, q7⟩ := HS.out w' (HZW.out w' h.1)
              refine wpOp_step rfl fun K hK => ?_
              go_simp
              refine (HEY.out _ w' h.1 hs150).mono ?_
              rintro e w2 ⟨rfl, hb2⟩
              exact hK _ _ ⟨x140, x141, x142, x143, x144, x145, x146, x147, _, x149, x150, _, _, _, _, x155, x156, x157, x158, x159, x160, x161, x162, x163, x164, x165, x166, x167, rfl, h.did hb2 14 _ (.con (.bool (decide (t ≤ (n : Int))))) (by rw [HV.out]; rfl) rfl⟩
            · obtain rfl : x148 = .bool false := h.get 8 (hw _ rfl ⟨8, .guard⟩ (by simp) rfl) (.con (.bool false)) (by rw [HV.out]; rfl) _ rfl
              refine wpOp_step rfl fun K hK => ?_
              go_simp
              exact hK _ _ ⟨x140, x141, x142, x143, x144, x145, x146, x147, _, x149, x150, x151, x152, x153, x154, _, x156, x157, x158, x159, x160, x161, x162, x163, x164, x165, x166, x167, rfl, h.same 15 _ (.con (.int .i64 (n : Int))) (by rw [HV.out]; rfl) rfl⟩
            · obtain rfl : x148 = .bool false := h.get 8 (hw _ rfl ⟨8, .guard⟩ (by simp) rfl) (.con (.bool false)) (by rw [HV.out]; rfl) _ rfl
              refine wpOp_step rfl fun K hK => ?_
              go_simp
              exact hK _ _ ⟨x140, x141, x142, x143, x144, x145, x146, x147, _, x149, x150, x151, x152, x153, x154, x155, _, x157, x158, x159, x160, x161, x162, x163, x164, x165, x166, x167, rfl, h.same 16 _ (.con (.pointer (some ⟨w.heap.size + 1, 0, none⟩))) (by rw [HV.out]; rfl) rfl⟩
            · obtain rfl : x148 = .bool false := h.get 8 (hw _ rfl ⟨8, .guard⟩ (by simp) rfl) (.con (.bool false)) (by rw [HV.out]; rfl) _ rfl
              obtain rfl : x156 = .pointer (some ⟨w.heap.size + 1, 0, none⟩) := h.get 16 (hw _ rfl ⟨16, .data⟩ (by simp) rfl) (.con (.pointer (some ⟨w.heap.size + 1, 0, none⟩))) (by rw [HV.out]; rfl) _ rfl
              obtain ⟨q0, q1, q2, q3, q4, q5, q6, q7⟩ := HS.out w' (HZW.out w' h.1)
              refine wpOp_step rfl fun K hK => ?_
              go_simp
              exact hK _ _ ⟨x140, x141, x142, x143, x144, x145, x146, x147, _, x149, x150, x151, x152, x153, x154, x155, _, _, x158, x159, x160, x161, x162, x163, x164, x165, x166, x167, rfl, h.same 17 _ (.con (.int .i64 t)) (by rw [HV.out]; rfl) rfl⟩
            · obtain rfl : x148 = .bool false := h.get 8 (hw _ rfl ⟨8, .guard⟩ (by simp) rfl) (.con (.bool false)) (by rw [HV.out]; rfl) _ rfl
              obtain rfl : x155 = .int .i64 (n : Int) := h.get 15 (hw _ rfl ⟨15, .data⟩ (by simp) rfl) (.con (.int .i64 (n : Int))) (by rw [HV.out]; rfl) _ rfl
              obtain rfl : x157 = .int .i64 t := h.get 17 (hw _ rfl ⟨17, .data⟩ (by simp) rfl) (.con (.int .i64 t)) (by rw [HV.out]; rfl) _ rfl
              refine wpOp_step rfl fun K hK => ?_
              go_simp
              exact hK _ _ ⟨x140, x141, x142, x143, x144, x145, x146, x147, _, x149, x150, x151, x152, x153, x154, _, x156, _, _, x159, x160, x161, x162, x163, x164, x165, x166, x167, rfl, h.same 18 _ (.con (.bool (decide (t ≤ (n : Int))))) (by rw [HV.out]; rfl) rfl⟩
            · obtain rfl : x148 = .bool false := h.get 8 (hw _ rfl ⟨8, .guard⟩ (by simp) rfl) (.con (.bool false)) (by rw [HV.out]; rfl) _ rfl
              obtain rfl : x154 = .bool (decide (t ≤ (n : Int))) := h.get 14 (hw _ rfl ⟨14, .data⟩ (by simp) rfl) (.con (.bool (decide (t ≤ (n : Int))))) (by rw [HV.out]; rfl) _ rfl
              obtain rfl : x158 = .bool (decide (t ≤ (n : Int))) := h.get 18 (hw _ rfl ⟨18, .data⟩ (by simp) rfl) (.con (.bool (decide (t ≤ (n : Int))))) (by rw [HV.out]; rfl) _ rfl
              refine wpOp_step rfl fun K hK => ?_
              go_simp
              exact hK _ _ ⟨x140, x141, x142, x143, x144, x145, x146, x147, _, x149, x150, x151, x152, x153, _, x155, x156, x157, _, _, x160, x161, x162, x163, x164, x165, x166, x167, rfl, h.same 19 _ (.con (.bool false)) (by rw [HV.out]; rfl) rfl⟩
            · obtain rfl : x148 = .bool false := h.get 8 (hw _ rfl ⟨8, .data⟩ (by simp) rfl) (.con (.bool false)) (by rw [HV.out]; rfl) _ rfl
              obtain rfl : x159 = .bool false := h.get 19 (hw _ rfl ⟨19, .data⟩ (by simp) rfl) (.con (.bool false)) (by rw [HV.out]; rfl) _ rfl
              refine wpOp_step rfl fun K hK => ?_
              go_simp
              exact hK _ _ ⟨x140, x141, x142, x143, x144, x145, x146, x147, _, x149, x150, x151, x152, x153, x154, x155, x156, x157, x158, _, _, x161, x162, x163, x164, x165, x166, x167, rfl, h.same 20 _ (.con (.bool false)) (by rw [HV.out]; rfl) rfl⟩
            · obtain rfl : x160 = .bool false := h.get 20 (hw _ rfl ⟨20, .data⟩ (by simp) rfl) (.con (.bool false)) (by rw [HV.out]; rfl) _ rfl
              refine wpOp_step rfl fun K hK => ?_
              go_simp
              exact hK _ _ ⟨x140, x141, x142, x143, x144, x145, x146, x147, x148, x149, x150, x151, x152, x153, x154, x155, x156, x157, x158, x159, _, _, x162, x163, x164, x165, x166, x167, rfl, h.same 21 _ (.con (.bool false)) (by rw [HV.out]; rfl) rfl⟩
            · obtain rfl : x161 = .bool false := h.get 21 (hw _ rfl ⟨21, .chain⟩ (by simp) rfl) (.con (.bool false)) (by rw [HV.out]; rfl) _ rfl
              obtain ⟨q0, q1, q2, q3, q4, q5, q6, q7⟩ := HS.out w' (HZW.out w' h.1)
              refine wpOp_step rfl fun K hK => ?_
              go_simp
              refine (HT0.out w' h.1).mono ?_
              rintro e w2 ⟨y, rfl, hy, hb2⟩
              exact hK _ _ ⟨x140, x141, x142, x143, x144, x145, x146, x147, x148, x149, x150, x151, x152, x153, x154, x155, x156, x157, x158, x159, x160, _, _, x163, x164, x165, x166, x167, rfl, h.did hb2 22 _ (MP.tab []) (by rw [HV.out]; rfl) hy⟩
            · obtain rfl : x161 = .bool false := h.get 21 (hw _ rfl ⟨21, .guard⟩ (by simp) rfl) (.con (.bool false)) (by rw [HV.out]; rfl) _ rfl
              obtain ⟨q0, q1, q2, q3, q4, q5, q6, q7⟩ := HS.out w' (HZW.out w' h.1)
              refine wpOp_step rfl fun K hK => ?_
              go_simp
              exact hK _ _ ⟨x140, x141, x142, x143, x144, x145, x146, x147, x148, x149, x150, x151, x152, x153, x154, x155, x156, x157, x158, x159, x160, _, x162, _, x164, x165, x166, x167, rfl, h.same 23 _ (.con (.agg #[.int .u8 u.kind, .int .i64 u.n, .string u.t, .slice an u.names.length cn, .slice ai u.items.length ci, .slice sa l.length sc])) (by rw [HV.out]; rfl) rfl⟩
            · obtain rfl : x161 = .bool false := h.get 21 (hw _ rfl ⟨21, .guard⟩ (by simp) rfl) (.con (.bool false)) (by rw [HV.out]; rfl) _ rfl
              obtain ⟨q0, q1, q2, q3, q4, q5, q6, q7⟩ := HS.out w' (HZW.out w' h.1)
              refine wpOp_step rfl fun K hK => ?_
              go_simp
              exact hK _ _ ⟨x140, x141, x142, x143, x144, x145, x146, x147, x148, x149, x150, x151, x152, x153, x154, x155, x156, x157, x158, x159, x160, _, x162, x163, _, x165, x166, x167, rfl, h.same 24 _ (.con (.agg #[.int .i64 t, .slice ia ids.length ic])) (by rw [HV.out]; rfl) rfl⟩
            · obtain rfl : x161 = .bool false := h.get 21 (hw _ rfl ⟨21, .guard⟩ (by simp) rfl) (.con (.bool false)) (by rw [HV.out]; rfl) _ rfl
              refine wpOp_step rfl fun K hK => ?_
              go_simp
              exact hK _ _ ⟨x140, x141, x142, x143, x144, x145, x146, x147, x148, x149, x150, x151, x152, x153, x154, x155, x156, x157, x158, x159, x160, _, x162, x163, x164, _, x166, x167, rfl, h.same 25 _ (.con (.slice ka keys.length kc)) (by rw [HV.out]; rfl) rfl⟩
            · obtain rfl : x161 = .bool false := h.get 21 (hw _ rfl ⟨21, .guard⟩ (by simp) rfl) (.con (.bool false)) (by rw [HV.out]; rfl) _ rfl
              have hs162 := h.get 22 (hw _ rfl ⟨22, .data⟩ (by simp) rfl) (MP.tab []) (by rw [HV.out]; rfl) _ rfl
              obtain rfl : x163 = .agg #[.int .u8 u.kind, .int .i64 u.n, .string u.t, .slice an u.names.length cn, .slice ai u.items.length ci, .slice sa l.length sc] := h.get 23 (hw _ rfl ⟨23, .data⟩ (by simp) rfl) (.con (.agg #[.int .u8 u.kind, .int .i64 u.n, .string u.t, .slice an u.names.length cn, .slice ai u.items.length ci, .slice sa l.length sc])) (by rw [HV.out]; rfl) _ rfl
              obtain rfl : x164 = .agg #[.int .i64 t, .slice ia ids.length ic] := h.get 24 (hw _ rfl ⟨24, .data⟩ (by simp) rfl) (.con (.agg #[.int .i64 t, .slice ia ids.length ic])) (by rw [HV.out]; rfl) _ rfl
              obtain rfl : x165 = .slice ka keys.length kc := h.get 25 (hw _ rfl ⟨25, .data⟩ (by simp) rfl) (.con (.slice ka keys.length kc)) (by rw [HV.out]; rfl) _ rfl
              obtain ⟨q0, q1, q2, q3, q4, q5, q6, q7⟩ := HS.out w' (HZW.out w' h.1)
              refine wpOp_step rfl fun K hK => ?_
              go_simp
              refine (HC0.out _ w' h.1 hs162).mono ?_
              rintro e w2 ⟨rfl, hb2⟩
              exact hK _ _ ⟨x140, x141, x142, x143, x144, x145, x146, x147, x148, x149, x150, x151, x152, x153, x154, x155, x156, x157, x158, x159, x160, _, x162, _, _, _, _, x167, rfl, h.did hb2 26 _ (.con (.int .i64 0)) (by rw [HV.out]; rfl) rfl⟩
            · obtain rfl : x161 = .bool false := h.get 21 (hw _ rfl ⟨21, .guard⟩ (by simp) rfl) (.con (.bool false)) (by rw [HV.out]; rfl) _ rfl
              obtain rfl : x166 = .int .i64 0 := h.get 26 (hw _ rfl ⟨26, .data⟩ (by simp) rfl) (.con (.int .i64 0)) (by rw [HV.out]; rfl) _ rfl
              refine wpOp_step rfl fun K hK => ?_
              go_simp
              exact hK _ _ ⟨x140, x141, x142, x143, x144, x145, x146, x147, x148, x149, x150, x151, x152, x153, x154, x155, x156, x157, x158, x159, x160, _, x162, x163, x164, x165, _, _, rfl, h.same 27 _ (.con (.bool false)) (by rw [HV.out]; rfl) rfl⟩
            · omega
          case last =>
            rintro d a' w' hall ⟨x140, x141, x142, x143, x144, x145, x146, x147, x148, x149, x150, x151, x152, x153, x154, x155, x156, x157, x158, x159, x160, x161, x162, x163, x164, x165, x166, x167, rfl, h⟩
            have hle := h.1
            obtain rfl : x161 = .bool false := h.get 21 (hall _ (by omega)) (.con (.bool false)) (by rw [HV.out]; rfl) _ rfl
            obtain rfl : x167 = .bool false := h.get 27 (hall _ (by omega)) (.con (.bool false)) (by rw [HV.out]; rfl) _ rfl
            have HLE := Lib.hid hle
            clear h hall hle HV
            obtain ⟨wV, rfl⟩ : ∃ wV, wV = w' := ⟨w', rfl⟩
            have HVZ := Lib.hid (show ∀ w' : World, Below wV.heap.size wV w' → Below wZ.heap.size wZ w' from fun w' h => HLE.out.trans (h.mono HLE.out.size))
            have HVW := Lib.hid (show ∀ w' : World, Below wV.heap.size wV w' → Below W0.heap.size W0 w' from fun w' h => HZW.out w' (HVZ.out w' h))
            clear q5 q6 q7
            cases h1 : (m.toList == D.toList)
            · have HCX := Lib.hid (show ∀ (x : Value) (w' : World), Below wZ.heap.size wZ w' → VerIs w' x (.tab N) → Calls Tryz.prog 21 #[x, .agg #[.int .u8 u.kind, .int .i64 u.n, .string u.t, .slice an u.names.length cn, .slice ai u.items.length ci, .slice sa l.length sc], .agg #[.int .i64 t, .slice ia ids.length ic], .slice ka keys.length kc] w' (fun e w'' => e = .returned (.int .i64 0) ∧ Below w'.heap.size w' w'') from fun x w' h hx => by
                have hc := HCNT.out N x w' h hx
                rwa [HCNN.out (fun e => by rw [e] at h1; simp at h1)] at hc)
              go_upto_region 27 with fail
              obtain ⟨V, hV⟩ : ∃ V : List MP, V = [.con (.string m), .con (.string D), .con (.bool false), .con (.bool false), .con (.slice na l.length nc), MP.tab N, .con (.agg #[.int .u8 u.kind, .int .i64 u.n, .string u.t, .slice an u.names.length cn, .slice ai u.items.length ci, .slice sa l.length sc]), .con (.agg #[.int .i64 t, .slice ia ids.length ic]), .con (.slice ka keys.length kc), .con (.int .i64 0), .con (.bool true), .con (.bool true)] := ⟨_, rfl⟩
              have HV := Lib.hid hV
              clear hV
              refine wp_region_inv 12 (fun d a' w' => ∃ x169 x170 x171 x172 x173 x174 x175 x176 x177 x178 x179 x180, a' = ⟨#[Value.agg #[Value.int IntKind.u8 u.kind, Value.int IntKind.i64 u.n, Value.string u.t, Value.slice an u.names.length cn, Value.slice ai u.items.length ci, Value.slice sa l.length sc], Value.agg #[Value.int IntKind.i64 t, Value.slice ia ids.length ic], Value.slice ka keys.length kc, Value.string m, Value.pointer (some { block := w.heap.size, off := 0 }), Value.pointer (some { block := w.heap.size + 1, off := 0 }), undef, undef, Value.bool false, Value.string X, Value.int IntKind.i64 0, Value.string D, Value.slice ya l.length yc, Value.slice na l.length nc, Value.int IntKind.i64 (l.length : Int), Value.int IntKind.i64 (n : Int), Value.int IntKind.i64 (ids.length : Int), u17, u18, u19, u20, Value.agg #[Value.int IntKind.u8 u.kind, Value.int IntKind.i64 u.n, Value.string u.t, Value.slice an u.names.length cn, Value.slice ai u.items.length ci, Value.slice sa l.length sc], Value.agg #[Value.int IntKind.i64 t, Value.slice ia ids.length ic], Value.slice ka keys.length kc, Value.bool false, Value.bool false, Value.string m, Value.int IntKind.i64 (m.size : Int), Value.bool (decide (300 < (m.size : Int))), Value.bool (decide (300 < (m.size : Int))), Value.bool (decide (300 < (m.size : Int))), Value.agg #[Value.int IntKind.u8 u.kind, Value.int IntKind.i64 u.n, Value.string u.t, Value.slice an u.names.length cn, Value.slice ai u.items.length ci, Value.slice sa l.length sc], Value.bool true, Value.bool false, Value.bool (decide (300 < (m.size : Int))), Value.bool (decide (300 < (m.size : Int))), Value.agg #[Value.int IntKind.i64 t, Value.slice ia ids.length ic], Value.bool true, Value.bool false, Value.bool (decide (300 < (m.size : Int))), Value.bool (decide (300 < (m.size : Int))), Value.bool true, Value.bool false, Value.bool (decide (300 < (m.size : Int))), undef, Value.tuple #[Value.string X, Value.int IntKind.i64 0], Value.agg #[Value.int IntKind.u8 u.kind, Value.int IntKind.i64 u.n, Value.string u.t, Value.slice an u.names.length cn, Value.slice ai u.items.length ci, Value.slice sa l.length sc], Value.tuple #[Value.string X, Value.int IntKind.i64 0], Value.string X, Value.int IntKind.i64 0, Value.int IntKind.i64 0, Value.bool false, Value.string X, Value.string D, Value.int IntKind.i64 (l.length : Int), Value.pointer (some { block := w.heap.size, off := 5 }), Value.slice sa l.length sc, Value.int IntKind.i64 (l.length : Int), Value.bool false, u59, u60, u61, u62, u63, u64, u65, u66, u67, u68, u69, u70, u71, u72, u73, u74, u75, u76, u77, u78, u79, u80, u81, u82, u83, u84, u85, u86, u87, u88, u89, u90, u91, u92, u93, u94, Value.int IntKind.i64 (ids.length : Int), Value.pointer (some { block := w.heap.size + 1, off := 1 }), Value.slice ia ids.length ic, Value.int IntKind.i64 (ids.length : Int), Value.bool false, u100, u101, u102, u103, u104, u105, u106, u107, u108, u109, u110, u111, u112, u113, u114, u115, u116, u117, u118, u119, u120, u121, u122, u123, u124, u125, u126, u127, u128, u129, u130, u131, u132, u133, u134, u135, u136, u137, u138, u139, x140, x141, x142, x143, x144, x145, x146, x147, x148, x149, x150, x151, x152, x153, x154, x155, x156, x157, x158, x159, x160, Value.bool false, x162, x163, x164, x165, x166, Value.bool false, Value.bool false, x169, x170, x171, x172, x173, x174, x175, x176, x177, x178, x179, x180], []⟩ ∧ RegI wV V d w' [x169, x170, x171, x172, x173, x174, x175, x176, x177, x178, x179, x180]) (by kernel_rfl) (by kernel_rfl) ?first ?step ?last
              case first => exact ⟨_, _, _, _, _, _, _, _, _, _, _, _, rfl, RegI.first _ _ _ (by rw [HV.out]; rfl)⟩
              case step =>
                rintro d a' w' ⟨x169, x170, x171, x172, x173, x174, x175, x176, x177, x178, x179, x180, rfl, h⟩ q hq hn hw
                rcases q with _ | _ | _ | _ | _ | _ | _ | _ | _ | _ | _ | _ | q
                · refine wpOp_step rfl fun K hK => ?_
                  go_simp
                  exact hK _ _ ⟨_, x170, x171, x172, x173, x174, x175, x176, x177, x178, x179, x180, rfl, h.same 0 _ (.con (.string m)) (by rw [HV.out]; rfl) rfl⟩
                · refine wpOp_step rfl fun K hK => ?_
                  go_simp
                  exact hK _ _ ⟨x169, _, x171, x172, x173, x174, x175, x176, x177, x178, x179, x180, rfl, h.same 1 _ (.con (.string D)) (by rw [HV.out]; rfl) rfl⟩
                · obtain rfl : x169 = .string m := h.get 0 (hw _ rfl ⟨0, .data⟩ (by simp) rfl) (.con (.string m)) (by rw [HV.out]; rfl) _ rfl
                  obtain rfl : x170 = .string D := h.get 1 (hw _ rfl ⟨1, .data⟩ (by simp) rfl) (.con (.string D)) (by rw [HV.out]; rfl) _ rfl
                  refine wpOp_step rfl fun K hK => ?_
                  go_simp
                  exact hK _ _ ⟨_, _, _, x172, x173, x174, x175, x176, x177, x178, x179, x180, rfl, h.same 2 _ (.con (.bool false)) (by rw [HV.out]; rfl) rfl⟩
                · obtain rfl : x171 = .bool false := h.get 2 (hw _ rfl ⟨2, .data⟩ (by simp) rfl) (.con (.bool false)) (by rw [HV.out]; rfl) _ rfl
                  refine wpOp_step rfl fun K hK => ?_
                  go_simp
                  exact hK _ _ ⟨x169, x170, _, _, x173, x174, x175, x176, x177, x178, x179, x180, rfl, h.same 3 _ (.con (.bool false)) (by rw [HV.out]; rfl) rfl⟩
                · obtain rfl : x172 = .bool false := h.get 3 (hw _ rfl ⟨3, .guard⟩ (by simp) rfl) (.con (.bool false)) (by rw [HV.out]; rfl) _ rfl
                  refine wpOp_step rfl fun K hK => ?_
                  go_simp
                  exact hK _ _ ⟨x169, x170, x171, _, _, x174, x175, x176, x177, x178, x179, x180, rfl, h.same 4 _ (.con (.slice na l.length nc)) (by rw [HV.out]; rfl) rfl⟩
                · obtain rfl : x172 = .bool false := h.get 3 (hw _ rfl ⟨3, .chain⟩ (by simp) rfl) (.con (.bool false)) (by rw [HV.out]; rfl) _ rfl
                  obtain rfl : x173 = .slice na l.length nc := h.get 4 (hw _ rfl ⟨4, .data⟩ (by simp) rfl) (.con (.slice na l.length nc)) (by rw [HV.out]; rfl) _ rfl
                  obtain ⟨q0, q1, q2, q3, q4, q5, q6, q7⟩ := HS.out w' (HVW.out w' h.1)
                  refine wpOp_step rfl fun K hK => ?_
                  go_simp
                  refine (HTN.out w' (HVZ.out w' h.1)).mono ?_
                  rintro e w2 ⟨y, rfl, hy, hb2⟩
                  exact hK _ _ ⟨x169, x170, x171, _, _, _, x175, x176, x177, x178, x179, x180, rfl, h.did hb2 5 _ (MP.tab N) (by rw [HV.out]; rfl) hy⟩
                · obtain rfl : x172 = .bool false := h.get 3 (hw _ rfl ⟨3, .guard⟩ (by simp) rfl) (.con (.bool false)) (by rw [HV.out]; rfl) _ rfl
                  obtain ⟨q0, q1, q2, q3, q4, q5, q6, q7⟩ := HS.out w' (HVW.out w' h.1)
                  refine wpOp_step rfl fun K hK => ?_
                  go_simp
                  exact hK _ _ ⟨x169, x170, x171, _, x173, x174, _, x176, x177, x178, x179, x180, rfl, h.same 6 _ (.con (.agg #[.int .u8 u.kind, .int .i64 u.n, .string u.t, .slice an u.names.length cn, .slice ai u.items.length ci, .slice sa l.length sc])) (by rw [HV.out]; rfl) rfl⟩
                · obtain rfl : x172 = .bool false := h.get 3 (hw _ rfl ⟨3, .guard⟩ (by simp) rfl) (.con (.bool false)) (by rw [HV.out]; rfl) _ rfl
                  obtain ⟨q0, q1, q2, q3, q4, q5, q6, q7⟩ := HS.out w' (HVW.out w' h.1)
                  refine wpOp_step rfl fun K hK => ?_
                  go_simp
                  exact hK _ _ ⟨x169, x170, x171, _, x173, x174, x175, _, x177, x178, x179, x180, rfl, h.same 7 _ (.con (.agg #[.int .i64 t, .slice ia ids.length ic])) (by rw [HV.out]; rfl) rfl⟩
                · obtain rfl : x172 = .bool false := h.get 3 (hw _ rfl ⟨3, .guard⟩ (by simp) rfl) (.con (.bool false)) (by rw [HV.out]; rfl) _ rfl
                  refine wpOp_step rfl fun K hK => ?_
                  go_simp
                  exact hK _ _ ⟨x169, x170, x171, _, x173, x174, x175, x176, _, x178, x179, x180, rfl, h.same 8 _ (.con (.slice ka keys.length kc)) (by rw [HV.out]; rfl) rfl⟩
                · obtain rfl : x172 = .bool false := h.get 3 (hw _ rfl ⟨3, .guard⟩ (by simp) rfl) (.con (.bool false)) (by rw [HV.out]; rfl) _ rfl
                  have hs174 := h.get 5 (hw _ rfl ⟨5, .data⟩ (by simp) rfl) (MP.tab N) (by rw [HV.out]; rfl) _ rfl
                  obtain rfl : x175 = .agg #[.int .u8 u.kind, .int .i64 u.n, .string u.t, .slice an u.names.length cn, .slice ai u.items.length ci, .slice sa l.length sc] := h.get 6 (hw _ rfl ⟨6, .data⟩ (by simp) rfl) (.con (.agg #[.int .u8 u.kind, .int .i64 u.n, .string u.t, .slice an u.names.length cn, .slice ai u.items.length ci, .slice sa l.length sc])) (by rw [HV.out]; rfl) _ rfl
                  obtain rfl : x176 = .agg #[.int .i64 t, .slice ia ids.length ic] := h.get 7 (hw _ rfl ⟨7, .data⟩ (by simp) rfl) (.con (.agg #[.int .i64 t, .slice ia ids.length ic])) (by rw [HV.out]; rfl) _ rfl
                  obtain rfl : x177 = .slice ka keys.length kc := h.get 8 (hw _ rfl ⟨8, .data⟩ (by simp) rfl) (.con (.slice ka keys.length kc)) (by rw [HV.out]; rfl) _ rfl
                  obtain ⟨q0, q1, q2, q3, q4, q5, q6, q7⟩ := HS.out w' (HVW.out w' h.1)
                  refine wpOp_step rfl fun K hK => ?_
                  go_simp
                  refine (HCX.out _ w' (HVZ.out w' h.1) hs174).mono ?_
                  rintro e w2 ⟨rfl, hb2⟩
                  exact hK _ _ ⟨x169, x170, x171, _, x173, x174, _, _, _, _, x179, x180, rfl, h.did hb2 9 _ (.con (.int .i64 0)) (by rw [HV.out]; rfl) rfl⟩
                · obtain rfl : x172 = .bool false := h.get 3 (hw _ rfl ⟨3, .guard⟩ (by simp) rfl) (.con (.bool false)) (by rw [HV.out]; rfl) _ rfl
                  obtain rfl : x178 = .int .i64 0 := h.get 9 (hw _ rfl ⟨9, .data⟩ (by simp) rfl) (.con (.int .i64 0)) (by rw [HV.out]; rfl) _ rfl
                  refine wpOp_step rfl fun K hK => ?_
                  go_simp
                  exact hK _ _ ⟨x169, x170, x171, _, x173, x174, x175, x176, x177, _, _, x180, rfl, h.same 10 _ (.con (.bool true)) (by rw [HV.out]; rfl) rfl⟩
                · obtain rfl : x172 = .bool false := h.get 3 (hw _ rfl ⟨3, .data⟩ (by simp) rfl) (.con (.bool false)) (by rw [HV.out]; rfl) _ rfl
                  obtain rfl : x179 = .bool true := h.get 10 (hw _ rfl ⟨10, .data⟩ (by simp) rfl) (.con (.bool true)) (by rw [HV.out]; rfl) _ rfl
                  refine wpOp_step rfl fun K hK => ?_
                  go_simp
                  exact hK _ _ ⟨x169, x170, x171, _, x173, x174, x175, x176, x177, x178, _, _, rfl, h.same 11 _ (.con (.bool true)) (by rw [HV.out]; rfl) rfl⟩
                · omega
              case last =>
                rintro d a' w' hall ⟨x169, x170, x171, x172, x173, x174, x175, x176, x177, x178, x179, x180, rfl, h⟩
                have hle := h.1
                obtain rfl : x180 = .bool true := h.get 11 (hall _ (by omega)) (.con (.bool true)) (by rw [HV.out]; rfl) _ rfl
                have HLE := Lib.hid hle
                clear h hall hle HV
                have HBF2 := Lib.hid (HVW.out _ HLE.out)
                go_wp2
                go_ret
                exact ⟨by simp, HBT.out _ HBF2.out⟩
            · go_wp2_with fail
              go_quiet (fail)
              go_wp2
              go_ret
              exact ⟨by simp, HBT.out _ (Below.drewN (HVW.out _ (Below.refl _ _)) _)⟩

end Go.Proofs.YtaekmmnpdbmoeaaGreatDoor
