/- The contracts of legateref17.Count and Enough. Printed by genref17c.py. -/
import Derived.Test.YtaekmmnpdbmoeaaGreatDoorJk04
import Derived.Test.YtaekmmnpdbmoeaaGreatDoorJk08
import Derived.Test.YtaekmmnpdbmoeaaGreatDoorJh28

namespace Go.Proofs.YtaekmmnpdbmoeaaGreatDoor
open Go.RowKit
theorem vq9 {V l : List MP} (h : Hid (V = l)) {j : Nat} {f : MP} (e : l[j]? = some f) : V[j]? = some f := by rw [h.out]; exact e
end Go.Proofs.YtaekmmnpdbmoeaaGreatDoor

namespace Go.Proofs.YtaekmmnpdbmoeaaGreatDoor
open Go.RowKit

theorem any_snoc {l : List Sig2} {P : Sig2 → Bool} (j : Nat) (h : j < l.length) : (l.take (j + 1)).any P = ((l.take j).any P || P l[j]) := by
 rw [List.take_succ_eq_append_getElem h, List.any_append]; simp
theorem any_stop {l : List Sig2} {P : Sig2 → Bool} {j : Nat} (h : (l.take j).any P = true) : l.any P = true := by
 rw [List.any_eq_true] at h ⊢
 obtain ⟨x, hx, hp⟩ := h
 exact ⟨x, List.mem_of_mem_take hx, hp⟩

set_option maxHeartbeats 4000000 in
set_option maxRecDepth 100000 in
theorem ref17Count (v : Ver) (x : Value) (u : JV) (l : List Sig2) (an ai sa : Option Addr) (cn ci sc : Nat) (t : Int) (ids : List ByteArray) (ia : Option Addr) (ic : Nat) (keys : List Key2) (ka : Option Addr) (kc : Nat) (w : World)
   (hV : RVer w x v) (hE : EnvAt w u l an ai sa cn ci) (hA : AuthAt w ids ia) (hK : KeyRow w keys ka) (hn : u.num) :
   Calls Tryz.prog 22 #[x, envV u an ai cn ci sa l.length sc, .agg #[.int .i64 t, .slice ia ids.length ic], .slice ka keys.length kc] w fun e w' => e = .returned (.int .i64 (countV v u l t ids keys)) ∧ Below w.heap.size w w' := by
 obtain ⟨W, hW⟩ : ∃ W, W = (w.alloc (.cells #[.int .u8 u.kind, .int .i64 u.n, .string u.t, .slice an u.names.length cn, .slice ai u.items.length ci, .slice sa l.length sc] 47)).alloc (.cells #[.int .i64 t, .slice ia ids.length ic] 49) := ⟨_, rfl⟩
 have HBW := Lib.hid (show Below w.heap.size w W by rw [hW]; exact below_n2 w _ _)
 have hx0 : W.heap[w.heap.size]? = some (.cells #[.int .u8 u.kind, .int .i64 u.n, .string u.t, .slice an u.names.length cn, .slice ai u.items.length ci, .slice sa l.length sc] 47 (0, 0)) := by
   rw [hW, Below.heap_alloc _ _ _ (by simp)]; exact heap_alloc_new w _
 have hx1 : W.heap[w.heap.size + 1]? = some (.cells #[.int .i64 t, .slice ia ids.length ic] 49 (0, 0)) := by
   rw [hW]
   have := heap_alloc_new (w.alloc (.cells #[.int .u8 u.kind, .int .i64 u.n, .string u.t, .slice an u.names.length cn, .slice ai u.items.length ci, .slice sa l.length sc] 47)) (.cells #[.int .i64 t, .slice ia ids.length ic] 49)
   simpa using this
 have HS := Lib.hid (show ∀ w' : World, Below W.heap.size W w' → w'.cell? ⟨w.heap.size, 0, none⟩ = some (.int .u8 u.kind) ∧ w'.cell? ⟨w.heap.size, 1, none⟩ = some (.int .i64 u.n) ∧ w'.cell? ⟨w.heap.size, 2, none⟩ = some (.string u.t) ∧ w'.cell? ⟨w.heap.size, 3, none⟩ = some (.slice an u.names.length cn) ∧ w'.cell? ⟨w.heap.size, 4, none⟩ = some (.slice ai u.items.length ci) ∧ w'.cell? ⟨w.heap.size, 5, none⟩ = some (.slice sa l.length sc) ∧
     w'.cell? ⟨w.heap.size + 1, 0, none⟩ = some (.int .i64 t) ∧ w'.cell? ⟨w.heap.size + 1, 1, none⟩ = some (.slice ia ids.length ic) from fun w' h => by
   have y0 := (h.block _ (heap_lt hx0)).trans hx0
   have y1 := (h.block _ (heap_lt hx1)).trans hx1
   exact ⟨box_cell y0 rfl, box_cell y0 rfl, box_cell y0 rfl, box_cell y0 rfl, box_cell y0 rfl, box_cell y0 rfl, box_cell y1 rfl, box_cell y1 rfl⟩)
 have HWT := Lib.hid (show ∀ w' : World, Below W.heap.size W w' → Below w.heap.size w w' from fun w' h => HBW.out.trans (h.mono HBW.out.size))
 have HW := Lib.hid hW
 clear hx0 hx1 hW
 have HSG := Lib.hid (show Calls Tryz.prog 50 #[.agg #[.int .u8 u.kind, .int .i64 u.n, .string u.t, .slice an u.names.length cn, .slice ai u.items.length ci, .slice sa l.length sc]] W (fun e w' => e = .returned (.tuple #[.string ⟨(signS u l).toArray⟩, .int .i64 (signE u l)]) ∧ Below W.heap.size W w') from ref16Signed u l an ai sa cn ci sc W (hE.below HBW.out) hn)
 have HAM := Lib.hid (show ∀ w' : World, Below W.heap.size W w' → Calls Tryz.prog 51 #[.agg #[.int .i64 t, .slice ia ids.length ic]] w' (fun e w'' => e = .returned (.bool (authOk t ids)) ∧ Below w'.heap.size w' w'') from fun w' h => ref15May t ids ia ic w' (hA.below (HWT.out w' h)).strs (fun s hs => by have := hA.sizes s hs; omega) hA.len)
 obtain ⟨ok, hok⟩ : ∃ ok, ok = authOk t ids := ⟨_, rfl⟩
 obtain ⟨ek, hek⟩ : ∃ ek, ek = envOk u l := ⟨_, rfl⟩
 have HCV := Lib.hid (show countV v u l t ids keys = if ok = true ∧ ek = true then (ids.filter (idV v keys l u.enc)).length else 0 by unfold countV; rw [hok, hek])
 unfold signS signE at HSG
 rw [← hok] at HAM
 rw [← hek] at HSG
 have HEK := Lib.hid hek
 have HV := Lib.hid hV
 have HE := Lib.hid hE
 have HA := Lib.hid hA
 have HK := Lib.hid hK
 have HN := Lib.hid hn
 have hlen := hA.len
 have hlen2 := hE.len
 obtain ⟨M, hM⟩ : ∃ M : ByteArray, M = ⟨(if ek = true then u.enc else []).toArray⟩ := ⟨_, rfl⟩
 rw [← hM] at HSG
 have HMM := Lib.hid hM
 obtain ⟨CV, hCV⟩ : ∃ CV : Nat, CV = countV v u l t ids keys := ⟨_, rfl⟩
 rw [← hCV] at HCV ⊢
 unfold envV
 clear hM hok hek hV hE hA hK hn hCV
 obtain ⟨q0, q1, q2, q3, q4, q5, q6, q7⟩ := HS.out W (Below.refl _ _)
 go_enter Tryz.func22, Tryz.ntmps22
 go_wp2_with fail
 rw [← HW.out]
 refine HSG.out.mono ?_
 clear HSG q0 q1 q2 q3 q4 q5 q6 q7
 rintro e w1 ⟨rfl, hb1⟩
 have HB1 := Lib.hid hb1
 clear hb1
 obtain ⟨q0, q1, q2, q3, q4, q5, q6, q7⟩ := HS.out w1 HB1.out
 cases ek
 · rw [if_neg (by simp)]
   go_wp2
   go_ret
   exact ⟨ret_int (by rw [HCV.out]; simp), HWT.out _ HB1.out⟩
 rw [if_pos rfl]
 go_wp2_with fail
 refine (HAM.out w1 HB1.out).mono ?_
 clear HAM q0 q1 q2 q3 q4 q5 q6 q7
 rintro e w2 ⟨rfl, hb2⟩
 have HB2 := Lib.hid (HB1.out.trans (hb2.mono HB1.out.size))
 clear hb2
 cases ok
 · go_wp2
   go_ret
   exact ⟨ret_int (by rw [HCV.out]; simp), HWT.out _ HB2.out⟩
 have HML := Lib.hid (show M.data.toList = u.enc by rw [HMM.out]; simp)
 have HMZ := Lib.hid (show M.size ≤ 1099511620000 by
   have h := toList_length M
   rw [HML.out] at h
   have h2 := JV.enc_length u (JV.form_of_may u _ _ HN.out (envOk_may HEK.out.symm))
   have h3 := HE.out.wt
   omega)
 have HCN := Lib.hid (show CV = (ids.filter (idV v keys l M.data.toList)).length by rw [HCV.out, HML.out]; simp)
 have HSZ := Lib.hid (env_small HEK.out.symm)
 clear HCV HMM
 go_wp2_with fail
 go_loopw [11, 12] (fun n i wr => ∃ j : Nat, j ≤ ids.length ∧ i = .int .i64 j ∧ n = .int .i64 (((ids.take j).filter (idV v keys l M.data.toList)).length : Nat) ∧ Below w2.heap.size w2 wr) (fun _ i _ => ids.length - (intOf i).toNat)
 case atStart => exact ⟨0, by omega, rfl, rfl, Below.refl _ _⟩
 case round =>
   obtain ⟨j, hj, rfl, rfl, hbel⟩ := hrel
   have HBB := Lib.hid (HB2.out.trans (hbel.mono HB2.out.size))
   have HBR := Lib.hid hbel
   have hnl : ((ids.take j).filter (idV v keys l M.data.toList)).length ≤ j := Nat.le_trans (List.length_filter_le _ _) (by rw [List.length_take]; omega)
   obtain ⟨cnt, hcnt⟩ : ∃ cnt, cnt = ((ids.take j).filter (idV v keys l M.data.toList)).length := ⟨_, rfl⟩
   rw [← hcnt] at hnl ⊢
   have HCT := Lib.hid hcnt
   clear hcnt hbel
   obtain ⟨q0, q1, q2, q3, q4, q5, q6, q7⟩ := HS.out wr HBB.out
   by_cases hlt : j < ids.length
   · have m0 : (0 : Int) ≤ (j : Int) := by omega
     have m1 : (j : Int) < (ids.length : Int) := by omega
     obtain ⟨b, off, ha, _, hb, e0⟩ := (HA.out.below (HWT.out wr HBB.out)).strs.at j hlt
     subst ha
     have HTK := Lib.hid (filter_takeI (p := idV v keys l M.data.toList) j hlt)
     obtain ⟨y, hy⟩ : ∃ y, y = ids[j] := ⟨_, rfl⟩
     rw [← hy, ← HCT.out] at HTK
     rw [← hy] at e0
     clear hy
     have HKR := Lib.hid (HK.out.below (HWT.out wr HBB.out))
     obtain ⟨z1, z2⟩ := HKR.out.find y
     have HF := Lib.hid (ref14Find keys y ka kc wr HKR.out.at_ HKR.out.len HKR.out.sizes)
     unfold KFindPost at HF
     have HID := Lib.hid (show idV v keys l M.data.toList y = ((findK y keys).2 && hasV v (findK y keys).1 y l M.data.toList) from rfl)
     have HIK := Lib.hid (show (findK y keys).2 = true → hasV v (findK y keys).1 y l M.data.toList = l.any fun s => v.good (findK y keys).1 s M.data.toList from fun h => hasV_find (findK_some h).2.2)
     obtain ⟨⟨⟨ks, kp⟩, fb⟩, hfk⟩ : ∃ r, r = findK y keys := ⟨_, rfl⟩
     rw [← hfk] at HF HID HIK z1 z2
     have z1 : ks.size ≤ 300 := z1
     have z2 : kp.size ≤ 300 := z2
     clear hfk
     go_wp2_with fail
     refine HF.out.mono ?_
     clear HF e0 q0 q1 q2 q3 q4 q5 q6 q7
     rintro e w3 ⟨rfl, hb3⟩
     obtain ⟨W4, hW4⟩ : ∃ W4, W4 = w3.alloc (.cells #[.string ks, .string kp] 24) := ⟨_, rfl⟩
     have HB3 := Lib.hid (HBB.out.trans (hb3.mono HBB.out.size))
     have HB4 := Lib.hid (show Below W.heap.size W W4 by rw [hW4]; exact HB3.out.alloc HB3.out.size _)
     have HBR4 := Lib.hid (show Below w2.heap.size w2 W4 by rw [hW4]; exact (HBR.out.trans (hb3.mono HBR.out.size)).alloc (HBR.out.trans (hb3.mono HBR.out.size)).size _)
     have HX4 := Lib.hid (show W4.heap[w3.heap.size]? = some (.cells #[.string ks, .string kp] 24 (0, 0)) by rw [hW4]; exact heap_alloc_new w3 _)
     have HW4 := Lib.hid hW4
     clear hb3 hW4
     go_upto_region 9 with fail
     rw [← HW4.out]
     obtain ⟨GL, hGL⟩ : ∃ GL : Bool, GL = l.any fun s => v.good (ks, kp) s M.data.toList := ⟨_, rfl⟩
     have HGL := Lib.hid hGL
     clear hGL
     go_wp2_with fail
     go_loopw [15, 16] (fun g i wi => ∃ (q : Nat) (gb : Bool), q ≤ l.length ∧ i = .int .i64 q ∧ g = .bool gb ∧ gb = (l.take q).any (fun s => v.good (ks, kp) s M.data.toList) ∧ (fb = false → q = 0) ∧ Below W4.heap.size W4 wi) (fun _ i _ => l.length - (intOf i).toNat)
     case atStart => exact ⟨0, false, Nat.zero_le _, rfl, rfl, rfl, fun _ => rfl, Below.refl _ _⟩
     case round =>
       obtain ⟨q, gb, hq, rfl, rfl, hgb, hf0, hbi⟩ := hrel
       obtain ⟨wi, rfl⟩ : ∃ wi, wi = wr := ⟨wr, rfl⟩
       have HGB := Lib.hid hgb
       have HF0 := Lib.hid hf0
       have HBI := Lib.hid hbi
       have HBIW := Lib.hid (HB4.out.trans (hbi.mono HB4.out.size))
       have HBIR := Lib.hid (HBR4.out.trans (hbi.mono HBR4.out.size))
       clear hgb hf0 hbi
       obtain ⟨q0, q1, q2, q3, q4, q5, q6, q7⟩ := HS.out wi HBIW.out
       by_cases hgo : q < l.length ∧ fb = true ∧ gb = false
       · obtain ⟨hql, rfl, rfl⟩ := hgo
         have n0 : (0 : Int) ≤ (q : Int) := by omega
         have n1 : (q : Int) < (l.length : Int) := by omega
         obtain ⟨b2, off2, hsa, _, hb2, f0, f1⟩ := (HE.out.below (HWT.out wi HBIW.out)).keys.at q hql
         subst hsa
         have HSN := Lib.hid (any_snoc (P := fun s => v.good (ks, kp) s M.data.toList) q hql)
         have hsz := HSZ.out l[q] (List.getElem_mem hql)
         obtain ⟨p, hp⟩ : ∃ p, p = l[q] := ⟨_, rfl⟩
         rw [← hp] at f0 f1 HSN hsz
         clear hp
         obtain ⟨s0, s1⟩ := p
         have hsz : s0.size ≤ 1000000 ∧ s1.size ≤ 1000000 := hsz
         have HC := Lib.hid (show ∀ w' : World, Below wi.heap.size wi w' → w'.cell? ⟨w3.heap.size, 0, none⟩ = some (.string ks) ∧ w'.cell? ⟨w3.heap.size, 1, none⟩ = some (.string kp) ∧ w'.cell? ⟨w.heap.size, 5, none⟩ = some (.slice (some ⟨b2, off2, none⟩) l.length sc) ∧ w'.cell? ⟨b2, off2 + q * 2, none⟩ = some (.string s0) ∧ w'.cell? ⟨b2, off2 + q * 2 + 1, none⟩ = some (.string s1) from fun w' h => by
           have hx := ((HBI.out.trans (h.mono HBI.out.size)).block _ (heap_lt HX4.out)).trans HX4.out
           have hs := HS.out w' (HBIW.out.trans (h.mono HBIW.out.size))
           exact ⟨box_cell hx rfl, box_cell hx rfl, hs.2.2.2.2.2.1, (World.cell?_of_block (w := wi) (h.block b2 hb2)).trans f0, (World.cell?_of_block (w := wi) (h.block b2 hb2)).trans f1⟩)
         obtain ⟨qb, hqb⟩ : ∃ qb, qb = v.good (ks, kp) (s0, s1) M.data.toList := ⟨_, rfl⟩
         have HGC := Lib.hid (show ∀ w' : World, Below wi.heap.size wi w' → Calls Tryz.prog 17 #[x, .agg #[.string ks, .string kp], .agg #[.string s0, .string s1], .string M] w' (fun e w'' => e = .returned (.bool qb) ∧ Below w'.heap.size w' w'') from fun w' h => by
           rw [hqb]; exact ref17Good v x (ks, kp) (s0, s1) M w' (HV.out.below (HWT.out w' (HBIW.out.trans (h.mono HBIW.out.size)))) z1 z2 (by show s1.size ≤ _; omega) HMZ.out)
         have HQB := Lib.hid hqb
         clear f0 f1 hb2 hqb q0 q1 q2 q3 q4 q6 q7
         go_upto_region 13 with fail
         clear q5
         obtain ⟨V, hV⟩ : ∃ V : List MP, V = [.con (x), .con (.agg #[.string ks, .string kp]), .con (.pointer (some ⟨w.heap.size, 5, none⟩)), .con (.slice (some ⟨b2, off2, none⟩) l.length sc), .con (.int .i64 (q : Int)), .con (.pointer (some ⟨b2, off2 + q * 2, none⟩)), .con (.agg #[.string s0, .string s1]), .con (.string M), .con (.bool qb)] := ⟨_, rfl⟩
         have HV := Lib.hid hV
         clear hV
         refine wp_region_inv 9 (fun d a' w' => ∃ Xi Xj Xk Xl Xm Xn Xo Xp Xq, a' = ⟨#[x, .agg #[.int .u8 u.kind, .int .i64 u.n, .string u.t, .slice an u.names.length cn, .slice ai u.items.length ci, .slice (some ⟨b2, off2, none⟩) l.length sc], .agg #[.int .i64 t, .slice (some ⟨b, off, none⟩) ids.length ic], .slice ka keys.length kc, undef, .pointer (some ⟨w.heap.size, 0, none⟩), .pointer (some ⟨w.heap.size + 1, 0, none⟩), undef, .int .i64 0, .string M, .int .i64 0, .int .i64 (cnt : Int), .int .i64 (j : Int), .pointer (some ⟨w3.heap.size, 0, none⟩), .bool true, .bool false, .int .i64 (q : Int), .tuple #[.string M, .int .i64 0], .agg #[.int .u8 u.kind, .int .i64 u.n, .string u.t, .slice an u.names.length cn, .slice ai u.items.length ci, .slice (some ⟨b2, off2, none⟩) l.length sc], .tuple #[.string M, .int .i64 0], .string M, .int .i64 0, .int .i64 0, .bool false, .bool false, .agg #[.int .i64 t, .slice (some ⟨b, off, none⟩) ids.length ic], .bool true, .bool false, .bool false, .int .i64 (j : Int), .pointer (some ⟨w.heap.size + 1, 1, none⟩), .slice (some ⟨b, off, none⟩) ids.length ic, .int .i64 (ids.length : Int), .bool true, u34, u35, .tuple #[.agg #[.string ks, .string kp], .bool true], .slice ka keys.length kc, .pointer (some ⟨w.heap.size + 1, 1, none⟩), .slice (some ⟨b, off, none⟩) ids.length ic, .int .i64 (j : Int), .pointer (some ⟨b, off + j, none⟩), .string y, .tuple #[.agg #[.string ks, .string kp], .bool true], .agg #[.string ks, .string kp], .bool true, .int .i64 (q : Int), .pointer (some ⟨w.heap.size, 5, none⟩), .slice (some ⟨b2, off2, none⟩) l.length sc, .int .i64 (l.length : Int), .bool true, .bool true, .bool true, .bool true, .bool true, .bool false, .bool true, .bool true, u58, u59, Xi, Xj, Xk, Xl, Xm, Xn, Xo, Xp, Xq, u69, u70, u71, undef], []⟩ ∧ RegI wi V d w' [Xi, Xj, Xk, Xl, Xm, Xn, Xo, Xp, Xq]) (by kernel_rfl) (by kernel_rfl) ?first ?step ?last
         case first => exact ⟨_, _, _, _, _, _, _, _, _, rfl, RegI.first _ _ _ (by rw [HV.out]; rfl)⟩
         case step =>
           rintro d a' w' ⟨Xi, Xj, Xk, Xl, Xm, Xn, Xo, Xp, Xq, rfl, h⟩ q hq hn hw
           rcases q with _ | _ | _ | _ | _ | _ | _ | _ | _ | q
           · refine wpOp_step rfl fun K hK => ?_
             go_simp
             exact hK _ _ ⟨_, Xj, Xk, Xl, Xm, Xn, Xo, Xp, Xq, rfl, h.same 0 _ (.con (x)) (vq9 HV rfl) rfl⟩
           · obtain ⟨g0, g1, g5, g6, g7⟩ := HC.out w' h.1
             refine wpOp_step rfl fun K hK => ?_
             go_simp
             exact hK _ _ ⟨Xi, _, Xk, Xl, Xm, Xn, Xo, Xp, Xq, rfl, h.same 1 _ (.con (.agg #[.string ks, .string kp])) (vq9 HV rfl) rfl⟩
           · refine wpOp_step rfl fun K hK => ?_
             go_simp
             exact hK _ _ ⟨Xi, Xj, _, Xl, Xm, Xn, Xo, Xp, Xq, rfl, h.same 2 _ (.con (.pointer (some ⟨w.heap.size, 5, none⟩))) (vq9 HV rfl) rfl⟩
           · obtain rfl : Xk = .pointer (some ⟨w.heap.size, 5, none⟩) := h.get 2 (hw _ rfl ⟨2, .data⟩ (by simp) rfl) (.con (.pointer (some ⟨w.heap.size, 5, none⟩))) (vq9 HV rfl) _ rfl
             obtain ⟨g0, g1, g5, g6, g7⟩ := HC.out w' h.1
             refine wpOp_step rfl fun K hK => ?_
             go_simp
             exact hK _ _ ⟨Xi, Xj, _, _, Xm, Xn, Xo, Xp, Xq, rfl, h.same 3 _ (.con (.slice (some ⟨b2, off2, none⟩) l.length sc)) (vq9 HV rfl) rfl⟩
           · refine wpOp_step rfl fun K hK => ?_
             go_simp
             exact hK _ _ ⟨Xi, Xj, Xk, Xl, _, Xn, Xo, Xp, Xq, rfl, h.same 4 _ (.con (.int .i64 (q : Int))) (vq9 HV rfl) rfl⟩
           · obtain rfl : Xl = .slice (some ⟨b2, off2, none⟩) l.length sc := h.get 3 (hw _ rfl ⟨3, .data⟩ (by simp) rfl) (.con (.slice (some ⟨b2, off2, none⟩) l.length sc)) (vq9 HV rfl) _ rfl
             obtain rfl : Xm = .int .i64 (q : Int) := h.get 4 (hw _ rfl ⟨4, .data⟩ (by simp) rfl) (.con (.int .i64 (q : Int))) (vq9 HV rfl) _ rfl
             obtain ⟨g0, g1, g5, g6, g7⟩ := HC.out w' h.1
             refine wpOp_step rfl fun K hK => ?_
             go_simp
             exact hK _ _ ⟨Xi, Xj, Xk, _, _, _, Xo, Xp, Xq, rfl, h.same 5 _ (.con (.pointer (some ⟨b2, off2 + q * 2, none⟩))) (vq9 HV rfl) rfl⟩
           · obtain rfl : Xn = .pointer (some ⟨b2, off2 + q * 2, none⟩) := h.get 5 (hw _ rfl ⟨5, .data⟩ (by simp) rfl) (.con (.pointer (some ⟨b2, off2 + q * 2, none⟩))) (vq9 HV rfl) _ rfl
             obtain ⟨g0, g1, g5, g6, g7⟩ := HC.out w' h.1
             refine wpOp_step rfl fun K hK => ?_
             go_simp
             exact hK _ _ ⟨Xi, Xj, Xk, Xl, Xm, _, _, Xp, Xq, rfl, h.same 6 _ (.con (.agg #[.string s0, .string s1])) (vq9 HV rfl) rfl⟩
           · refine wpOp_step rfl fun K hK => ?_
             go_simp
             exact hK _ _ ⟨Xi, Xj, Xk, Xl, Xm, Xn, Xo, _, Xq, rfl, h.same 7 _ (.con (.string M)) (vq9 HV rfl) rfl⟩
           · obtain rfl : Xi = x := h.get 0 (hw _ rfl ⟨0, .data⟩ (by simp) rfl) (.con (x)) (vq9 HV rfl) _ rfl
             obtain rfl : Xj = .agg #[.string ks, .string kp] := h.get 1 (hw _ rfl ⟨1, .data⟩ (by simp) rfl) (.con (.agg #[.string ks, .string kp])) (vq9 HV rfl) _ rfl
             obtain rfl : Xo = .agg #[.string s0, .string s1] := h.get 6 (hw _ rfl ⟨6, .data⟩ (by simp) rfl) (.con (.agg #[.string s0, .string s1])) (vq9 HV rfl) _ rfl
             obtain rfl : Xp = .string M := h.get 7 (hw _ rfl ⟨7, .data⟩ (by simp) rfl) (.con (.string M)) (vq9 HV rfl) _ rfl
             obtain ⟨g0, g1, g5, g6, g7⟩ := HC.out w' h.1
             refine wpOp_step rfl fun K hK => ?_
             go_simp
             refine (HGC.out w' h.1).mono ?_
             rintro e w2 ⟨rfl, hb2⟩
             exact hK _ _ ⟨_, _, Xk, Xl, Xm, Xn, _, _, _, rfl, h.did hb2 8 _ (.con (.bool qb)) (vq9 HV rfl) rfl⟩
           · omega
         case last =>
           rintro d a' w' hall ⟨Xi, Xj, Xk, Xl, Xm, Xn, Xo, Xp, Xq, rfl, h⟩
           have hle := h.1
           obtain rfl : Xq = .bool qb := h.get 8 (hall _ (by omega)) (.con (.bool qb)) (vq9 HV rfl) _ rfl
           have HLE := Lib.hid hle
           clear h hall hle HV
           go_wp2
           go_roundw
           case rel => exact ⟨q + 1, qb, by omega, by go_num, rfl, by rw [HSN.out, ← HGB.out, ← HQB.out]; rfl, (fun h => by cases h), HBI.out.trans (HLE.out.mono HBI.out.size)⟩
           case measure => simp [intOf]; omega
       · have HFIN := Lib.hid (show (fb && gb) = idV v keys l M.data.toList y ∧ (fb = false → gb = false) by
           cases fb
           · refine ⟨by rw [HID.out]; rfl, fun _ => ?_⟩
             rw [HGB.out, HF0.out rfl, List.take_zero]; rfl
           · refine ⟨?_, fun h => by cases h⟩
             rw [HID.out, HIK.out rfl, Bool.true_and, Bool.true_and]
             cases gb
             · have : ¬ q < l.length := fun h => hgo ⟨h, rfl, rfl⟩
               rw [HGB.out, show q = l.length by omega, List.take_length]
             · exact (any_stop HGB.out.symm).symm)
         have HBO := Lib.hid (HBIR.out)
         have HGO := Lib.hid hgo
         clear hgo
         have hcw : IntKind.i64.wrap ((cnt : Int) + 1) = (cnt : Int) + 1 := IntWalk.i64_in _ (by omega)
         rcases Nat.lt_or_ge q l.length with hql | hql
         case' inl => have n1 : (q : Int) < (l.length : Int) := by omega
         case' inr => have n1 : ¬ ((q : Int) < (l.length : Int)) := by omega
         case inl =>
           cases fb
           · have HGF := Lib.hid (HFIN.out.2 rfl)
             obtain rfl : gb = false := HGF.out
             have HIV := Lib.hid (show idV v keys l M.data.toList y = false by rw [← HFIN.out.1]; rfl)
             clear HFIN HGF hql hq
             go_wp2
             go_roundw
             case rel => exact ⟨j + 1, by omega, by go_num, by rw [HTK.out, HIV.out] <;> rfl, HBO.out⟩
             case measure => simp [intOf]; omega
           · cases gb
             · exact absurd ⟨hql, rfl, rfl⟩ HGO.out
             · have HIV := Lib.hid (show idV v keys l M.data.toList y = true by rw [← HFIN.out.1]; rfl)
               clear HFIN hql hq
               go_wp2
               go_roundw
               case rel => exact ⟨j + 1, by omega, by go_num, by rw [HTK.out, HIV.out] <;> go_num, HBO.out⟩
               case measure => simp [intOf]; omega
         case inr =>
           cases gb
           · have HIV := Lib.hid (show idV v keys l M.data.toList y = false by rw [← HFIN.out.1, Bool.and_false])
             clear HFIN hql hq
             cases fb <;>
               (go_wp2
                go_roundw
                case rel => exact ⟨j + 1, by omega, by go_num, by rw [HTK.out, HIV.out] <;> rfl, HBO.out⟩
                case measure => simp [intOf]; omega)
           · cases fb
             · exact absurd (HFIN.out.2 rfl) (by decide)
             · have HIV := Lib.hid (show idV v keys l M.data.toList y = true by rw [← HFIN.out.1]; rfl)
               clear HFIN hql hq
               go_wp2
               go_roundw
               case rel => exact ⟨j + 1, by omega, by go_num, by rw [HTK.out, HIV.out] <;> go_num, HBO.out⟩
               case measure => simp [intOf]; omega
   · have hje : j = ids.length := by omega
     have m1 : ¬ ((j : Int) < (ids.length : Int)) := by omega
     have HFE := Lib.hid (show cnt = CV by rw [HCT.out, HCN.out, hje, List.take_length])
     clear hje hlt hj
     go_wp2
     go_ret
     exact ⟨ret_int (by rw [HFE.out]), HWT.out _ HBB.out⟩

end Go.Proofs.YtaekmmnpdbmoeaaGreatDoor
