/- The contract of the law KeyRows: it returns true, whatever the keys, and by how many they are turned. -/
import Derived.Test.YtcahpjejpimdhaaGreatDoorZw29

namespace Go.Proofs.YtcahpjejpimdhaaGreatDoor
open Go.RowKit

theorem infoKey : (Tryz.prog.info? 23).map (fun i => (i.zero, i.size, i.bytes)) = some (some (.agg #[.string { data := #[] }, .string { data := #[] }]), 2, 32) := by kernel_rfl

set_option maxHeartbeats 2000000 in
set_option maxRecDepth 100000 in
theorem lawKeyRows (l : List Key2) (y : Nat) (a : Option Addr) (c : Nat) (w : World) (hK : KeysAt w 0 w.heap.size a l) (hl : l.length ≤ 9223372036854775807) (hy : y ≤ 255) (hT : Tabs w) :
    Calls Tryz.prog 8 #[.slice a l.length c, .int .u8 (y : Int)] w fun e w' => e = .returned (.bool true) ∧ Below w.heap.size w w' := by
  have HT := Lib.hid hT
  have HK := Lib.hid hK
  have HF := Lib.hid (lawFew l a c w hK hl)
  clear hT hK
  have HAW := Lib.hid (show ∀ w', Below w.heap.size w w' → Calls Tryz.prog 14 #[] w' (fun e w'' => e = .returned (.bool true) ∧ Below w.heap.size w w'') from fun w' h => by
    refine (lawAwake w' (HT.out.below h)).mono ?_
    rintro e w'' ⟨rfl, hb⟩
    exact ⟨rfl, h.trans (hb.mono h.size)⟩)
  go_enter Tryz.func8, Tryz.ntmps8
  go_wp2_with fail
  refine HF.out.mono ?_
  clear HF
  rintro e w1 ⟨b, rfl, hfew, hb1⟩
  have HB1 := Lib.hid hb1
  clear hb1
  cases b
  · clear hfew
    go_wp2_with fail
    refine (HAW.out w1 HB1.out).mono ?_
    rintro e w2 ⟨rfl, hb2⟩
    go_wp2
    go_ret
    exact ⟨rfl, hb2⟩
  obtain ⟨h40, hsh⟩ := hfew rfl
  have HSH := Lib.hid hsh
  clear hfew hsh
  by_cases h16 : l.length ≤ 16
  case neg =>
    have h17 : decide (16 < (l.length : Int)) = true := by simp; omega
    have h18 : (16 : Int) < (l.length : Int) := by omega
    go_wp2_with fail
    refine (HAW.out w1 HB1.out).mono ?_
    rintro e w2 ⟨rfl, hb2⟩
    go_wp2
    go_ret
    exact ⟨rfl, hb2⟩
  have h17 : decide (16 < (l.length : Int)) = false := by simp; omega
  have h18 : ¬ (16 : Int) < (l.length : Int) := by omega
  go_wp2_with fail
  refine (HAW.out w1 HB1.out).mono ?_
  clear HB1
  rintro e w2 ⟨rfl, hb2⟩
  have HB2 := Lib.hid hb2
  have HTA := Lib.hid (keyTable_any l a c w2 (HK.out.below HB2.out (Nat.le_refl _) (Nat.le_refl _) HB2.out.size) h40 HSH.out (HT.out.below HB2.out))
  unfold TabAny ValPost at HTA
  have HPM := Lib.hid (turned_perm l y)
  have HEB := Lib.hid (tabE_perm (turned_perm l y))
  have HSM := Lib.hid (show ∀ k ∈ turned l y l.length, k.1.size ≤ 300 ∧ k.2.size ≤ 300 from fun k hk => HSH.out k (HPM.out.subset hk))
  have HPA := Lib.hid (@tabE_parts l)
  have HPB := Lib.hid (@tabE_parts (turned l y l.length))
  have HTU := Lib.hid (fun (am : Option Addr) (cm : Nat) (w : World) (h : KeysAt w 0 w.heap.size am (turned l y l.length)) (hT : Tabs w) => keyTable_any (turned l y l.length) am cm w h (by rw [turned_len]; exact h40) HSM.out hT)
  unfold TabAny ValPost at HTU
  obtain ⟨E1, hE1⟩ : ∃ E1, E1 = tabE l := ⟨_, rfl⟩
  obtain ⟨E2, hE2⟩ : ∃ E2, E2 = tabE (turned l y l.length) := ⟨_, rfl⟩
  obtain ⟨bb, hbb⟩ : ∃ bb, bb = (E1 == 0) := ⟨_, rfl⟩
  rw [← hE1] at HTA HEB HPA
  rw [← hE2] at HTU HEB HPB
  have t1 : (E1 == 0) = bb := hbb.symm
  have t2 : (E2 == 0) = bb := by rw [HEB.out, hbb]
  clear hb2 hE1 hE2 hbb HEB
  go_wp2_with fail
  refine HTA.out.mono ?_
  clear HTA
  rintro e w3 ⟨u, hu, _, hwu, an, cn, ai, ci, rfl, hr3, hb3⟩
  have HU := Lib.hid hu
  have HB3 := Lib.hid (show Below w.heap.size w (w3.alloc (.cells #[.int .u8 u.kind, .int .i64 u.n, .string u.t, .slice an u.names.length cn, .slice ai u.items.length ci] 29)) from (HB2.out.trans (hb3.mono HB2.out.size)).alloc (by have := HB2.out.size; have := hb3.size; omega) _)
  have HR3 := Lib.hid (show Rep (w3.alloc (.cells #[.int .u8 u.kind, .int .i64 u.n, .string u.t, .slice an u.names.length cn, .slice ai u.items.length ci] 29)) 0 w3.heap.size u (.agg #[.int .u8 u.kind, .int .i64 u.n, .string u.t, .slice an u.names.length cn, .slice ai u.items.length ci]) from Rep.carry (Nat.zero_le _) (Nat.le_refl _) (fun b _ h => Below.heap_alloc _ _ _ h) _ _ hr3)
  have HX3 := Lib.hid (heap_alloc_new w3 (.cells #[.int .u8 u.kind, .int .i64 u.n, .string u.t, .slice an u.names.length cn, .slice ai u.items.length ci] 29))
  have hz3 : (w3.alloc (.cells #[.int .u8 u.kind, .int .i64 u.n, .string u.t, .slice an u.names.length cn, .slice ai u.items.length ci] 29)).heap.size = w3.heap.size + 1 := by simp
  have HZ3 := Lib.hid hz3
  clear hu hr3 hb3 HB2 hz3
  obtain ⟨i3, hi3, iz0, iz1, iz2⟩ := info_parts infoKey
  obtain ⟨n, hn⟩ : ∃ n, n = l.length := ⟨_, rfl⟩
  rw [← hn] at h40 h16 h17 h18 hl HPM HSM HPB HTU
  rw [← hn]
  have HN := Lib.hid hn
  clear hn
  go_wp2_with fail
  obtain ⟨W3, hW3⟩ : ∃ W3, W3 = w3.alloc (.cells #[.int .u8 u.kind, .int .i64 u.n, .string u.t, .slice an u.names.length cn, .slice ai u.items.length ci] 29) := ⟨_, rfl⟩
  obtain ⟨p5, hp5⟩ : ∃ p5, p5 = w3.heap.size := ⟨_, rfl⟩
  rw [← hW3] at HB3 HR3 HX3 HZ3
  rw [← hp5] at HR3 HX3 HZ3
  rw [← hW3, ← hp5]
  clear hW3 hp5
  go_loopw [7, 8] (fun v i wr => ∃ r : Nat, r ≤ n ∧ i = .int .i64 ((r : Int) - 1) ∧ wr.ownsRow W3.heap.size 23 2 v (n - r) ((turned l y (n - r)).flatMap encK) ∧ Below W3.heap.size W3 wr) (fun _ i _ => ((intOf i) + 1).toNat)
  case atStart => exact ⟨n, Nat.le_refl _, by go_num, by rw [Nat.sub_self]; exact World.ownsRow_nil _ _ _ _, Below.refl _ _⟩
  case round =>
    obtain ⟨r, hr, rfl, hown, hbel⟩ := hrel
    have HO := Lib.hid hown
    have HB := Lib.hid hbel
    have hzw : W3.heap.size ≤ wr.heap.size := hbel.size
    clear hown hbel
    rcases r with _ | r
    case succ =>
      rw [show ((r + 1 : Nat) : Int) - 1 = (r : Int) by omega]
      obtain ⟨q, hq⟩ : ∃ q, q = (r + y) % n := ⟨_, rfl⟩
      have hnn : 0 < n := by omega
      have hqn : q < n := by rw [hq]; exact Nat.mod_lt _ hnn
      have g0 : IntKind.i64.wrap ((r : Int) + (y : Int)) = (r : Int) + (y : Int) := IntWalk.i64_in _ (by omega)
      have g2 : ((r : Int) + (y : Int)).tmod (n : Int) = (q : Int) := by rw [Int.tmod_eq_emod_of_nonneg (by omega), hq]; simp
      have g3 : ((r : Int) + (y : Int)) % (n : Int) = (q : Int) := by rw [hq]; simp
      have g4 : ((n : Int) == 0) = false := by simp; omega
      have g5 : ¬ (n : Int) = 0 := by omega
      have g6 : (0 : Int) ≤ (q : Int) := by omega
      have g7 : (q : Int) < (n : Int) := by omega
      have hql : q < l.length := by rw [← HN.out]; exact hqn
      obtain ⟨b, off, ha, _, hb, e0, e1⟩ := (HK.out.below (HB3.out.trans (HB.out.mono HB3.out.size)) (Nat.le_refl _) (Nat.le_refl _) (HB3.out.trans (HB.out.mono HB3.out.size)).size).at q hql
      subst ha
      have HTS := Lib.hid (show turned l y (n - r) = turned l y (n - (r + 1)) ++ [l[q]] by
        have h1 : n - r = (n - (r + 1)) + 1 := by omega
        have h2 : (l.length - 1 - (n - (r + 1)) + y) % l.length = q := by
          rw [← HN.out, hq]; congr 1; omega
        rw [h1, turned_succ l y _ (by rw [h2]; exact hql)]
        simp only [h2])
      obtain ⟨x, hx⟩ : ∃ x : Key2, x = l[q] := ⟨_, rfl⟩
      replace e0 := e0.trans (congrArg (fun z : Key2 => some (Value.string z.1)) hx.symm)
      replace e1 := e1.trans (congrArg (fun z : Key2 => some (Value.string z.2)) hx.symm)
      replace HTS := Lib.hid (HTS.out.trans (congrArg (fun z : Key2 => turned l y (n - (r + 1)) ++ [z]) hx.symm))
      clear hx hq
      obtain ⟨xs, xp⟩ := x
      replace e0 : wr.cell? ⟨b, off + q * 2, none⟩ = some (.string xs) := e0
      replace e1 : wr.cell? ⟨b, off + q * 2 + 1, none⟩ = some (.string xp) := e1
      go_wp2_with (at_builtin; refine wpList_append_lies _ rfl (.tmp 41) (.tmp 52) 43 rfl W3.heap.size 23 i3 _ 2 32 Tryz.underlying43 hi3 iz0 iz1 iz2 rfl (by decide) _ (n - (r + 1)) ((turned l y (n - (r + 1))).flatMap encK) rfl (HO.out.alloc _) ⟨wr.heap.size, 0, none⟩ 1 1 [.string xs, .string xp] rfl rfl (World.news_of_block (cs := #[.string xs, .string xp]) (t := 23) (fr := (0, 0)) (heap_alloc_new wr _)) (by simp [Value.oneCell']) (by omega) (by unfold maxLen; omega) (by omega) (by simp; omega) (wr.heap.size + 1) (by simp) ?_; intro g1 cap2 w6 hown6 hgrow6 hat6 hlt6; have HO6 := Lib.hid hown6; have HG6 := Lib.hid hgrow6; clear hown6 hgrow6 hat6)
      go_roundw
      case rel =>
        refine ⟨r, by omega, by go_num, ?_, below_grown (HB.out.alloc (by omega) _) (by simp; omega) HG6.out (fun b hb => (HO.out.lt b hb).1)⟩
        have := HO6.out
        rw [show n - (r + 1) + 1 = n - r by omega] at this
        rw [HTS.out, List.flatMap_append]
        simpa [encK, show n - (r + 1) + 1 = n - r by omega] using this
      case measure => (simp [intOf]; try omega)
    case zero =>
      obtain ⟨am, cm, hv, hKM⟩ := owns_keys (M := turned l y n) (by have := HO.out; rwa [Nat.sub_zero] at this) (by rw [turned_len])
      subst hv
      rw [turned_len] at *
      have HKM := Lib.hid hKM
      have HBW := Lib.hid (HB3.out.trans (HB.out.mono HB3.out.size))
      have HTB := Lib.hid (HTU.out am cm wr (hKM.carry (Nat.zero_le _) (Nat.le_refl _) (fun _ _ _ => rfl)) (HT.out.below HBW.out))
      clear hKM HO HTU
      obtain ⟨wo, rfl⟩ : ∃ wo : World, wo = wr := ⟨_, rfl⟩
      have j0 : ((0 : Nat) : Int) - 1 = -1 := by omega
      rw [j0]
      go_wp2_with fail
      refine HTB.out.mono ?_
      clear HTB
      rintro e w4 ⟨v, hv, _, hwv, bn, dn, bi, di, rfl, hr4, hb4⟩
      have HV := Lib.hid hv
      obtain ⟨W5, hW5⟩ : ∃ W5, W5 = w4.alloc (.cells #[.int .u8 v.kind, .int .i64 v.n, .string v.t, .slice bn v.names.length dn, .slice bi v.items.length di] 29) := ⟨_, rfl⟩
      have hb5 : Below wo.heap.size wo W5 := by rw [hW5]; exact hb4.alloc hb4.size _
      have HB5 := Lib.hid (HBW.out.trans (hb5.mono HBW.out.size))
      have HW5 := Lib.hid hb5
      have hz4 : wo.heap.size ≤ w4.heap.size := hb4.size
      have hz5 : W5.heap.size = w4.heap.size + 1 := by rw [hW5]; simp
      have HZ5 := Lib.hid hz5
      have hb35 : Below W3.heap.size W3 W5 := HB.out.trans (hb5.mono hzw)
      have HR5 := Lib.hid (show Rep W5 0 W5.heap.size v (.agg #[.int .u8 v.kind, .int .i64 v.n, .string v.t, .slice bn v.names.length dn, .slice bi v.items.length di]) from by
        rw [hW5]; exact Rep.carry (Nat.zero_le _) (by simp) (fun b _ h => Below.heap_alloc _ _ _ h) _ _ hr4)
      have HR3' := Lib.hid (show Rep W5 0 W5.heap.size u (.agg #[.int .u8 u.kind, .int .i64 u.n, .string u.t, .slice an u.names.length cn, .slice ai u.items.length ci]) from Rep.carry (Nat.le_refl _) (by have := HZ3.out; omega) (fun b _ h => hb35.block b (by have := HZ3.out; omega)) _ _ HR3.out)
      have hx3 : W5.heap[p5]? = some (.cells #[.int .u8 u.kind, .int .i64 u.n, .string u.t, .slice an u.names.length cn, .slice ai u.items.length ci] 29 (0, 0)) := by rw [hb35.block _ (by have := HZ3.out; omega)]; exact HX3.out
      have hx5 : W5.heap[w4.heap.size]? = some (.cells #[.int .u8 v.kind, .int .i64 v.n, .string v.t, .slice bn v.names.length dn, .slice bi v.items.length di] 29 (0, 0)) := by rw [hW5]; exact heap_alloc_new w4 _
      have HK5 := Lib.hid (HKM.out.below hb5 (Nat.le_refl _) (Nat.le_refl _) hb5.size)
      have HL5 := Lib.hid (HK.out.below HB5.out (Nat.le_refl _) (Nat.le_refl _) (Nat.le_refl _))
      cases bb
      · have HW := Lib.hid hW5
        clear hv hr4 hb4 hb5 hb35 hx3 hx5 hz5 hW5
        go_wp2_with fail
        rw [← HW.out]
        clear HW
        go_loopw [11] (fun i wr => i = .int .i64 0 ∧ wr = W5) (fun _ _ => 0)
        case atStart => exact ⟨rfl, rfl⟩
        case round =>
          obtain ⟨rfl, rfl⟩ := hrel
          by_cases h0n : 0 < n
          · have q1 : decide ((0 : Int) < (n : Int)) = true := by simpa using h0n
            go_wp2
            go_ret
            exact ⟨rfl, HB5.out⟩
          · have q1 : decide ((0 : Int) < (n : Int)) = false := by simpa using h0n
            go_wp2
            go_ret
            exact ⟨rfl, HB5.out⟩
      · obtain rfl : E1 = 0 := by simpa using t1
        obtain rfl : E2 = 0 := by simpa using t2
        have huv : v = u := by
          obtain ⟨m1, hp1, hr1, h1⟩ := HU.out rfl
          obtain ⟨m2, hp2, hr2, h2⟩ := HV.out rfl
          rw [h1, h2, rises_unique (hp1.trans (HPM.out.symm.trans hp2.symm)) hr1 hr2]
        subst huv
        have HSA := Lib.hid (refSame 4294967296 v v _ _ 0 W5.heap.size W5 hwu hwu (Nat.le_refl _) (Nat.le_refl _) HR3'.out HR5.out)
        rw [show v.sameB v = true from (JV.sameB_iff v v).2 rfl] at HSA
        obtain ⟨hokl, _⟩ := HPA.out rfl
        obtain ⟨hokm, hndm⟩ := HPB.out rfl
        have HOK := Lib.hid hokl
        have HFK := Lib.hid (show ∀ x ∈ l, findK (id2 x) (turned l y n) = (x, true) from fun x hx => findK_mem (HPM.out.symm.subset hx) hokm hndm)
        have d0 : W5.cell? ⟨w4.heap.size, 0, none⟩ = some (.int .u8 v.kind) := box_cell hx5 rfl
        have d1 : W5.cell? ⟨w4.heap.size, 1, none⟩ = some (.int .i64 v.n) := box_cell hx5 rfl
        have d2 : W5.cell? ⟨w4.heap.size, 2, none⟩ = some (.string v.t) := box_cell hx5 rfl
        have d3 : W5.cell? ⟨w4.heap.size, 3, none⟩ = some (.slice bn v.names.length dn) := box_cell hx5 rfl
        have d4 : W5.cell? ⟨w4.heap.size, 4, none⟩ = some (.slice bi v.items.length di) := box_cell hx5 rfl
        have e0 : W5.cell? ⟨p5, 0, none⟩ = some (.int .u8 v.kind) := box_cell hx3 rfl
        have e1 : W5.cell? ⟨p5, 1, none⟩ = some (.int .i64 v.n) := box_cell hx3 rfl
        have e2 : W5.cell? ⟨p5, 2, none⟩ = some (.string v.t) := box_cell hx3 rfl
        have e3 : W5.cell? ⟨p5, 3, none⟩ = some (.slice an v.names.length cn) := box_cell hx3 rfl
        have e4 : W5.cell? ⟨p5, 4, none⟩ = some (.slice ai v.items.length ci) := box_cell hx3 rfl
        rw [hW5] at d0 d1 d2 d3 d4 e0 e1 e2 e3 e4
        have HW := Lib.hid hW5
        clear hv hr4 hb4 hb5 hb35 hx3 hx5 hz5 hW5 hokl hokm hndm
        go_wp2_with fail
        clear d0 d1 d2 d3 d4 e0 e1 e2 e3 e4
        rw [← HW.out]
        refine HSA.out.mono ?_
        clear HSA HW
        rintro e w6 ⟨rfl, hb6⟩
        have HB6 := Lib.hid (HB5.out.trans (hb6.mono HB5.out.size))
        have HK6 := Lib.hid (HK5.out.below hb6 (Nat.le_refl _) (Nat.zero_le _) hb6.size)
        have HL6 := Lib.hid (HL5.out.below hb6 (by have := HB5.out.size; omega) (Nat.le_refl _) (Nat.le_refl _))
        clear hb6
        have hz6 : w.heap.size ≤ w6.heap.size := HB6.out.size
        go_wp2_with fail
        go_loopw [11, 12, 13, 14, 15] (fun i _ _ _ _ wr => ∃ k : Nat, k ≤ n ∧ i = .int .i64 k ∧ Below w6.heap.size w6 wr) (fun i _ _ _ _ _ => n - (intOf i).toNat)
        case atStart => exact ⟨0, by omega, rfl, Below.refl _ _⟩
        case round =>
          obtain ⟨k, hk, rfl, hbk⟩ := hrel
          have HBK := Lib.hid hbk
          have HBT := Lib.hid (HB6.out.trans (hbk.mono hz6))
          have hzk : w6.heap.size ≤ wr.heap.size := hbk.size
          clear hbk
          by_cases hlt : k < n
          · have hkl : k < l.length := by rw [← HN.out]; exact hlt
            obtain ⟨b, off, ha, _, hb, e0, e1⟩ := (HL6.out.below HBK.out (by omega) (Nat.le_refl _) (Nat.le_refl _)).at k hkl
            subst ha
            obtain ⟨hs1, hs2⟩ := HSH.out l[k] (List.getElem_mem hkl)
            have hok := HOK.out l[k] (List.getElem_mem hkl)
            have hfk := HFK.out l[k] (List.getElem_mem hkl)
            obtain ⟨x, hx⟩ : ∃ x : Key2, x = l[k] := ⟨_, rfl⟩
            replace e0 := e0.trans (congrArg (fun z : Key2 => some (Value.string z.1)) hx.symm)
            replace e1 := e1.trans (congrArg (fun z : Key2 => some (Value.string z.2)) hx.symm)
            replace hs1 : x.1.size ≤ 300 := Eq.mp (congrArg (fun z : Key2 => z.1.size ≤ 300) hx.symm) hs1
            replace hs2 : x.2.size ≤ 300 := Eq.mp (congrArg (fun z : Key2 => z.2.size ≤ 300) hx.symm) hs2
            replace hok : ok2 x = true := Eq.mp (congrArg (fun z : Key2 => ok2 z = true) hx.symm) hok
            replace hfk : findK (id2 x) (turned l y n) = (x, true) := Eq.mp (congrArg (fun z : Key2 => findK (id2 z) (turned l y n) = (z, true)) hx.symm) hfk
            clear hx
            obtain ⟨xs, xp⟩ := x
            replace e0 : wr.cell? ⟨b, off + k * 2, none⟩ = some (.string xs) := e0
            replace e1 : wr.cell? ⟨b, off + k * 2 + 1, none⟩ = some (.string xp) := e1
            replace hs1 : xs.size ≤ 300 := hs1
            replace hs2 : xp.size ≤ 300 := hs2
            replace hok : keyOk xs.data.toList xp.data.toList = true := hok
            have HID := Lib.hid (keyID xs xp wr (by omega) (by omega) (HT.out.below HBT.out))
            unfold KeyIdPost at HID
            rw [hok, if_pos rfl] at HID
            obtain ⟨ID, hID⟩ : ∃ ID : ByteArray, ID = ⟨(keyId xs.data.toList xp.data.toList).toArray⟩ := ⟨_, rfl⟩
            rw [← hID] at HID
            have HFI := Lib.hid (show findK ID (turned l y n) = ((xs, xp), true) by rw [hID]; exact hfk)
            clear hok hfk hID
            have m1 : (0 : Int) ≤ (k : Int) := by omega
            have m2 : (k : Int) < (n : Int) := by omega
            have m3 : decide ((k : Int) < (n : Int)) = true := by simpa using hlt
            go_wp2_with fail
            refine HID.out.mono ?_
            clear HID
            rintro e w7 ⟨rfl, hb7⟩
            have HB7 := Lib.hid (HBK.out.trans (hb7.mono hzk))
            have HF := Lib.hid (keyFind (turned l y n) ID am cm w7 (HK6.out.below HB7.out (Nat.le_refl _) (Nat.le_refl _) HB7.out.size) (by rw [turned_len]; omega) HSM.out (HT.out.below (HB6.out.trans (HB7.out.mono hz6))))
            unfold KFindPost at HF
            rw [HFI.out, turned_len] at HF
            have hbw : b < wr.heap.size := by omega
            replace e0 : w7.cell? ⟨b, off + k * 2, none⟩ = some (.string xs) := by rw [hb7.cell hbw]; exact e0
            replace e1 : w7.cell? ⟨b, off + k * 2 + 1, none⟩ = some (.string xp) := by rw [hb7.cell hbw]; exact e1
            have hz7 : wr.heap.size ≤ w7.heap.size := hb7.size
            clear hb7
            go_wp2_with fail
            refine HF.out.mono ?_
            clear HF
            rintro e w8 ⟨rfl, hb8⟩
            have hz8 : w7.heap.size ≤ w8.heap.size := hb8.size
            have hbw7 : b < w7.heap.size := by omega
            have hbw8 : b < w8.heap.size := by omega
            replace e0 : w8.cell? ⟨b, off + k * 2, none⟩ = some (.string xs) := by rw [hb8.cell hbw7]; exact e0
            replace e1 : w8.cell? ⟨b, off + k * 2 + 1, none⟩ = some (.string xp) := by rw [hb8.cell hbw7]; exact e1
            have e0' : (w8.alloc (.cells #[.string xs, .string xp] 23)).cell? ⟨b, off + k * 2, none⟩ = some (.string xs) := (cell_alloc_lt _ hbw8).trans e0
            have e1' : (w8.alloc (.cells #[.string xs, .string xp] 23)).cell? ⟨b, off + k * 2 + 1, none⟩ = some (.string xp) := (cell_alloc_lt _ hbw8).trans e1
            have HB8 := Lib.hid (show Below w6.heap.size w6 (w8.alloc (.cells #[.string xs, .string xp] 23)) from (HB7.out.trans (hb8.mono (by omega))).alloc (by omega) _)
            clear hb8
            go_wp2_with fail
            go_quiet (fail)
            go_wp2
            go_roundw
            case rel => exact ⟨k + 1, by omega, by go_num, Below.drewN HB8.out _⟩
            case measure => simp [intOf]; omega
          · have m3 : decide ((k : Int) < (n : Int)) = false := by simpa using hlt
            go_wp2
            go_ret
            exact ⟨rfl, HBT.out⟩

end Go.Proofs.YtcahpjejpimdhaaGreatDoor
