/- The contract of the law KeyRows: it returns true, whatever the keys, and by how many they are turned. The contract of key.Keys. Plain: a value of which the key is told is that key's object; a table of which the keys are told is their table; and back. No program in sight. The contracts of legateref08.May and legateref08.Get. The contracts of legateref11's picker: Take, Text. -/
import Derived.Test.YtcahpjejpimdhaaGreatDoorZb31
import Derived.Test.YtcahpjejpimdhaaGreatDoorZb16
import Derived.Test.YtcahpjejpimdhaaGreatDoorZb13
import Derived.Test.YtcahpjejpimdhaaGreatDoorZb22
import Derived.Test.YtcahpjejpimdhaaGreatDoorZb15
import Derived.Test.YtcahpjejpimdhaaGreatDoorZb19
import Derived.Test.YtcahpjejpimdhaaGreatDoorZb09
import Derived.Test.YtcahpjejpimdhaaGreatDoorZb11
import Derived.Test.YtcahpjejpimdhaaGreatDoorZb30
import Derived.Deep.AppendLies

namespace Go.Proofs.YtcahpjejpimdhaaGreatDoor
open Go.RowKit

theorem infoKey : (Tryz.prog.info? 23).map (fun i => (i.zero, i.size, i.bytes)) = some (some (.agg #[.string { data := #[] }, .string { data := #[] }]), 2, 32) := by kernel_rfl

set_option maxHeartbeats 2000000 in
set_option maxRecDepth 100000 in
theorem lawKeyRows (l : List Key2) (y : Nat) (a : Option Addr) (c : Nat) (w : World) (hK : KeysAt w 0 w.heap.size a l) (hl : l.length ≤ 9223372036854775807) (hy : y ≤ 255) (hT : Tabs w) :
    Calls Tryz.prog 8 #[.slice a l.length c, .int .u8 (y : Int)] w fun e w' => e = .returned (.bool true) ∧ Below w.heap.size w w' := by
  have HT := Lib.hid hT
  have HK := Lib.hid hK
  have HF := Lib.hid (lawFew l a c w hK hl)
  clear hT hK
  have HAW := Lib.hid (show ∀ w', Below w.heap.size w w' → Calls Tryz.prog 14 #[] w' (fun e w'' => e = .returned (.bool true) ∧ Below w.heap.size w w'') from fun w' h => by
    refine (lawAwake w' (HT.out.below h)).mono ?_
    rintro e w'' ⟨rfl, hb⟩
    exact ⟨rfl, h.trans (hb.mono h.size)⟩)
  go_enter Tryz.func8, Tryz.ntmps8
  go_wp2_with fail
  refine HF.out.mono ?_
  clear HF
  rintro e w1 ⟨b, rfl, hfew, hb1⟩
  have HB1 := Lib.hid hb1
  clear hb1
  cases b
  · clear hfew
    go_wp2_with fail
    refine (HAW.out w1 HB1.out).mono ?_
    rintro e w2 ⟨rfl, hb2⟩
    go_wp2
    go_ret
    exact ⟨rfl, hb2⟩
  obtain ⟨h40, hsh⟩ := hfew rfl
  have HSH := Lib.hid hsh
  clear hfew hsh
  by_cases h16 : l.length ≤ 16
  case neg =>
    have h17 : decide (16 < (l.length : Int)) = true := by simp; omega
    have h18 : (16 : Int) < (l.length : Int) := by omega
    go_wp2_with fail
    refine (HAW.out w1 HB1.out).mono ?_
    rintro e w2 ⟨rfl, hb2⟩
    go_wp2
    go_ret
    exact ⟨rfl, hb2⟩
  have h17 : decide (16 < (l.length : Int)) = false := by simp; omega
  have h18 : ¬ (16 : Int) < (l.length : Int) := by omega
  go_wp2_with fail
  refine (HAW.out w1 HB1.out).mono ?_
  clear HB1
  rintro e w2 ⟨rfl, hb2⟩
  have HB2 := Lib.hid hb2
  have HTA := Lib.hid (keyTable_any l a c w2 (HK.out.below HB2.out (Nat.le_refl _) (Nat.le_refl _) HB2.out.size) h40 HSH.out (HT.out.below HB2.out))
  unfold TabAny ValPost at HTA
  have HPM := Lib.hid (turned_perm l y)
  have HEB := Lib.hid (tabE_perm (turned_perm l y))
  have HSM := Lib.hid (show ∀ k ∈ turned l y l.length, k.1.size ≤ 300 ∧ k.2.size ≤ 300 from fun k hk => HSH.out k (HPM.out.subset hk))
  have HPA := Lib.hid (@tabE_parts l)
  have HPB := Lib.hid (@tabE_parts (turned l y l.length))
  have HTU := Lib.hid (fun (am : Option Addr) (cm : Nat) (w : World) (h : KeysAt w 0 w.heap.size am (turned l y l.length)) (hT : Tabs w) => keyTable_any (turned l y l.length) am cm w h (by rw [turned_len]; exact h40) HSM.out hT)
  unfold TabAny ValPost at HTU
  obtain ⟨E1, hE1⟩ : ∃ E1, E1 = tabE l := ⟨_, rfl⟩
  obtain ⟨E2, hE2⟩ : ∃ E2, E2 = tabE (turned l y l.length) := ⟨_, rfl⟩
  obtain ⟨bb, hbb⟩ : ∃ bb, bb = (E1 == 0) := ⟨_, rfl⟩
  rw [← hE1] at HTA HEB HPA
  rw [← hE2] at HTU HEB HPB
  have t1 : (E1 == 0) = bb := hbb.symm
  have t2 : (E2 == 0) = bb := by rw [HEB.out, hbb]
  clear hb2 hE1 hE2 hbb HEB
  go_wp2_with fail
  refine HTA.out.mono ?_
  clear HTA
  rintro e w3 ⟨u, hu, _, hwu, an, cn, ai, ci, rfl, hr3, hb3⟩
  have HU := Lib.hid hu
  have HB3 := Lib.hid (show Below w.heap.size w (w3.alloc (.cells #[.int .u8 u.kind, .int .i64 u.n, .string u.t, .slice an u.names.length cn, .slice ai u.items.length ci] 29)) from (HB2.out.trans (hb3.mono HB2.out.size)).alloc (by have := HB2.out.size; have := hb3.size; omega) _)
  have HR3 := Lib.hid (show Rep (w3.alloc (.cells #[.int .u8 u.kind, .int .i64 u.n, .string u.t, .slice an u.names.length cn, .slice ai u.items.length ci] 29)) 0 w3.heap.size u (.agg #[.int .u8 u.kind, .int .i64 u.n, .string u.t, .slice an u.names.length cn, .slice ai u.items.length ci]) from Rep.carry (Nat.zero_le _) (Nat.le_refl _) (fun b _ h => Below.heap_alloc _ _ _ h) _ _ hr3)
  have HX3 := Lib.hid (heap_alloc_new w3 (.cells #[.int .u8 u.kind, .int .i64 u.n, .string u.t, .slice an u.names.length cn, .slice ai u.items.length ci] 29))
  have hz3 : (w3.alloc (.cells #[.int .u8 u.kind, .int .i64 u.n, .string u.t, .slice an u.names.length cn, .slice ai u.items.length ci] 29)).heap.size = w3.heap.size + 1 := by simp
  have HZ3 := Lib.hid hz3
  clear hu hr3 hb3 HB2 hz3
  obtain ⟨i3, hi3, iz0, iz1, iz2⟩ := info_parts infoKey
  obtain ⟨n, hn⟩ : ∃ n, n = l.length := ⟨_, rfl⟩
  rw [← hn] at h40 h16 h17 h18 hl HPM HSM HPB HTU
  rw [← hn]
  have HN := Lib.hid hn
  clear hn
  go_wp2_with fail
  obtain ⟨W3, hW3⟩ : ∃ W3, W3 = w3.alloc (.cells #[.int .u8 u.kind, .int .i64 u.n, .string u.t, .slice an u.names.length cn, .slice ai u.items.length ci] 29) := ⟨_, rfl⟩
  obtain ⟨p5, hp5⟩ : ∃ p5, p5 = w3.heap.size := ⟨_, rfl⟩
  rw [← hW3] at HB3 HR3 HX3 HZ3
  rw [← hp5] at HR3 HX3 HZ3
  rw [← hW3, ← hp5]
  clear hW3 hp5
  go_loopw [7, 8] (fun v i wr => ∃ r : Nat, r ≤ n ∧ i = .int .i64 ((r : Int) - 1) ∧ wr.ownsRow W3.heap.size 23 2 v (n - r) ((turned l y (n - r)).flatMap encK) ∧ Below W3.heap.size W3 wr) (fun _ i _ => ((intOf i) + 1).toNat)
  case atStart => exact ⟨n, Nat.le_refl _, by go_num, by rw [Nat.sub_self]; exact World.ownsRow_nil _ _ _ _, Below.refl _ _⟩
  case round =>
    obtain ⟨r, hr, rfl, hown, hbel⟩ := hrel
    have HO := Lib.hid hown
    have HB := Lib.hid hbel
    have hzw : W3.heap.size ≤ wr.heap.size := hbel.size
    clear hown hbel
    rcases r with _ | r
    case succ =>
      rw [show ((r + 1 : Nat) : Int) - 1 = (r : Int) by omega]
      obtain ⟨q, hq⟩ : ∃ q, q = (r + y) % n := ⟨_, rfl⟩
      have hnn : 0 < n := by omega
      have hqn : q < n := by rw [hq]; exact Nat.mod_lt _ hnn
      have g0 : IntKind.i64.wrap ((r : Int) + (y : Int)) = (r : Int) + (y : Int) := IntWalk.i64_in _ (by omega)
      have g2 : ((r : Int) + (y : Int)).tmod (n : Int) = (q : Int) := by rw [Int.tmod_eq_emod_of_nonneg (by omega), hq]; simp
      have g3 : ((r : Int) + (y : Int)) % (n : Int) = (q : Int) := by rw [hq]; simp
      have g4 : ((n : Int) == 0) = false := by simp; omega
      have g5 : ¬ (n : Int) = 0 := by omega
      have g6 : (0 : Int) ≤ (q : Int) := by omega
      have g7 : (q : Int) < (n : Int) := by omega
      have hql : q < l.length := by rw [← HN.out]; exact hqn
      obtain ⟨b, off, ha, _, hb, e0, e1⟩ := (HK.out.below (HB3.out.trans (HB.out.mono HB3.out.size)) (Nat.le_refl _) (Nat.le_refl _) (HB3.out.trans (HB.out.mono HB3.out.size)).size).at q hql
      subst ha
      have HTS := Lib.hid (show turned l y (n - r) = turned l y (n - (r + 1)) ++ [l[q]] by
        have h1 : n - r = (n - (r + 1)) + 1 := by omega
        have h2 : (l.length - 1 - (n - (r + 1)) + y) % l.length = q := by
          rw [← HN.out, hq]; congr 1; omega
        rw [h1, turned_succ l y _ (by rw [h2]; exact hql)]
        simp only [h2])
      obtain ⟨x, hx⟩ : ∃ x : Key2, x = l[q] := ⟨_, rfl⟩
      replace e0 := e0.trans (congrArg (fun z : Key2 => some (Value.string z.1)) hx.symm)
      replace e1 := e1.trans (congrArg (fun z : Key2 => some (Value.string z.2)) hx.symm)
      replace HTS := Lib.hid (HTS.out.trans (congrArg (fun z : Key2 => turned l y (n - (r + 1)) ++ [z]) hx.symm))
      clear hx hq
      obtain ⟨xs, xp⟩ := x
      replace e0 : wr.cell? ⟨b, off + q * 2, none⟩ = some (.string xs) := e0
      replace e1 : wr.cell? ⟨b, off + q * 2 + 1, none⟩ = some (.string xp) := e1
      go_wp2_with (at_builtin; refine wpList_append_lies _ rfl (.tmp 41) (.tmp 52) 43 rfl W3.heap.size 23 i3 _ 2 32 Tryz.underlying43 hi3 iz0 iz1 iz2 rfl (by decide) _ (n - (r + 1)) ((turned l y (n - (r + 1))).flatMap encK) rfl (HO.out.alloc _) ⟨wr.heap.size, 0, none⟩ 1 1 [.string xs, .string xp] rfl rfl (World.news_of_block (cs := #[.string xs, .string xp]) (t := 23) (fr := (0, 0)) (heap_alloc_new wr _)) (by simp [Value.oneCell']) (by omega) (by unfold maxLen; omega) (by omega) (by simp; omega) (wr.heap.size + 1) (by simp) ?_; intro g1 cap2 w6 hown6 hgrow6 hat6 hlt6; have HO6 := Lib.hid hown6; have HG6 := Lib.hid hgrow6; clear hown6 hgrow6 hat6)
      go_roundw
      case rel =>
        refine ⟨r, by omega, by go_num, ?_, below_grown (HB.out.alloc (by omega) _) (by simp; omega) HG6.out (fun b hb => (HO.out.lt b hb).1)⟩
        have := HO6.out
        rw [show n - (r + 1) + 1 = n - r by omega] at this
        rw [HTS.out, List.flatMap_append]
        simpa [encK, show n - (r + 1) + 1 = n - r by omega] using this
      case measure => (simp [intOf]; try omega)
    case zero =>
      obtain ⟨am, cm, hv, hKM⟩ := owns_keys (M := turned l y n) (by have := HO.out; rwa [Nat.sub_zero] at this) (by rw [turned_len])
      subst hv
      rw [turned_len] at *
      have HKM := Lib.hid hKM
      have HBW := Lib.hid (HB3.out.trans (HB.out.mono HB3.out.size))
      have HTB := Lib.hid (HTU.out am cm wr (hKM.carry (Nat.zero_le _) (Nat.le_refl _) (fun _ _ _ => rfl)) (HT.out.below HBW.out))
      clear hKM HO HTU
      obtain ⟨wo, rfl⟩ : ∃ wo : World, wo = wr := ⟨_, rfl⟩
      have j0 : ((0 : Nat) : Int) - 1 = -1 := by omega
      rw [j0]
      go_wp2_with fail
      refine HTB.out.mono ?_
      clear HTB
      rintro e w4 ⟨v, hv, _, hwv, bn, dn, bi, di, rfl, hr4, hb4⟩
      have HV := Lib.hid hv
      obtain ⟨W5, hW5⟩ : ∃ W5, W5 = w4.alloc (.cells #[.int .u8 v.kind, .int .i64 v.n, .string v.t, .slice bn v.names.length dn, .slice bi v.items.length di] 29) := ⟨_, rfl⟩
      have hb5 : Below wo.heap.size wo W5 := by rw [hW5]; exact hb4.alloc hb4.size _
      have HB5 := Lib.hid (HBW.out.trans (hb5.mono HBW.out.size))
      have HW5 := Lib.hid hb5
      have hz4 : wo.heap.size ≤ w4.heap.size := hb4.size
      have hz5 : W5.heap.size = w4.heap.size + 1 := by rw [hW5]; simp
      have HZ5 := Lib.hid hz5
      have hb35 : Below W3.heap.size W3 W5 := HB.out.trans (hb5.mono hzw)
      have HR5 := Lib.hid (show Rep W5 0 W5.heap.size v (.agg #[.int .u8 v.kind, .int .i64 v.n, .string v.t, .slice bn v.names.length dn, .slice bi v.items.length di]) from by
        rw [hW5]; exact Rep.carry (Nat.zero_le _) (by simp) (fun b _ h => Below.heap_alloc _ _ _ h) _ _ hr4)
      have HR3' := Lib.hid (show Rep W5 0 W5.heap.size u (.agg #[.int .u8 u.kind, .int .i64 u.n, .string u.t, .slice an u.names.length cn, .slice ai u.items.length ci]) from Rep.carry (Nat.le_refl _) (by have := HZ3.out; omega) (fun b _ h => hb35.block b (by have := HZ3.out; omega)) _ _ HR3.out)
      have hx3 : W5.heap[p5]? = some (.cells #[.int .u8 u.kind, .int .i64 u.n, .string u.t, .slice an u.names.length cn, .slice ai u.items.length ci] 29 (0, 0)) := by rw [hb35.block _ (by have := HZ3.out; omega)]; exact HX3.out
      have hx5 : W5.heap[w4.heap.size]? = some (.cells #[.int .u8 v.kind, .int .i64 v.n, .string v.t, .slice bn v.names.length dn, .slice bi v.items.length di] 29 (0, 0)) := by rw [hW5]; exact heap_alloc_new w4 _
      have HK5 := Lib.hid (HKM.out.below hb5 (Nat.le_refl _) (Nat.le_refl _) hb5.size)
      have HL5 := Lib.hid (HK.out.below HB5.out (Nat.le_refl _) (Nat.le_refl _) (Nat.le_refl _))
      cases bb
      · have HW := Lib.hid hW5
        clear hv hr4 hb4 hb5 hb35 hx3 hx5 hz5 hW5
        go_wp2_with fail
        rw [← HW.out]
        clear HW
        go_loopw [11] (fun i wr => i = .int .i64 0 ∧ wr = W5) (fun _ _ => 0)
        case atStart => exact ⟨rfl, rfl⟩
        case round =>
          obtain ⟨rfl, rfl⟩ := hrel
          by_cases h0n : 0 < n
          · have q1 : decide ((0 : Int) < (n : Int)) = true := by simpa using h0n
            go_wp2
            go_ret
            exact ⟨rfl, HB5.out⟩
          · have q1 : decide ((0 : Int) < (n : Int)) = false := by simpa using h0n
            go_wp2
            go_ret
            exact ⟨rfl, HB5.out⟩
      · obtain rfl : E1 = 0 := by simpa using t1
        obtain rfl : E2 = 0 := by simpa using t2
        have huv : v = u := by
          obtain ⟨m1, hp1, hr1, h1⟩ := HU.out rfl
          obtain ⟨m2, hp2, hr2, h2⟩ := HV.out rfl
          rw [h1, h2, rises_unique (hp1.trans (HPM.out.symm.trans hp2.symm)) hr1 hr2]
        subst huv
        have HSA := Lib.hid (refSame 4294967296 v v _ _ 0 W5.heap.size W5 hwu hwu (Nat.le_refl _) (Nat.le_refl _) HR3'.out HR5.out)
        rw [show v.sameB v = true from (JV.sameB_iff v v).2 rfl] at HSA
        obtain ⟨hokl, _⟩ := HPA.out rfl
        obtain ⟨hokm, hndm⟩ := HPB.out rfl
        have HOK := Lib.hid hokl
        have HFK := Lib.hid (show ∀ x ∈ l, findK (id2 x) (turned l y n) = (x, true) from fun x hx => findK_mem (HPM.out.symm.subset hx) hokm hndm)
        have d0 : W5.cell? ⟨w4.heap.size, 0, none⟩ = some (.int .u8 v.kind) := box_cell hx5 rfl
        have d1 : W5.cell? ⟨w4.heap.size, 1, none⟩ = some (.int .i64 v.n) := box_cell hx5 rfl
        have d2 : W5.cell? ⟨w4.heap.size, 2, none⟩ = some (.string v.t) := box_cell hx5 rfl
        have d3 : W5.cell? ⟨w4.heap.size, 3, none⟩ = some (.slice bn v.names.length dn) := box_cell hx5 rfl
        have d4 : W5.cell? ⟨w4.heap.size, 4, none⟩ = some (.slice bi v.items.length di) := box_cell hx5 rfl
        have e0 : W5.cell? ⟨p5, 0, none⟩ = some (.int .u8 v.kind) := box_cell hx3 rfl
        have e1 : W5.cell? ⟨p5, 1, none⟩ = some (.int .i64 v.n) := box_cell hx3 rfl
        have e2 : W5.cell? ⟨p5, 2, none⟩ = some (.string v.t) := box_cell hx3 rfl
        have e3 : W5.cell? ⟨p5, 3, none⟩ = some (.slice an v.names.length cn) := box_cell hx3 rfl
        have e4 : W5.cell? ⟨p5, 4, none⟩ = some (.slice ai v.items.length ci) := box_cell hx3 rfl
        rw [hW5] at d0 d1 d2 d3 d4 e0 e1 e2 e3 e4
        have HW := Lib.hid hW5
        clear hv hr4 hb4 hb5 hb35 hx3 hx5 hz5 hW5 hokl hokm hndm
        go_wp2_with fail
        clear d0 d1 d2 d3 d4 e0 e1 e2 e3 e4
        rw [← HW.out]
        refine HSA.out.mono ?_
        clear HSA HW
        rintro e w6 ⟨rfl, hb6⟩
        have HB6 := Lib.hid (HB5.out.trans (hb6.mono HB5.out.size))
        have HK6 := Lib.hid (HK5.out.below hb6 (Nat.le_refl _) (Nat.zero_le _) hb6.size)
        have HL6 := Lib.hid (HL5.out.below hb6 (by have := HB5.out.size; omega) (Nat.le_refl _) (Nat.le_refl _))
        clear hb6
        have hz6 : w.heap.size ≤ w6.heap.size := HB6.out.size
        go_wp2_with fail
        go_loopw [11, 12, 13, 14, 15] (fun i _ _ _ _ wr => ∃ k : Nat, k ≤ n ∧ i = .int .i64 k ∧ Below w6.heap.size w6 wr) (fun i _ _ _ _ _ => n - (intOf i).toNat)
        case atStart => exact ⟨0, by omega, rfl, Below.refl _ _⟩
        case round =>
          obtain ⟨k, hk, rfl, hbk⟩ := hrel
          have HBK := Lib.hid hbk
          have HBT := Lib.hid (HB6.out.trans (hbk.mono hz6))
          have hzk : w6.heap.size ≤ wr.heap.size := hbk.size
          clear hbk
          by_cases hlt : k < n
          · have hkl : k < l.length := by rw [← HN.out]; exact hlt
            obtain ⟨b, off, ha, _, hb, e0, e1⟩ := (HL6.out.below HBK.out (by omega) (Nat.le_refl _) (Nat.le_refl _)).at k hkl
            subst ha
            obtain ⟨hs1, hs2⟩ := HSH.out l[k] (List.getElem_mem hkl)
            have hok := HOK.out l[k] (List.getElem_mem hkl)
            have hfk := HFK.out l[k] (List.getElem_mem hkl)
            obtain ⟨x, hx⟩ : ∃ x : Key2, x = l[k] := ⟨_, rfl⟩
            replace e0 := e0.trans (congrArg (fun z : Key2 => some (Value.string z.1)) hx.symm)
            replace e1 := e1.trans (congrArg (fun z : Key2 => some (Value.string z.2)) hx.symm)
            replace hs1 : x.1.size ≤ 300 := Eq.mp (congrArg (fun z : Key2 => z.1.size ≤ 300) hx.symm) hs1
            replace hs2 : x.2.size ≤ 300 := Eq.mp (congrArg (fun z : Key2 => z.2.size ≤ 300) hx.symm) hs2
            replace hok : ok2 x = true := Eq.mp (congrArg (fun z : Key2 => ok2 z = true) hx.symm) hok
            replace hfk : findK (id2 x) (turned l y n) = (x, true) := Eq.mp (congrArg (fun z : Key2 => findK (id2 z) (turned l y n) = (z, true)) hx.symm) hfk
            clear hx
            obtain ⟨xs, xp⟩ := x
            replace e0 : wr.cell? ⟨b, off + k * 2, none⟩ = some (.string xs) := e0
            replace e1 : wr.cell? ⟨b, off + k * 2 + 1, none⟩ = some (.string xp) := e1
            replace hs1 : xs.size ≤ 300 := hs1
            replace hs2 : xp.size ≤ 300 := hs2
            replace hok : keyOk xs.data.toList xp.data.toList = true := hok
            have HID := Lib.hid (keyID xs xp wr (by omega) (by omega) (HT.out.below HBT.out))
            unfold KeyIdPost at HID
            rw [hok, if_pos rfl] at HID
            obtain ⟨ID, hID⟩ : ∃ ID : ByteArray, ID = ⟨(keyId xs.data.toList xp.data.toList).toArray⟩ := ⟨_, rfl⟩
            rw [← hID] at HID
            have HFI := Lib.hid (show findK ID (turned l y n) = ((xs, xp), true) by rw [hID]; exact hfk)
            clear hok hfk hID
            have m1 : (0 : Int) ≤ (k : Int) := by omega
            have m2 : (k : Int) < (n : Int) := by omega
            have m3 : decide ((k : Int) < (n : Int)) = true := by simpa using hlt
            go_wp2_with fail
            refine HID.out.mono ?_
            clear HID
            rintro e w7 ⟨rfl, hb7⟩
            have HB7 := Lib.hid (HBK.out.trans (hb7.mono hzk))
            have HF := Lib.hid (keyFind (turned l y n) ID am cm w7 (HK6.out.below HB7.out (Nat.le_refl _) (Nat.le_refl _) HB7.out.size) (by rw [turned_len]; omega) HSM.out (HT.out.below (HB6.out.trans (HB7.out.mono hz6))))
            unfold KFindPost at HF
            rw [HFI.out, turned_len] at HF
            have hbw : b < wr.heap.size := by omega
            replace e0 : w7.cell? ⟨b, off + k * 2, none⟩ = some (.string xs) := by rw [hb7.cell hbw]; exact e0
            replace e1 : w7.cell? ⟨b, off + k * 2 + 1, none⟩ = some (.string xp) := by rw [hb7.cell hbw]; exact e1
            have hz7 : wr.heap.size ≤ w7.heap.size := hb7.size
            clear hb7
            go_wp2_with fail
            refine HF.out.mono ?_
            clear HF
            rintro e w8 ⟨rfl, hb8⟩
            have hz8 : w7.heap.size ≤ w8.heap.size := hb8.size
            have hbw7 : b < w7.heap.size := by omega
            have hbw8 : b < w8.heap.size := by omega
            replace e0 : w8.cell? ⟨b, off + k * 2, none⟩ = some (.string xs) := by rw [hb8.cell hbw7]; exact e0
            replace e1 : w8.cell? ⟨b, off + k * 2 + 1, none⟩ = some (.string xp) := by rw [hb8.cell hbw7]; exact e1
            have e0' : (w8.alloc (.cells #[.string xs, .string xp] 23)).cell? ⟨b, off + k * 2, none⟩ = some (.string xs) := (cell_alloc_lt _ hbw8).trans e0
            have e1' : (w8.alloc (.cells #[.string xs, .string xp] 23)).cell? ⟨b, off + k * 2 + 1, none⟩ = some (.string xp) := (cell_alloc_lt _ hbw8).trans e1
            have HB8 := Lib.hid (show Below w6.heap.size w6 (w8.alloc (.cells #[.string xs, .string xp] 23)) from (HB7.out.trans (hb8.mono (by omega))).alloc (by omega) _)
            clear hb8
            go_wp2_with fail
            go_quiet (fail)
            go_wp2
            go_roundw
            case rel => exact ⟨k + 1, by omega, by go_num, Below.drewN HB8.out _⟩
            case measure => simp [intOf]; omega
          · have m3 : decide ((k : Int) < (n : Int)) = false := by simpa using hlt
            go_wp2
            go_ret
            exact ⟨rfl, HBT.out⟩

end Go.Proofs.YtcahpjejpimdhaaGreatDoor

namespace Go.Proofs.YtcahpjejpimdhaaGreatDoor
open Go.RowKit

theorem keyOfJ_ok {v : JV} (h : (keyOfJ v).2 = 0) : keyOk (keyOfJ v).1.1.data.toList (keyOfJ v).1.2.data.toList = true ∧ (keyOfJ v).1.1.size ≤ 64 ∧ (keyOfJ v).1.2.size ≤ 128 := by
  have h2 : keyOk (keyOfJ v).1.1.data.toList (keyOfJ v).1.2.data.toList = true := by
    unfold keyOfJ at h ⊢
    split at h
    · cases h
    next c1 =>
    rw [if_neg c1]
    split at h
    · cases h
    next c2 =>
    rw [if_neg c2]
    split at h
    · next c3 => exact absurd h c3
    next c3 =>
    rw [if_neg c3]
    split at h
    · next c4 => rw [if_pos c4]; exact c4
    · cases h
  obtain ⟨_, _, a, b⟩ := key_txt h2
  exact ⟨h2, a, b⟩
/-- The keys of a table's entries; or why there are none. -/
def keysL : List ByteArray → List JV → List Key2 → List Key2 × Int
  | id :: ns, it :: its, acc => if (keyOfJ it).2 ≠ 0 then ([], (keyOfJ it).2) else if (idOf (keyOfJ it).1.1 (keyOfJ it).1.2).toList == id.toList then keysL ns its (acc ++ [(keyOfJ it).1]) else ([], 3)
  | _, _, acc => (acc, 0)
def stepL (r : Key2 × Int) (id : ByteArray) (ns : List ByteArray) (its : List JV) (acc : List Key2) : List Key2 × Int :=
  if r.2 ≠ 0 then ([], r.2) else if (idOf r.1.1 r.1.2).toList == id.toList then keysL ns its (acc ++ [r.1]) else ([], 3)
theorem keysL_nil (its : List JV) (acc : List Key2) : keysL [] its acc = (acc, 0) := by
  unfold keysL; rfl
theorem keysL_step (ns : List ByteArray) (its : List JV) (k : Nat) (acc : List Key2) (h : k < ns.length) (h' : k < its.length) : keysL (ns.drop k) (its.drop k) acc = stepL (keyOfJ its[k]) ns[k] (ns.drop (k + 1)) (its.drop (k + 1)) acc := by
  rw [List.drop_eq_getElem_cons h, List.drop_eq_getElem_cons h', keysL, stepL]
def keysJ (v : JV) : List Key2 × Int := if v.mayB = false then ([], 3) else if v.kind ≠ 5 then ([], 10) else if 32 < v.names.length then ([], 5) else keysL v.names v.items []
def KeysPost (v : JV) (w : World) (e : Ending) (w' : World) : Prop :=
  ∃ val, e = .returned (.tuple #[val, .int .i64 (keysJ v).2]) ∧ w'.ownsRow w.heap.size 23 2 val (keysJ v).1.length ((keysJ v).1.flatMap encK) ∧ Below w.heap.size w w'

set_option maxHeartbeats 2000000 in
set_option maxRecDepth 100000 in
theorem keyKeys (v : JV) (x : Value) (w : World) (hN : v.wt ≤ 4294967296) (hR : Rep w 0 w.heap.size v x) (hT : Tabs w) :
    Calls Tryz.prog 35 #[x] w (KeysPost v w) := by
  obtain ⟨an, cn, ai, ci, hx, h1, h2, h3, h4⟩ := hR.parts
  have HR := Lib.hid hR
  have H3 := Lib.hid h3
  have H4 := Lib.hid h4
  obtain ⟨b1, b2, b3, b4⟩ := v.wt_bd
  clear h1 h2 h3 h4 hR
  subst hx
  have HT := Lib.hid hT
  clear hT
  have HB0 := Lib.hid (show Below w.heap.size w (w.alloc (.cells #[.int .u8 v.kind, .int .i64 v.n, .string v.t, .slice an v.names.length cn, .slice ai v.items.length ci] 29)) from (Below.refl _ _).alloc (Nat.le_refl _) _)
  have HX0 := Lib.hid (heap_alloc_new w (.cells #[.int .u8 v.kind, .int .i64 v.n, .string v.t, .slice an v.names.length cn, .slice ai v.items.length ci] 29))
  have HM := Lib.hid (valueMay v _ (w.alloc (.cells #[.int .u8 v.kind, .int .i64 v.n, .string v.t, .slice an v.names.length cn, .slice ai v.items.length ci] 29)) hN (HR.out.below HB0.out (Nat.le_refl _) (Nat.le_refl _) (by simp)))
  cases hm : v.mayB
  · have HK := Lib.hid (show keysJ v = ([], 3) by unfold keysJ; rw [if_pos hm])
    rw [hm] at HM
    clear hm
    go_enter Tryz.func35, Tryz.ntmps35
    go_wp2_with fail
    refine HM.out.mono ?_
    rintro e w1 ⟨rfl, hb1⟩
    have HB1 := Lib.hid (HB0.out.trans (hb1.mono (by simp)))
    clear hb1
    go_wp2
    go_ret2
    exact ⟨.slice none 0 0, by rw [HK.out] <;> rfl, by rw [HK.out]; exact World.ownsRow_nil _ _ _ _, HB1.out⟩
  rw [hm] at HM
  have HMB := Lib.hid hm
  clear hm
  by_cases hk5 : v.kind = 5
  case neg =>
    have HK := Lib.hid (show keysJ v = ([], 10) by unfold keysJ; rw [if_neg (by simp [HMB.out]), if_pos hk5])
    have t1 : (v.kind != 5) = true := by simpa using hk5
    clear hk5
    go_enter Tryz.func35, Tryz.ntmps35
    go_wp2_with fail
    refine HM.out.mono ?_
    rintro e w1 ⟨rfl, hb1⟩
    have hx1 : w1.heap[w.heap.size]? = some (.cells #[.int .u8 v.kind, .int .i64 v.n, .string v.t, .slice an v.names.length cn, .slice ai v.items.length ci] 29 (0, 0)) := by rw [hb1.block _ (by simp)]; exact HX0.out
    have HB1 := Lib.hid (HB0.out.trans (hb1.mono (by simp)))
    have c0 : w1.cell? ⟨w.heap.size, 0, none⟩ = some (.int .u8 v.kind) := box_cell hx1 rfl
    clear hb1 hx1
    go_wp2
    go_ret2
    exact ⟨.slice none 0 0, by rw [HK.out] <;> rfl, by rw [HK.out]; exact World.ownsRow_nil _ _ _ _, HB1.out⟩
  have t1 : (v.kind != 5) = false := by simpa using hk5
  obtain ⟨_, hll, _⟩ := may_obj HMB.out hk5
  have HK5 := Lib.hid hk5
  clear hk5
  obtain ⟨nn, hnn⟩ : ∃ nn, nn = v.names.length := ⟨_, rfl⟩
  rw [← hll, ← hnn] at HM HX0 HB0
  rw [← hll, ← hnn]
  have HNN := Lib.hid hnn
  have HNI := Lib.hid (show v.items.length = nn by rw [hnn, hll])
  clear hnn hll
  by_cases h32 : nn ≤ 32
  case neg =>
    have HK := Lib.hid (show keysJ v = ([], 5) by unfold keysJ; rw [if_neg (by simp [HMB.out]), if_neg (by simp [HK5.out]), if_pos (by rw [← HNN.out]; omega)])
    have t2 : decide (32 < (nn : Int)) = true := by simp; omega
    go_enter Tryz.func35, Tryz.ntmps35
    go_wp2_with fail
    refine HM.out.mono ?_
    rintro e w1 ⟨rfl, hb1⟩
    have hx1 : w1.heap[w.heap.size]? = some (.cells #[.int .u8 v.kind, .int .i64 v.n, .string v.t, .slice an nn cn, .slice ai nn ci] 29 (0, 0)) := by rw [hb1.block _ (by simp)]; exact HX0.out
    have HB1 := Lib.hid (HB0.out.trans (hb1.mono (by simp)))
    have c0 : w1.cell? ⟨w.heap.size, 0, none⟩ = some (.int .u8 v.kind) := box_cell hx1 rfl
    have c3 : w1.cell? ⟨w.heap.size, 3, none⟩ = some (.slice an nn cn) := box_cell hx1 rfl
    clear hb1 hx1
    go_wp2
    go_ret2
    exact ⟨.slice none 0 0, by rw [HK.out] <;> rfl, by rw [HK.out]; exact World.ownsRow_nil _ _ _ _, HB1.out⟩
  have t2 : decide (32 < (nn : Int)) = false := by simp; omega
  have HKJ := Lib.hid (show keysJ v = keysL v.names v.items [] by unfold keysJ; rw [if_neg (by simp [HMB.out]), if_neg (by simp [HK5.out]), if_neg (by rw [← HNN.out]; omega)])
  obtain ⟨i3, hi3, iz0, iz1, iz2⟩ := info_parts infoKey
  go_enter Tryz.func35, Tryz.ntmps35
  go_wp2_with fail
  refine HM.out.mono ?_
  clear HM
  rintro e w1 ⟨rfl, hb1⟩
  have hx1 : w1.heap[w.heap.size]? = some (.cells #[.int .u8 v.kind, .int .i64 v.n, .string v.t, .slice an nn cn, .slice ai nn ci] 29 (0, 0)) := by rw [hb1.block _ (by simp)]; exact HX0.out
  have HX1 := Lib.hid hx1
  have HB1 := Lib.hid (HB0.out.trans (hb1.mono (by simp)))
  have hz1 : w.heap.size < w1.heap.size := heap_lt hx1
  have c0 : w1.cell? ⟨w.heap.size, 0, none⟩ = some (.int .u8 v.kind) := box_cell hx1 rfl
  have c3 : w1.cell? ⟨w.heap.size, 3, none⟩ = some (.slice an nn cn) := box_cell hx1 rfl
  clear hb1 hx1 HB0 HX0
  go_wp2_with fail
  clear c0 c3
  go_loopw [4, 5, 6, 7, 8, 9, 23] (fun ks _ _ _ _ _ i wr => ∃ (k : Nat) (acc : List Key2), k ≤ nn ∧ i = .int .i64 k ∧ acc.length = k ∧ keysJ v = keysL (v.names.drop k) (v.items.drop k) acc ∧ wr.ownsRow w1.heap.size 23 2 ks k (acc.flatMap encK) ∧ Below w1.heap.size w1 wr) (fun ks _ _ _ _ _ i _ => nn - (intOf i).toNat)
  case atStart => exact ⟨0, [], by omega, rfl, rfl, HKJ.out, World.ownsRow_nil _ _ _ _, Below.refl _ _⟩
  case round =>
    obtain ⟨k, acc, hk, rfl, hac, hkj, hown, hbel⟩ := hrel
    obtain ⟨am, cm, hv0, _⟩ := owns_keys hown hac.symm
    rw [hac] at hv0
    subst hv0
    have HKK := Lib.hid hkj
    have HO := Lib.hid hown
    have HB := Lib.hid hbel
    have HBT := Lib.hid (HB1.out.trans (hbel.mono HB1.out.size))
    have hzw : w1.heap.size ≤ wr.heap.size := hbel.size
    have hxw : wr.heap[w.heap.size]? = some (.cells #[.int .u8 v.kind, .int .i64 v.n, .string v.t, .slice an nn cn, .slice ai nn ci] 29 (0, 0)) := by rw [hbel.block _ hz1]; exact HX1.out
    have HXW := Lib.hid hxw
    have c3 : wr.cell? ⟨w.heap.size, 3, none⟩ = some (.slice an nn cn) := box_cell hxw rfl
    have c4 : wr.cell? ⟨w.heap.size, 4, none⟩ = some (.slice ai nn ci) := box_cell hxw rfl
    clear hkj hown hbel hxw
    by_cases hlt : k < nn
    · have hlv : k < v.names.length := by rw [← HNN.out]; exact hlt
      have hli : k < v.items.length := by rw [HNI.out]; exact hlt
      have HST := Lib.hid (keysL_step v.names v.items k acc hlv hli)
      obtain ⟨p, f, ha, _, hpb, y1⟩ := (H3.out.below HBT.out (Nat.le_refl _) (Nat.le_refl _) (Nat.le_refl _)).at k hlv
      subst ha
      obtain ⟨p', f', e0, e1, e2, e3, e4, ha, _, hpb', g0, g1, g2, g3, g4, hr⟩ := (H4.out.below HBT.out (Nat.le_refl _) (Nat.le_refl _) (Nat.le_refl _)).at k hli
      subst ha
      have hw1 := JV.wts_get v.items k hli
      have HOF := Lib.hid (keyOfW v.items[k] _ wr w.heap.size (by omega) (by have := HBT.out.size; omega) hr)
      unfold KeyOfPost at HOF
      have HKO := Lib.hid (@keyOfJ_ok v.items[k])
      obtain ⟨K, hK⟩ : ∃ K, K = keyOfJ v.items[k] := ⟨_, rfl⟩
      obtain ⟨nk, hnk⟩ : ∃ nk, nk = v.names[k] := ⟨_, rfl⟩
      rw [← hK] at HOF HKO
      replace HST := Lib.hid (HST.out.trans (congrArg (fun z => stepL z v.names[k] (v.names.drop (k + 1)) (v.items.drop (k + 1)) acc) hK.symm))
      replace HST := Lib.hid (HST.out.trans (congrArg (fun z => stepL K z (v.names.drop (k + 1)) (v.items.drop (k + 1)) acc) hnk.symm))
      replace y1 := y1.trans (congrArg (fun z => some (Value.string z)) hnk.symm)
      clear hK hnk hr hw1 hlv hli
      obtain ⟨⟨sch, kp⟩, ke⟩ := K
      have q0 : (0 : Int) ≤ (k : Int) := by omega
      have q1 : (k : Int) < (nn : Int) := by omega
      by_cases hke : ke = 0
      case neg =>
        have t3 : (ke != 0) = true := by simpa using hke
        have HKE := Lib.hid (show keysJ v = ([], ke) by rw [HKK.out, HST.out]; unfold stepL; rw [if_pos hke])
        clear hke
        go_wp2_with fail
        refine HOF.out.mono ?_
        rintro e w2 ⟨rfl, hb2⟩
        have HB2 := Lib.hid ((HBT.out.trans (hb2.mono HBT.out.size)).alloc (by have := HBT.out.size; have := hb2.size; omega) (.cells #[.string sch, .string kp] 23))
        clear hb2
        go_wp2
        go_ret2
        exact ⟨.slice none 0 0, by rw [HKE.out] <;> rfl, by rw [HKE.out]; exact World.ownsRow_nil _ _ _ _, HB2.out⟩
      subst hke
      obtain ⟨hok, hsz1, hsz2⟩ := HKO.out rfl
      replace hok : keyOk sch.data.toList kp.data.toList = true := hok
      replace hsz1 : sch.size ≤ 64 := hsz1
      replace hsz2 : kp.size ≤ 128 := hsz2
      go_wp2_with fail
      refine HOF.out.mono ?_
      clear HOF
      rintro e w2 ⟨rfl, hb2⟩
      have hz2 : wr.heap.size ≤ w2.heap.size := hb2.size
      obtain ⟨W2, hW2⟩ : ∃ W2, W2 = w2.alloc (.cells #[.string sch, .string kp] 23) := ⟨_, rfl⟩
      have hb22 : Below wr.heap.size wr W2 := by rw [hW2]; exact hb2.alloc hb2.size _
      have HB2 := Lib.hid (HB.out.trans (hb22.mono hzw))
      have HBT2 := Lib.hid (HBT.out.trans (hb22.mono HBT.out.size))
      have HO2 := Lib.hid (owns_below HO.out hb22)
      have HX2 := Lib.hid (show W2.heap[w2.heap.size]? = some (.cells #[.string sch, .string kp] 23 (0, 0)) by rw [hW2]; exact heap_alloc_new w2 _)
      have HID := Lib.hid (keyID sch kp W2 (by omega) (by omega) (HT.out.below HBT2.out))
      unfold KeyIdPost at HID
      rw [hok, if_pos rfl] at HID
      obtain ⟨ID, hID⟩ : ∃ ID : ByteArray, ID = ⟨(keyId sch.data.toList kp.data.toList).toArray⟩ := ⟨_, rfl⟩
      rw [← hID] at HID
      replace HST := Lib.hid (show keysL (v.names.drop k) (v.items.drop k) acc = if (ID.toList == nk.toList) = true then keysL (v.names.drop (k + 1)) (v.items.drop (k + 1)) (acc ++ [(sch, kp)]) else ([], 3) by rw [HST.out]; unfold stepL; rw [if_neg (by simp)]; rw [hID]; rfl)
      have hzW : W2.heap.size = w2.heap.size + 1 := by rw [hW2]; simp
      have HW2 := Lib.hid hW2
      clear hID hok hb2 hb22 hW2
      go_wp2_with fail
      rw [← HW2.out]
      refine HID.out.mono ?_
      clear HID HW2
      rintro e w3 ⟨rfl, hb3⟩
      have hz3 : W2.heap.size ≤ w3.heap.size := hb3.size
      have HB3 := Lib.hid (HB2.out.trans (hb3.mono (by omega)))
      have HBT3 := Lib.hid (HBT2.out.trans (hb3.mono (HBT2.out.size)))
      have HO3 := Lib.hid (owns_below HO2.out hb3)
      have hx3 : w3.heap[w2.heap.size]? = some (.cells #[.string sch, .string kp] 23 (0, 0)) := by rw [hb3.block _ (heap_lt HX2.out)]; exact HX2.out
      have x0 : w3.cell? ⟨w2.heap.size, 0, none⟩ = some (.string sch) := box_cell hx3 rfl
      have x1 : w3.cell? ⟨w2.heap.size, 1, none⟩ = some (.string kp) := box_cell hx3 rfl
      clear hb3 hx3 g0 g1 g2 g3 g4 c3 c4 y1
      cases hq : (ID.toList == nk.toList)
      · have t4 : (ID.toList != nk.toList) = true := by simpa [bne] using hq
        have HKE := Lib.hid (show keysJ v = ([], 3) by rw [HKK.out, HST.out, hq]; rfl)
        go_wp2_with fail
        skip
        go_ret2
        exact ⟨.slice none 0 0, by rw [HKE.out] <;> rfl, by rw [HKE.out]; exact World.ownsRow_nil _ _ _ _, HBT3.out⟩
      · have t4 : (ID.toList != nk.toList) = false := by simpa [bne] using hq
        have HKE := Lib.hid (show keysJ v = keysL (v.names.drop (k + 1)) (v.items.drop (k + 1)) (acc ++ [(sch, kp)]) by rw [HKK.out, HST.out, hq]; rfl)
        go_wp2_with (at_builtin; refine wpList_append_lies _ rfl (.tmp 51) (.tmp 53) 43 rfl w1.heap.size 23 i3 _ 2 32 Tryz.underlying43 hi3 iz0 iz1 iz2 rfl (by decide) (.slice am k cm) k (acc.flatMap encK) rfl (HO3.out.alloc _) ⟨w3.heap.size, 0, none⟩ 1 1 [.string sch, .string kp] rfl rfl (World.news_of_block (cs := #[.string sch, .string kp]) (t := 23) (fr := (0, 0)) (heap_alloc_new w3 _)) (by simp [Value.oneCell']) (by omega) (by unfold maxLen; omega) (by omega) (by simp; omega) (w3.heap.size + 1) (by simp) ?_; intro g1 cap2 w6 hown6 hgrow6 hat6 hlt6; have HO6 := Lib.hid hown6; have HG6 := Lib.hid hgrow6; clear hown6 hgrow6 hat6)
        go_roundw
        case rel =>
          refine ⟨k + 1, acc ++ [(sch, kp)], by omega, by go_num, by simp [hac], HKE.out, ?_, below_grown (HB3.out.alloc (by omega) _) (by simp; omega) HG6.out (fun b hb => (HO3.out.lt b hb).1)⟩
          rw [List.flatMap_append]
          simpa [encK] using HO6.out
        case measure => simp [intOf]; omega
    · obtain rfl : k = nn := by omega
      have HKE := Lib.hid (show keysJ v = (acc, 0) by
        rw [HKK.out, List.drop_of_length_le (by rw [← HNN.out]; exact Nat.le_refl _), keysL_nil])
      go_wp2
      go_ret2
      exact ⟨_, by rw [HKE.out] <;> rfl, by rw [HKE.out]; have := owns_mono (base' := w.heap.size) HO.out (Nat.le_of_lt hz1); show wr.ownsRow _ _ _ _ acc.length _; rw [hac]; exact this, HBT.out⟩

end Go.Proofs.YtcahpjejpimdhaaGreatDoor

namespace Go.Proofs.YtcahpjejpimdhaaGreatDoor
open Go.RowKit

theorem ba_nil {t : ByteArray} (h : t.toList = []) : t = { data := #[] } := ba_ext (by rw [h, ByteArray.toList_eq])
theorem proper5 {n : Int} {t : ByteArray} {ns : List ByteArray} {li : Nat} (h : properB 5 n t ns li = true) : n = 0 ∧ t = { data := #[] } ∧ ns.length = li ∧ rises ns = true ∧ ns.all txtOk = true := by
  have e : properB 5 n t ns li = (decide (n = 0 ∧ t.toList = [] ∧ ns.length = li) && rises ns && ns.all txtOk) := rfl
  rw [e] at h
  simp only [Bool.and_eq_true, decide_eq_true_eq] at h
  exact ⟨h.1.1.1, ba_nil h.1.1.2.1, h.1.1.2.2, h.1.2, h.2⟩
theorem proper3 {n : Int} {t : ByteArray} {ns : List ByteArray} {li : Nat} (h : properB 3 n t ns li = true) : n = 0 ∧ ns = [] ∧ li = 0 := by
  have e : properB 3 n t ns li = (decide (n = 0 ∧ ns.length = 0 ∧ li = 0) && txtOk t) := rfl
  rw [e] at h
  simp only [Bool.and_eq_true, decide_eq_true_eq] at h
  exact ⟨h.1.1, List.eq_nil_of_length_eq_zero h.1.2.1, h.1.2.2⟩
theorem partsB_mem : ∀ {l : List JV}, JV.partsB l = true → ∀ x ∈ l, JV.partB x = true
  | [], _, x, hx => by simp at hx
  | y :: r, h, x, hx => by
    rw [JV.partsB, Bool.and_eq_true] at h
    rcases List.mem_cons.1 hx with rfl | hx
    · exact h.1
    · exact partsB_mem h.2 x hx
theorem may_part {v : JV} (h : v.mayB = true) : v.partB = true := by
  rw [JV.mayB_iff] at h
  simp only [Bool.and_eq_true] at h
  exact h.1.1
theorem part_txt {x : JV} (h : x.partB = true) (h3 : x.kind = 3) : x = txtJ x.t := by
  obtain ⟨k, n, t, ns, xs⟩ := x
  obtain rfl : k = 3 := h3
  rw [JV.partB, Bool.and_eq_true] at h
  obtain ⟨rfl, rfl, hx⟩ := proper3 h.1
  obtain rfl : xs = [] := List.eq_nil_of_length_eq_zero hx
  rfl
theorem lookL_mem : ∀ {ns : List ByteArray} {xs : List JV} {y : ByteArray} {x : JV}, lookL ns xs y = some x → y ∈ ns ∧ x ∈ xs
  | [], _, _, _, h => by simp [lookL] at h
  | _ :: _, [], _, _, h => by simp [lookL] at h
  | n :: ns, z :: xs, y, x, h => by
    rw [lookL] at h
    split at h
    · next e => cases h; exact ⟨by simp [e], by simp⟩
    · have := lookL_mem h; exact ⟨by simp [this.1], by simp [this.2]⟩
/-- Names that rise, and are public and scheme, are these two. -/
theorem names_two {ns : List ByteArray} (hr : rises ns = true) (hp : pubN ∈ ns) (hs : schN ∈ ns) (ho : ∀ n ∈ ns, n = pubN ∨ n = schN) : ns = [pubN, schN] := by
  have hlt : bl schN pubN = false := by
    have := names_ok.2.2
    unfold rises at this
    rw [Bool.and_eq_true] at this
    exact bl_asymm this.1
  have hnd := rises_nodup hr
  match ns, hr, hp, hs, ho, hnd with
  | [], _, hp, _, _, _ => simp at hp
  | [a], _, hp, hs, _, _ =>
    simp at hp hs
    exact absurd (hp.trans hs.symm) pub_ne
  | [a, b], hr, hp, hs, ho, hnd =>
    rcases ho a (by simp) with rfl | rfl <;> rcases ho b (by simp) with rfl | rfl
    · simp at hnd
    · rfl
    · unfold rises at hr
      rw [Bool.and_eq_true] at hr
      have := hr.1
      rw [show Op.bytesLess schN.toList pubN.toList = bl schN pubN from rfl, hlt] at this
      cases this
    · simp at hnd
  | a :: b :: c :: r, _, _, _, ho, hnd =>
    rcases ho a (by simp) with rfl | rfl <;> rcases ho b (by simp) with rfl | rfl <;> rcases ho c (by simp) with rfl | rfl <;> simp at hnd
theorem keyOf_back {v : JV} (h : (keyOfJ v).2 = 0) : v.mayB = true ∧ v = keyJ (keyOfJ v).1.1 (keyOfJ v).1.2 := by
  unfold keyOfJ at h ⊢
  split at h
  · cases h
  next c1 =>
  rw [if_neg c1]
  split at h
  · cases h
  next c2 =>
  rw [if_neg c2]
  split at h
  · next c3 => exact absurd h c3
  next c3 =>
  rw [if_neg c3]
  split at h
  case isFalse => cases h
  next c4 =>
  rw [if_pos c4]
  have hm : v.mayB = true := by simpa using c1
  have hk : v.kind = 5 := by simpa using c2
  refine ⟨hm, ?_⟩
  have hpt := may_part hm
  replace c3 : pickDone v (pickText v schN (pickText v pubN ⟨[], 0⟩).2).2 = 0 := by simpa using c3
  clear c4 c1 c2
  cases h1 : v.look pubN with
  | none =>
    have e1 : pickText v pubN ⟨[], 0⟩ = ({ data := #[] }, ⟨[], 6⟩) := by unfold pickText; rw [if_neg (by simp), h1]
    have e2 : pickText v schN ⟨[], 6⟩ = ({ data := #[] }, ⟨[], 6⟩) := by unfold pickText; rw [if_pos (by simp)]
    rw [e1] at c3; simp only at c3; rw [e2] at c3; unfold pickDone at c3; rw [if_pos (by simp)] at c3; cases c3
  | some a =>
    by_cases ka : a.kind = 3
    case neg =>
      have e1 : pickText v pubN ⟨[], 0⟩ = ({ data := #[] }, ⟨[], 10⟩) := by unfold pickText; rw [if_neg (by simp), h1]; simp only; rw [if_neg ka]
      have e2 : pickText v schN ⟨[], 10⟩ = ({ data := #[] }, ⟨[], 10⟩) := by unfold pickText; rw [if_pos (by simp)]
      rw [e1] at c3; simp only at c3; rw [e2] at c3; unfold pickDone at c3; rw [if_pos (by simp)] at c3; cases c3
    have e1 : pickText v pubN ⟨[], 0⟩ = (a.t, ⟨[pubN], 0⟩) := by unfold pickText; rw [if_neg (by simp), h1]; simp only; rw [if_pos ka]
    rw [e1] at c3 ⊢
    simp only at c3 ⊢
    cases h2 : v.look schN with
    | none =>
      have e2 : pickText v schN ⟨[pubN], 0⟩ = ({ data := #[] }, ⟨[pubN], 6⟩) := by unfold pickText; rw [if_neg (by simp), h2]
      rw [e2] at c3; unfold pickDone at c3; rw [if_pos (by simp)] at c3; cases c3
    | some b =>
      by_cases kb : b.kind = 3
      case neg =>
        have e2 : pickText v schN ⟨[pubN], 0⟩ = ({ data := #[] }, ⟨[pubN], 10⟩) := by unfold pickText; rw [if_neg (by simp), h2]; simp only; rw [if_neg kb]
        rw [e2] at c3; unfold pickDone at c3; rw [if_pos (by simp)] at c3; cases c3
      have e2 : pickText v schN ⟨[pubN], 0⟩ = (b.t, ⟨[schN, pubN], 0⟩) := by unfold pickText; rw [if_neg (by simp), h2]; simp only; rw [if_pos kb]
      rw [e2] at c3 ⊢
      simp only at c3 ⊢
      unfold pickDone at c3
      rw [if_neg (by simp)] at c3
      have hall : v.names.all (fun n => [schN, pubN].any fun a => decide (a = n)) = true := by
        split at c3
        · assumption
        · cases c3
      obtain ⟨k, n, t, ns, xs⟩ := v
      obtain rfl : k = 5 := hk
      rw [JV.partB, Bool.and_eq_true] at hpt
      obtain ⟨rfl, rfl, hlen, hris, _⟩ := proper5 hpt.1
      have hal2 : ∀ x ∈ ns, x = pubN ∨ x = schN := fun x hx => by
        have := List.all_eq_true.1 hall x hx
        simp at this
        rcases this with e | e
        · exact .inr e.symm
        · exact .inl e.symm
      obtain rfl := names_two hris (lookL_mem h1).1 (lookL_mem h2).1 hal2
      match xs, hlen with
      | [p, q], _ =>
        have w1 : lookL [pubN, schN] [p, q] pubN = some p := by simp [lookL]
        have w2 : lookL [pubN, schN] [p, q] schN = some q := by simp [lookL, pub_ne]
        obtain rfl : p = a := Option.some.inj (w1.symm.trans h1)
        obtain rfl : q = b := Option.some.inj (w2.symm.trans h2)
        have p1 := part_txt (partsB_mem hpt.2 p (by simp)) ka
        have p2 := part_txt (partsB_mem hpt.2 q (by simp)) kb
        unfold keyJ
        rw [← p1, ← p2]

theorem txt_id {k : Key2} (h : ok2 k = true) : txtOk (id2 k) = true := by
  have e : (id2 k).data.toList = shaHex (keyForm k.1.data.toList k.2.data.toList) := by
    show (keyId _ _) = _
    unfold keyId
    rw [if_pos (show keyOk k.1.data.toList k.2.data.toList = true from h)]
  refine txtOk_plain ?_ (Nat.le_trans id2_size (by decide))
  rw [e]
  have := allHex_sha (keyForm k.1.data.toList k.2.data.toList)
  unfold allHex at this
  exact fun c hc => plain_hex (List.all_eq_true.1 this c hc)
theorem tabJ_may {m : List Key2} (hok : ∀ k ∈ m, ok2 k = true) (hr : rises (ids m) = true) (hl : m.length ≤ 32) : (tabJ m).mayB = true := by
  rw [JV.mayB_iff]
  have hp : ∀ m : List Key2, (∀ k ∈ m, ok2 k = true) → JV.partsB (m.map obj2) = true := fun m => by
    induction m with
    | nil => intro _; rfl
    | cons k r ih =>
      intro h
      rw [List.map_cons, JV.partsB, Bool.and_eq_true]
      exact ⟨may_part (keyJ_may (h k (by simp))), ih fun x hx => h x (List.mem_cons_of_mem _ hx)⟩
  have hc : ∀ m : List Key2, JV.counts (m.map obj2) = 3 * m.length := fun m => by
    induction m with
    | nil => rfl
    | cons k r ih =>
      have : JV.count (obj2 k) = 3 := rfl
      rw [List.map_cons, JV.counts, ih, this, List.length_cons]; omega
  have hd : ∀ m : List Key2, JV.depths (m.map obj2) ≤ 1 := fun m => by
    induction m with
    | nil => exact Nat.zero_le _
    | cons k r ih =>
      have : JV.depth (obj2 k) = 1 := rfl
      rw [List.map_cons, JV.depths, this]; omega
  have h1 : (tabJ m).partB = true := by
    unfold tabJ
    rw [JV.partB, hp m hok]
    have : properB 5 0 { data := #[] } (m.map id2) (m.map obj2).length = (decide ((0 : Int) = 0 ∧ ({ data := #[] } : ByteArray).toList = [] ∧ (m.map id2).length = (m.map obj2).length) && rises (m.map id2) && (m.map id2).all txtOk) := rfl
    rw [this, show rises (m.map id2) = true from hr, ByteArray.toList_eq]
    have h2 : (m.map id2).all txtOk = true := by
      rw [List.all_eq_true]
      intro x hx
      obtain ⟨k, hk, rfl⟩ := List.mem_map.1 hx
      exact txt_id (hok k hk)
    rw [h2]
    simp
  have h2 : (tabJ m).count ≤ 8192 := by unfold tabJ; rw [JV.count, hc]; omega
  have h3 : (tabJ m).depth ≤ 12 := by
    unfold tabJ; rw [JV.depth, if_neg (by simp)]; have := hd m; omega
  rw [h1]
  simp [h2, h3]
theorem keysL_tab : ∀ (m : List Key2) (acc : List Key2), (∀ k ∈ m, ok2 k = true) → keysL (m.map id2) (m.map obj2) acc = (acc ++ m, 0)
  | [], acc, _ => by simp [keysL]
  | k :: r, acc, h => by
    have e := keyOf_keyJ (s := k.1) (t := k.2) (h k (by simp))
    rw [List.map_cons, List.map_cons, keysL, show obj2 k = keyJ k.1 k.2 from rfl, e]
    simp only
    rw [if_neg (by simp), if_pos (by simp [id2]), keysL_tab r _ fun x hx => h x (List.mem_cons_of_mem _ hx)]
    simp
theorem keysJ_tab {m : List Key2} (hok : ∀ k ∈ m, ok2 k = true) (hr : rises (ids m) = true) (hl : m.length ≤ 32) : keysJ (tabJ m) = (m, 0) := by
  unfold keysJ
  rw [if_neg (by rw [tabJ_may hok hr hl]; simp), if_neg (by show ¬ (5 : Int) ≠ 5; simp), if_neg (by show ¬ 32 < (m.map id2).length; simp; omega)]
  show keysL (m.map id2) (m.map obj2) [] = _
  rw [keysL_tab m [] hok, List.nil_append]
theorem keysL_back : ∀ (ns : List ByteArray) (its : List JV) (acc : List Key2), ns.length = its.length → (keysL ns its acc).2 = 0 → ∃ m : List Key2, (keysL ns its acc).1 = acc ++ m ∧ ns = m.map id2 ∧ its = m.map obj2 ∧ ∀ k ∈ m, ok2 k = true
  | [], [], acc, _, _ => ⟨[], by simp [keysL]⟩
  | id :: ns, it :: its, acc, hl, h => by
    rw [keysL] at h ⊢
    split at h
    · next c => exact absurd h c
    next c =>
    rw [if_neg c]
    split at h
    case isFalse => cases h
    next c2 =>
    rw [if_pos c2]
    obtain ⟨m, e1, e2, e3, e4⟩ := keysL_back ns its _ (by simpa using hl) h
    have c' : (keyOfJ it).2 = 0 := by simpa using c
    obtain ⟨_, hb⟩ := keyOf_back c'
    obtain ⟨hok, _, _⟩ := keyOfJ_ok c'
    refine ⟨(keyOfJ it).1 :: m, by rw [e1]; simp, ?_, ?_, ?_⟩
    · rw [List.map_cons, ← e2]
      congr 1
      exact (ba_ext (eq_of_beq c2)).symm
    · rw [List.map_cons, ← e3]
      congr 1
    · intro k hk
      rcases List.mem_cons.1 hk with rfl | hk
      · exact hok
      · exact e4 k hk
theorem keysL_none : ∀ (ns : List ByteArray) (its : List JV) (acc : List Key2), (keysL ns its acc).2 ≠ 0 → (keysL ns its acc).1 = []
  | [], _, acc, h => by simp [keysL] at h
  | _ :: _, [], acc, h => by simp [keysL] at h
  | id :: ns, it :: its, acc, h => by
    rw [keysL] at h ⊢
    split
    · rfl
    · split
      · next c1 c2 => rw [if_neg c1, if_pos c2] at h; exact keysL_none ns its _ h
      · rfl
theorem keysJ_none {v : JV} (h : (keysJ v).2 ≠ 0) : (keysJ v).1 = [] := by
  unfold keysJ at h ⊢
  split
  · rfl
  next c1 =>
  rw [if_neg c1] at h
  split
  · rfl
  next c2 =>
  rw [if_neg c2] at h
  split
  · rfl
  next c3 =>
  rw [if_neg c3] at h
  exact keysL_none _ _ _ h
theorem keysJ_back {v : JV} (h : (keysJ v).2 = 0) : v = tabJ (keysJ v).1 ∧ (∀ k ∈ (keysJ v).1, ok2 k = true) ∧ rises (ids (keysJ v).1) = true ∧ (keysJ v).1.length ≤ 32 := by
  unfold keysJ at h ⊢
  split at h
  · cases h
  next c1 =>
  rw [if_neg c1]
  split at h
  · cases h
  next c2 =>
  rw [if_neg c2]
  split at h
  · cases h
  next c3 =>
  rw [if_neg c3]
  have hm : v.mayB = true := by simpa using c1
  have hk : v.kind = 5 := by simpa using c2
  have hpt := may_part hm
  obtain ⟨k, n, t, ns, xs⟩ := v
  obtain rfl : k = 5 := hk
  rw [JV.partB, Bool.and_eq_true] at hpt
  obtain ⟨rfl, rfl, hlen, hris, _⟩ := proper5 hpt.1
  obtain ⟨m, e1, e2, e3, e4⟩ := keysL_back ns xs [] hlen h
  have e1' : (keysL (JV.names (.mk 5 0 { data := #[] } ns xs)) (JV.items (.mk 5 0 { data := #[] } ns xs)) []).1 = m := by
    show (keysL ns xs []).1 = m
    rw [e1, List.nil_append]
  rw [e1']
  refine ⟨by unfold tabJ; rw [← e2, ← e3], e4, by unfold ids; rw [← e2]; exact hris, ?_⟩
  have : ns.length = m.length := by rw [e2, List.length_map]
  have c3' : ¬ 32 < ns.length := c3
  omega
theorem tabE_ok {m : List Key2} (hok : ∀ k ∈ m, ok2 k = true) (hr : rises (ids m) = true) (hl : m.length ≤ 32) : tabE m = 0 := by
  unfold tabE
  rw [if_neg (by omega)]
  exact (tabErr_zero m []).2 ⟨hok, by simp, rises_nodup hr⟩
theorem ok2_size {k : Key2} (h : ok2 k = true) : k.1.size ≤ 300 ∧ k.2.size ≤ 300 := by
  obtain ⟨_, _, a, b⟩ := key_txt h
  omega

end Go.Proofs.YtcahpjejpimdhaaGreatDoor

namespace Go.Proofs.YtcahpjejpimdhaaGreatDoor
open Go.RowKit

set_option maxHeartbeats 400000 in
theorem refMay (v : JV) (x : Value) (w : World) (hv : v.wt ≤ 4294967296) (hR : Rep w 0 w.heap.size v x) :
    Calls Tryz.prog 55 #[x] w fun e w' => e = .returned (.bool v.mayB) ∧ Below w.heap.size w w' := by
  obtain ⟨an, cn, ai, ci, rfl, h1, h2, h3, h4⟩ := hR.parts
  clear h1 h2 h3 h4
  have HX0 := Lib.hid (heap_alloc_new w (.cells #[.int .u8 v.kind, .int .i64 v.n, .string v.t, .slice an v.names.length cn, .slice ai v.items.length ci] 29))
  have HB0 := Lib.hid (show Below w.heap.size w (w.alloc (.cells #[.int .u8 v.kind, .int .i64 v.n, .string v.t, .slice an v.names.length cn, .slice ai v.items.length ci] 29)) from (Below.refl _ _).alloc (Nat.le_refl _) _)
  have HR := Lib.hid hR
  have HM := Lib.hid v.mayB_iff
  clear hR
  have hc := JV.count_le v
  have hd := JV.depth_le v
  have HP := Lib.hid (refPart 4294967296 v _ _ hv (Nat.le_refl _) (HR.out.below HB0.out (Nat.le_refl _) (Nat.le_refl _) (by simp)))
  cases hp : v.partB
  · rw [hp] at HP HM
    clear hp
    go_enter Tryz.func55, Tryz.ntmps55
    go_wp2_with fail
    refine HP.out.mono ?_
    rintro e w1 ⟨rfl, hb1⟩
    have HB1 := Lib.hid (HB0.out.trans (hb1.mono (by simp)))
    clear hb1
    go_wp2
    go_ret
    exact ⟨by rw [HM.out] <;> rfl, HB1.out⟩
  rw [hp, Bool.true_and] at HM
  rw [hp] at HP
  clear hp
  obtain ⟨W0, hW0⟩ : ∃ W0, W0 = w.alloc (.cells #[.int .u8 v.kind, .int .i64 v.n, .string v.t, .slice an v.names.length cn, .slice ai v.items.length ci] 29) := ⟨_, rfl⟩
  have hzz : w.heap.size < W0.heap.size := by rw [hW0]; simp
  have HLA := Lib.hid (show ∀ w1, Below W0.heap.size W0 w1 → Below w.heap.size w w1 ∧ w1.heap[w.heap.size]? = some (.cells #[.int .u8 v.kind, .int .i64 v.n, .string v.t, .slice an v.names.length cn, .slice ai v.items.length ci] 29 (0, 0)) from fun w1 h => by
    rw [hW0] at h
    exact ⟨HB0.out.trans (h.mono (by simp)), by rw [h.block _ (by simp)]; exact HX0.out⟩)
  rw [← hW0] at HP
  have HW0 := Lib.hid hW0
  clear hW0
  go_enter Tryz.func55, Tryz.ntmps55
  go_wp2_with fail
  rw [← HW0.out]
  refine HP.out.mono ?_
  rintro e w1 ⟨rfl, hb1⟩
  obtain ⟨hB1, hx1⟩ := HLA.out w1 hb1
  have HB1 := Lib.hid hB1
  have HBA := Lib.hid hb1
  have HX1 := Lib.hid hx1
  have c0 : w1.cell? ⟨w.heap.size, 0, none⟩ = some (.int .u8 v.kind) := box_cell hx1 rfl
  have c1 : w1.cell? ⟨w.heap.size, 1, none⟩ = some (.int .i64 v.n) := box_cell hx1 rfl
  have c2 : w1.cell? ⟨w.heap.size, 2, none⟩ = some (.string v.t) := box_cell hx1 rfl
  have c3 : w1.cell? ⟨w.heap.size, 3, none⟩ = some (.slice an v.names.length cn) := box_cell hx1 rfl
  have c4 : w1.cell? ⟨w.heap.size, 4, none⟩ = some (.slice ai v.items.length ci) := box_cell hx1 rfl
  clear hb1 hx1 hB1
  have HC := Lib.hid (refCount 4294967296 v _ w1 hv (Nat.le_refl _) (HR.out.below HB1.out (Nat.le_refl _) (Nat.le_refl _) HB1.out.size))
  obtain ⟨c, hcc⟩ : ∃ c : Nat, c = v.count := ⟨_, rfl⟩
  rw [← hcc] at HC hc HM
  clear hcc
  go_wp2_with fail
  refine HC.out.mono ?_
  clear HC c0 c1 c2 c3 c4
  rintro e w2 ⟨rfl, hb2⟩
  obtain ⟨hB2, hx2⟩ := HLA.out w2 (HBA.out.trans (hb2.mono HBA.out.size))
  have HB2 := Lib.hid hB2
  have c0 : w2.cell? ⟨w.heap.size, 0, none⟩ = some (.int .u8 v.kind) := box_cell hx2 rfl
  have c1 : w2.cell? ⟨w.heap.size, 1, none⟩ = some (.int .i64 v.n) := box_cell hx2 rfl
  have c2 : w2.cell? ⟨w.heap.size, 2, none⟩ = some (.string v.t) := box_cell hx2 rfl
  have c3 : w2.cell? ⟨w.heap.size, 3, none⟩ = some (.slice an v.names.length cn) := box_cell hx2 rfl
  have c4 : w2.cell? ⟨w.heap.size, 4, none⟩ = some (.slice ai v.items.length ci) := box_cell hx2 rfl
  clear hb2 hx2 hB2
  by_cases h8 : c ≤ 8192
  · rw [decide_eq_true h8, Bool.true_and] at HM
    have h8' : (c : Int) ≤ 8192 := by omega
    have HD := Lib.hid (refDepth 4294967296 v _ w2 hv (Nat.le_refl _) (HR.out.below HB2.out (Nat.le_refl _) (Nat.le_refl _) HB2.out.size))
    obtain ⟨d, hdd⟩ : ∃ d : Nat, d = v.depth := ⟨_, rfl⟩
    rw [← hdd] at HD hd HM
    clear hdd
    go_wp2_with fail
    refine HD.out.mono ?_
    clear HD
    rintro e w3 ⟨rfl, hb3⟩
    have HB3 := Lib.hid (HB2.out.trans (hb3.mono HB2.out.size))
    clear hb3
    by_cases h12 : d ≤ 12
    · rw [decide_eq_true h12] at HM
      have h12' : (d : Int) ≤ 12 := by omega
      go_wp2
      go_ret
      exact ⟨by rw [HM.out] <;> rfl, HB3.out⟩
    · rw [decide_eq_false h12] at HM
      have h12' : ¬ (d : Int) ≤ 12 := by omega
      have h13 : decide ((d : Int) ≤ 12) = false := decide_eq_false h12'
      go_wp2
      go_ret
      exact ⟨by rw [HM.out] <;> rfl, HB3.out⟩
  · rw [decide_eq_false h8, Bool.false_and] at HM
    have h8' : ¬ (c : Int) ≤ 8192 := by omega
    have h9 : decide ((c : Int) ≤ 8192) = false := decide_eq_false h8'
    go_wp2
    go_ret
    exact ⟨by rw [HM.out] <;> rfl, HB2.out⟩

/-- What legateref08.Get tells of an object. -/
def RefGetPost (v : JV) (y : ByteArray) (hi : Nat) (w : World) (e : Ending) (w' : World) : Prop :=
  (v.look y = none ∧ e = .returned (.tuple #[zeroAgg, .bool false]) ∨ ∃ it an cn ai ci, v.look y = some it ∧ e = .returned (.tuple #[.agg #[.int .u8 it.kind, .int .i64 it.n, .string it.t, .slice an it.names.length cn, .slice ai it.items.length ci], .bool true]) ∧ it.wt ≤ v.wt ∧
    Rep w 0 hi it (.agg #[.int .u8 it.kind, .int .i64 it.n, .string it.t, .slice an it.names.length cn, .slice ai it.items.length ci])) ∧ Below w.heap.size w w'

theorem lookL_drop : ∀ (ns : List ByteArray) (xs : List JV) (y : ByteArray) (k : Nat) (h : k < ns.length), lookL (ns.drop k) (xs.drop k) y = if h' : k < xs.length then (if ns[k] = y then some xs[k] else lookL (ns.drop (k + 1)) (xs.drop (k + 1)) y) else none
  | ns, xs, y, k, h => by
    rw [List.drop_eq_getElem_cons h]
    by_cases h' : k < xs.length
    · rw [dif_pos h', List.drop_eq_getElem_cons h', lookL]
    · have e : xs.drop k = [] := List.drop_eq_nil_of_le (by omega)
      rw [dif_neg h', e]; simp [lookL]

set_option maxHeartbeats 1000000 in
set_option maxRecDepth 100000 in
theorem refGet (v : JV) (x : Value) (y : ByteArray) (w : World) (hi : Nat) (hhi : hi ≤ w.heap.size) (hv : v.wt ≤ 4294967296) (hk : v.kind = 5) (hR : Rep w 0 hi v x) :
    Calls Tryz.prog 117 #[x, .string y] w (RefGetPost v y hi w) := by
  obtain ⟨an, cn, ai, ci, rfl, h1, h2, h3, h4⟩ := hR.parts
  obtain ⟨b1, b2, b3, b4⟩ := v.wt_bd
  have H3 := Lib.hid h3
  have H4 := Lib.hid h4
  have HKV := Lib.hid hk
  rw [hk]
  clear h1 h2 h3 h4 hR hk
  go_enter Tryz.func117, Tryz.ntmps117
  go_wp2
  go_loopw [6] (fun i wr => ∃ k : Nat, k ≤ v.names.length ∧ i = .int .i64 k ∧ v.look y = lookL (v.names.drop k) (v.items.drop k) y ∧ Below w.heap.size w wr ∧ wr.heap[w.heap.size]? = some (.cells #[.int .u8 5, .int .i64 v.n, .string v.t, .slice an v.names.length cn, .slice ai v.items.length ci] 29 (0, 0)) ∧ wr.rowIs (w.heap.size + 1) 29 5 (pick5 (.int .u8 0) (.int .i64 0) (.string { data := #[] }) (.slice none 0 0) (.slice none 0 0))) (fun i _ => v.names.length - (intOf i).toNat)
  case atStart =>
    refine ⟨0, by omega, rfl, rfl, ((Below.refl _ _).alloc (Nat.le_refl _) _).alloc (by simp) _, (Below.heap_alloc _ _ _ (by simp)).trans (heap_alloc_new w _), ?_⟩
    have := rowIs_box5 (w.alloc (.cells #[.int .u8 5, .int .i64 v.n, .string v.t, .slice an v.names.length cn, .slice ai v.items.length ci] 29)) (.int .u8 0) (.int .i64 0) (.string { data := #[] }) (.slice none 0 0) (.slice none 0 0) 29
    rwa [show (w.alloc (.cells #[.int .u8 5, .int .i64 v.n, .string v.t, .slice an v.names.length cn, .slice ai v.items.length ci] 29)).heap.size = w.heap.size + 1 by simp] at this
  case round =>
    obtain ⟨k, hk, rfl, hlk, hbel, hx, hrow⟩ := hrel
    have HLK := Lib.hid hlk
    have HB := Lib.hid hbel
    have HX := Lib.hid hx
    have HR := Lib.hid hrow
    have hz1 : w.heap.size + 1 < wr.heap.size := hrow.lt
    have c3 : wr.cell? ⟨w.heap.size, 3, none⟩ = some (.slice an v.names.length cn) := box_cell hx rfl
    have c4 : wr.cell? ⟨w.heap.size, 4, none⟩ = some (.slice ai v.items.length ci) := box_cell hx rfl
    have t0 := hrow.cell (i := 0) (by decide); have t1 := hrow.cell (i := 1) (by decide); have t2 := hrow.cell (i := 2) (by decide); have t3 := hrow.cell (i := 3) (by decide); have t4 := hrow.cell (i := 4) (by decide)
    have s0 := hrow.frozen 0; have s1 := hrow.frozen 1; have s2 := hrow.frozen 2; have s3 := hrow.frozen 3; have s4 := hrow.frozen 4
    simp only [pick5] at t0 t1 t2 t3 t4
    clear hlk hbel hx hrow
    by_cases hlt : k < v.names.length
    · have HLD := Lib.hid (lookL_drop v.names v.items y k hlt)
      obtain ⟨b, off, hae, _, hb2, c0⟩ := (H3.out.below HB.out hhi (Nat.le_refl _) (Nat.le_refl _)).at k hlt
      subst hae
      obtain ⟨nm, hnm⟩ : ∃ nm, nm = v.names[k] := ⟨_, rfl⟩
      rw [← hnm] at c0 HLD
      clear hnm
      by_cases hny : nm = y
      · subst hny
        by_cases hli : k < v.items.length
        · rw [dif_pos hli, if_pos rfl] at HLD
          obtain ⟨b', off', an', cn', ai', ci', hae, _, hb3, e0, e1, e2, e3, e4, hrep⟩ := (H4.out.below HB.out hhi (Nat.le_refl _) (Nat.le_refl _)).get k hli
          obtain ⟨b5, off5, c05, c15, c25, c35, c45, hae5, _, _, f0, f1, f2, f3, f4, hrep0⟩ := H4.out.at k hli
          have HRP := Lib.hid (show Rep w 0 hi v.items[k] (.agg #[.int .u8 v.items[k].kind, .int .i64 v.items[k].n, .string v.items[k].t, .slice an' v.items[k].names.length cn', .slice ai' v.items[k].items.length ci']) by
            rw [hae] at hae5
            obtain ⟨rfl, rfl⟩ : b' = b5 ∧ off' = off5 := by simpa using hae5
            have q : ∀ o, wr.cell? ⟨b', o, none⟩ = w.cell? ⟨b', o, none⟩ := fun o => HB.out.cell (Nat.lt_of_lt_of_le hb3 hhi)
            rw [q] at e0 e1 e2 e3 e4
            rw [e0] at f0; rw [e1] at f1; rw [e2] at f2; rw [e3] at f3; rw [e4] at f4
            simp only [Option.some.injEq] at f0 f1 f2 f3 f4
            subst f0 f1 f2 f3 f4
            exact hrep0)
          subst hae
          have hwk := JV.wts_get v.items k hli
          have hli' : (k : Int) < (v.items.length : Int) := by omega
          have HLS := Lib.hid (show v.look nm = some v.items[k] by rw [HLK.out, HLD.out])
          clear hrep hrep0 f0 f1 f2 f3 f4 hae5 HLD HLK
          generalize v.items[k] = it at *
          have hne : b' ≠ w.heap.size + 1 := by omega
          go_wp2
          refine bodyPost_ret (results_row_tmp Tryz.results117 _ _ (w.heap.size + 1) 29 #[.int .u8 it.kind, .int .i64 it.n, .string it.t, .slice an' it.names.length cn', .slice ai' it.items.length ci'] (0, 0) _ rfl (row5_heap (set5 _ _ _ _ _ HR.out)) Tryz.underlying29 rfl (by kernel_rfl) _ rfl) rfl ⟨.inr ⟨it, an', cn', ai', ci', HLS.out, rfl, by omega, HRP.out⟩, below5 _ _ _ _ _ HB.out (by omega)⟩
        · rw [dif_neg hli] at HLD
          have hli' : ¬ (k : Int) < (v.items.length : Int) := by omega
          have HLS := Lib.hid (show v.look nm = none by rw [HLK.out, HLD.out])
          clear HLD HLK
          go_wp2
          refine bodyPost_ret (results_row_tmp Tryz.results117 _ _ (w.heap.size + 1) 29 #[.int .u8 0, .int .i64 0, .string { data := #[] }, .slice none 0 0, .slice none 0 0] (0, 0) _ rfl (row5_heap (set5 _ _ _ _ _ HR.out)) Tryz.underlying29 rfl (by kernel_rfl) _ rfl) rfl ⟨.inl ⟨HLS.out, rfl⟩, below5 _ _ _ _ _ HB.out (by omega)⟩
      · have hny2 : (nm.toList == y.toList) = false := beq_eq_false_iff_ne.2 fun e => hny (ba_ext2 e)
        have HLS := Lib.hid (show v.look y = lookL (v.names.drop (k + 1)) (v.items.drop (k + 1)) y by
          rw [HLK.out, HLD.out]
          by_cases h' : k < v.items.length
          · rw [dif_pos h', if_neg hny]
          · rw [dif_neg h', List.drop_eq_nil_of_le (show v.items.length ≤ k + 1 by omega)]; cases v.names.drop (k + 1) <;> simp [lookL])
        clear HLD HLK hny
        go_wp2
        go_roundw
        case rel => exact ⟨k + 1, by omega, by go_num, HLS.out, HB.out, HX.out, HR.out⟩
        case measure => simp [intOf]; omega
    · have HLS := Lib.hid (show v.look y = none by rw [HLK.out, List.drop_eq_nil_of_le (show v.names.length ≤ k by omega)]; simp [lookL])
      clear HLK
      go_wp2
      refine bodyPost_ret (results_row_tmp Tryz.results117 _ _ (w.heap.size + 1) 29 #[.int .u8 0, .int .i64 0, .string { data := #[] }, .slice none 0 0, .slice none 0 0] (0, 0) _ rfl (row5_heap (set5 _ _ _ _ _ HR.out)) Tryz.underlying29 rfl (by kernel_rfl) _ rfl) rfl ⟨.inl ⟨HLS.out, rfl⟩, below5 _ _ _ _ _ HB.out (by omega)⟩

end Go.Proofs.YtcahpjejpimdhaaGreatDoor

namespace Go.Proofs.YtcahpjejpimdhaaGreatDoor
open Go.RowKit

/-- What Take tells, and what it leaves behind. -/
def takeR (v : JV) (y : ByteArray) (kd : Int) (st : PS) : Option JV × PS :=
  if st.err ≠ 0 then (none, st) else match v.look y with
    | none => (none, ⟨st.asked, 6⟩)
    | some it => if kd ≠ 0 ∧ it.kind ≠ kd then (none, ⟨st.asked, 10⟩) else (some it, ⟨y :: st.asked, 0⟩)
theorem takeR_text (v : JV) (y : ByteArray) (st : PS) : pickText v y st = (match (takeR v y 3 st).1 with | none => { data := #[] } | some it => it.t, (takeR v y 3 st).2) := by
  unfold pickText takeR
  split
  · rfl
  · cases v.look y with
    | none => rfl
    | some it =>
      by_cases h : it.kind = 3
      · simp [h]
      · simp [h]

structure RefAt (o base : Nat) (v : JV) (an ai : Option Addr) (cn ci : Nat) (st : PS) (blk : Option Nat) (w : World) : Prop where
  obj : ∃ ask L, w.heap[o]? = some (.cells #[.int .u8 v.kind, .int .i64 v.n, .string v.t, .slice an v.names.length cn, .slice ai v.items.length ci, ask, .int .i64 st.err] 122 (0, 0)) ∧
    w.ownsRow base 9 1 ask L.length (L.map Value.string) ∧ ask.ownBlock = blk ∧ (st.err = 0 → L = st.asked.reverse) ∧ L.length ≤ 4294967296 + st.asked.length ∧ (st.err = 0 → L.length ≤ st.asked.length)
  rep : Rep w 0 base v (.agg #[.int .u8 v.kind, .int .i64 v.n, .string v.t, .slice an v.names.length cn, .slice ai v.items.length ci])
  le : base ≤ o
  nb : blk ≠ some o
  good : st.err = 0 → v.kind = 5

theorem RefAt.lt {o base : Nat} {v : JV} {an ai : Option Addr} {cn ci : Nat} {st : PS} {blk : Option Nat} {w : World} (h : RefAt o base v an ai cn ci st blk w) : o < w.heap.size := by
  obtain ⟨_, _, h1, _⟩ := h.obj; exact heap_lt h1
theorem RefAt.below {o base : Nat} {v : JV} {an ai : Option Addr} {cn ci : Nat} {st : PS} {blk : Option Nat} {w w' : World} (h : RefAt o base v an ai cn ci st blk w) (hb : Below w.heap.size w w') : RefAt o base v an ai cn ci st blk w' where
  obj := by
    obtain ⟨ask, L, h1, h2, h3, h4, h5, h6⟩ := h.obj
    exact ⟨ask, L, by rw [hb.block _ (heap_lt h1)]; exact h1, owns_below h2 hb, h3, h4, h5, h6⟩
  rep := h.rep.below hb (Nat.le_trans h.le (Nat.le_of_lt h.lt)) (Nat.le_refl _) (Nat.le_refl _)
  le := h.le
  nb := h.nb
  good := h.good

def TakePost (o base : Nat) (v : JV) (an ai : Option Addr) (cn ci : Nat) (y : ByteArray) (kd : Int) (st : PS) (blk : Option Nat) (w : World) (e : Ending) (w' : World) : Prop :=
  ∃ blk', (((takeR v y kd st).1 = none ∧ e = .returned (.tuple #[zeroAgg, .bool false])) ∨ ∃ it an' cn' ai' ci', (takeR v y kd st).1 = some it ∧ e = .returned (.tuple #[.agg #[.int .u8 it.kind, .int .i64 it.n, .string it.t, .slice an' it.names.length cn', .slice ai' it.items.length ci'], .bool true]) ∧ it.wt ≤ v.wt ∧
      Rep w' 0 base it (.agg #[.int .u8 it.kind, .int .i64 it.n, .string it.t, .slice an' it.names.length cn', .slice ai' it.items.length ci'])) ∧
    RefAt o base v an ai cn ci (takeR v y kd st).2 blk' w' ∧ (blk' = blk ∨ ∃ g, blk' = some g ∧ w.heap.size ≤ g) ∧ Touch (fun b => b = o ∨ blk = some b) w w'

theorem below_touch {S : Nat → Prop} {w w' : World} (hb : Below w.heap.size w w') : Touch S w w' := Touch.of_below hb (Nat.le_refl _)

theorem owns_same {w w' : World} {base e size n : Nat} {v : Value} {cs : List Value} (h : w.ownsRow base e size v n cs) (hb : ∀ g, v.ownBlock = some g → w'.heap[g]? = w.heap[g]?) : w'.ownsRow base e size v n cs := by
  refine ⟨h.1, ?_⟩
  rcases h.2 with h2 | ⟨g, cap, cur, hv, hg, hh, r⟩
  · exact .inl h2
  · refine .inr ⟨g, cap, cur, hv, hg, ?_, r⟩
    rw [hb g (by rw [hv]; rfl)]; exact hh
theorem obj_set5 {w : World} {o T : Nat} {a0 a1 a2 a3 a4 a5 a6 : Value} (h : w.heap[o]? = some (.cells #[a0, a1, a2, a3, a4, a5, a6] T (0, 0))) (x : Value) : (w.setCell ⟨o, 5, none⟩ x).heap[o]? = some (.cells #[a0, a1, a2, a3, a4, x, a6] T (0, 0)) := by
  simp [World.setCell, Array.getElem?_modify, h]
theorem obj_set6 {w : World} {o T : Nat} {a0 a1 a2 a3 a4 a5 a6 : Value} (h : w.heap[o]? = some (.cells #[a0, a1, a2, a3, a4, a5, a6] T (0, 0))) (x : Value) : (w.setCell ⟨o, 6, none⟩ x).heap[o]? = some (.cells #[a0, a1, a2, a3, a4, a5, x] T (0, 0)) := by
  simp [World.setCell, Array.getElem?_modify, h]

/-- Behind the stores: the picker stands. -/
theorem ref_end {o base g p cap : Nat} {v : JV} {an ai : Option Addr} {cn ci : Nat} {st st' : PS} {blk : Option Nat} {w w2 W3 : World} {L : List ByteArray} {y : ByteArray} {v0 v1 v2 v3 v4 : Value} (hP : RefAt o base v an ai cn ci st blk w) (hbb : ∀ b, blk = some b → base ≤ b)
    (hT : Touch (fun b => b = o ∨ blk = some b) w w2) (hown : w2.ownsRow base 9 1 (.slice (some ⟨g, 0, none⟩) (L.length + 1) cap) (L.length + 1) (L.map Value.string ++ [.string y])) (hgo : g ≠ o) (hgp : g ≠ p) (hp : w.heap.size ≤ p)
    (hobj : W3.heap[o]? = some (.cells #[.int .u8 v.kind, .int .i64 v.n, .string v.t, .slice an v.names.length cn, .slice ai v.items.length ci, .slice (some ⟨g, 0, none⟩) (L.length + 1) cap, .int .i64 st'.err] 122 (0, 0)))
    (hk : ∀ k, k ≠ o → W3.heap[k]? = w2.heap[k]?) (hT3 : Touch (fun b => b = o ∨ blk = some b) w W3) (hL : st.err = 0 → L = st.asked.reverse) (he : st.err = 0) (h1 : st'.err = 0 → st'.asked = y :: st.asked) (h2 : st'.err ≠ 0 → st'.asked = st.asked) (hl : L.length ≤ 4294967290) :
    RefAt o base v an ai cn ci st' (some g) (((((W3.setCell ⟨p, 0, none⟩ v0).setCell ⟨p, 1, none⟩ v1).setCell ⟨p, 2, none⟩ v2).setCell ⟨p, 3, none⟩ v3).setCell ⟨p, 4, none⟩ v4) ∧
      Touch (fun b => b = o ∨ blk = some b) w (((((W3.setCell ⟨p, 0, none⟩ v0).setCell ⟨p, 1, none⟩ v1).setCell ⟨p, 2, none⟩ v2).setCell ⟨p, 3, none⟩ v3).setCell ⟨p, 4, none⟩ v4) := by
  have hop : o ≠ p := by have := hP.lt; omega
  have hs : ∀ k, k ≠ o → k ≠ p → (((((W3.setCell ⟨p, 0, none⟩ v0).setCell ⟨p, 1, none⟩ v1).setCell ⟨p, 2, none⟩ v2).setCell ⟨p, 3, none⟩ v3).setCell ⟨p, 4, none⟩ v4).heap[k]? = w2.heap[k]? := fun k h1 h2 => by rw [heap5 _ _ _ _ _ h2]; exact hk k h1
  have hTf : Touch (fun b => b = o ∨ blk = some b) w (((((W3.setCell ⟨p, 0, none⟩ v0).setCell ⟨p, 1, none⟩ v1).setCell ⟨p, 2, none⟩ v2).setCell ⟨p, 3, none⟩ v3).setCell ⟨p, 4, none⟩ v4) := ((((hT3.setCell (.inr hp) _).setCell (.inr hp) _).setCell (.inr hp) _).setCell (.inr hp) _).setCell (.inr hp) _
  refine ⟨⟨⟨.slice (some ⟨g, 0, none⟩) (L.length + 1) cap, L ++ [y], ?_, ?_, rfl, fun h => ?_, ?_, fun h => ?_⟩, ?_, hP.le, fun e => hgo (by simpa using e), fun _ => hP.good he⟩, hTf⟩
  · rw [heap5 _ _ _ _ _ hop]; exact hobj
  · have hge : ∀ k, (Value.slice (some ⟨g, 0, none⟩) (L.length + 1) cap).ownBlock = some k → k = g := fun k hk' => by
      have : g = k := by simpa [Value.ownBlock] using hk'
      omega
    have := owns_same (w' := ((((W3.setCell ⟨p, 0, none⟩ v0).setCell ⟨p, 1, none⟩ v1).setCell ⟨p, 2, none⟩ v2).setCell ⟨p, 3, none⟩ v3).setCell ⟨p, 4, none⟩ v4) hown (fun k hk' => by rw [hge k hk']; exact hs g hgo hgp)
    simpa using this
  · rw [h1 h, hL he]; simp
  · by_cases e : st'.err = 0
    · rw [h1 e]; simp; omega
    · rw [h2 e]; simp; omega
  · rw [h1 h, hL he]; simp
  · exact hP.rep.carry (Nat.le_refl _) (Nat.le_refl _) fun b _ hb => hTf.block b (by have := hP.lt; have := hP.le; omega) (fun h => by
      rcases h with h | h
      · have := hP.le; omega
      · have := hbb b h; omega)

set_option maxHeartbeats 1000000 in
set_option maxRecDepth 100000 in
theorem refTake (o base : Nat) (v : JV) (an ai : Option Addr) (cn ci : Nat) (y : ByteArray) (kd : Int) (st : PS) (blk : Option Nat) (w : World) (hP : RefAt o base v an ai cn ci st blk w) (hv : v.wt ≤ 4294967296) (ha : st.asked.length ≤ 4294967290) :
    Calls Tryz.prog 92 #[.pointer (some ⟨o, 0, none⟩), .string y, .int .u8 kd] w (TakePost o base v an ai cn ci y kd st blk w) := by
  have HP := Lib.hid hP
  obtain ⟨ask, L, hobj, hown, hblk, hL, hLl, hL6⟩ := hP.obj
  have hoz : o < w.heap.size := heap_lt hobj
  have hle := hP.le
  clear hP
  have c6 : w.cell? ⟨o, 6, none⟩ = some (.int .i64 st.err) := box_cell hobj rfl
  by_cases he : st.err = 0
  · have c0 : w.cell? ⟨o, 0, none⟩ = some (.int .u8 v.kind) := box_cell hobj rfl
    have c1 : w.cell? ⟨o, 1, none⟩ = some (.int .i64 v.n) := box_cell hobj rfl
    have c2 : w.cell? ⟨o, 2, none⟩ = some (.string v.t) := box_cell hobj rfl
    have c3 : w.cell? ⟨o, 3, none⟩ = some (.slice an v.names.length cn) := box_cell hobj rfl
    have c4 : w.cell? ⟨o, 4, none⟩ = some (.slice ai v.items.length ci) := box_cell hobj rfl
    have c5 : w.cell? ⟨o, 5, none⟩ = some ask := box_cell hobj rfl
    have hk5 := HP.out.good he
    have hLe := hL he
    have hLz := hL6 he
    obtain ⟨i0, hi, hz0, hz1, hz2⟩ := info_parts infoStr
    have HOB := Lib.hid hobj
    have HOW := Lib.hid hown
    have HBK := Lib.hid hblk
    have HLE := Lib.hid hLe
    have HE := Lib.hid he
    have hLb : L.length ≤ 4294967290 := by omega
    have HTK := Lib.hid (show takeR v y kd st = match v.look y with | none => (none, ⟨st.asked, 6⟩) | some it => if kd ≠ 0 ∧ it.kind ≠ kd then (none, ⟨st.asked, 10⟩) else (some it, ⟨y :: st.asked, 0⟩) by unfold takeR; rw [if_neg (fun h => h he)])
    have HG := Lib.hid (refGet v _ y (w.alloc (.cells #[.int .u8 0, .int .i64 0, .string { data := #[] }, .slice none 0 0, .slice none 0 0] 29)) base (by simp; omega) hv hk5 (HP.out.rep.below ((Below.refl _ _).alloc (Nat.le_refl _) _) (by omega) (Nat.le_refl _) (Nat.le_refl _)))
    rw [he] at c6
    rw [hk5] at c0 HG
    clear hobj hown hblk hL hLl hL6 hLe hLz he hk5
    go_enter Tryz.func92, Tryz.ntmps92
    go_wp2_with fail
    refine HG.out.mono ?_
    clear HG c0 c1 c2 c3 c4 c5 c6
    rintro e w1 ⟨hcase, hb1⟩
    obtain ⟨xk, xn, xt, xan, xai, xnn, xcn, xni, xci, b, rfl, hI⟩ : ∃ (xk xn : Int) (xt : ByteArray) (xan xai : Option Addr) (xnn xcn xni xci : Nat) (b : Bool), e = .returned (.tuple #[.agg #[.int .u8 xk, .int .i64 xn, .string xt, .slice xan xnn xcn, .slice xai xni xci], .bool b]) ∧ ((b = false ∧ v.look y = none) ∨ (b = true ∧ ∃ it an' cn' ai' ci', v.look y = some it ∧ xk = it.kind ∧ xn = it.n ∧ xt = it.t ∧ xan = an' ∧ xnn = it.names.length ∧ xcn = cn' ∧ xai = ai' ∧ xni = it.items.length ∧ xci = ci' ∧ it.wt ≤ v.wt ∧ Rep w 0 base it (.agg #[.int .u8 it.kind, .int .i64 it.n, .string it.t, .slice an' it.names.length cn', .slice ai' it.items.length ci']))) := by
      rcases hcase with ⟨h1, rfl⟩ | ⟨it, an', cn', ai', ci', h1, rfl, h2, h3⟩
      · exact ⟨0, 0, { data := #[] }, none, none, 0, 0, 0, 0, false, rfl, .inl ⟨rfl, h1⟩⟩
      · exact ⟨_, _, _, _, _, _, _, _, _, true, rfl, .inr ⟨rfl, it, an', cn', ai', ci', h1, rfl, rfl, rfl, rfl, rfl, rfl, rfl, rfl, rfl, h2, h3.carry (Nat.le_refl _) (Nat.le_refl _) fun b _ hb => (Below.heap_alloc _ _ _ (by omega)).symm⟩⟩
    have HI := Lib.hid hI
    clear hI hcase
    have hzw : w.heap.size < w1.heap.size := by have := hb1.size; simp at this; omega
    have hBW : Below w.heap.size w (w1.alloc (.cells #[.int .u8 xk, .int .i64 xn, .string xt, .slice xan xnn xcn, .slice xai xni xci] 29)) := (((Below.refl _ _).alloc (Nat.le_refl _) _).trans (hb1.mono (by simp))).alloc (by omega) _
    have hrow := below_row ((Below.refl _ _).alloc (Nat.le_refl _) (.cells #[.int .u8 xk, .int .i64 xn, .string xt, .slice xan xnn xcn, .slice xai xni xci] 29)) (below_row hb1 (rowIs_box5 w (.int .u8 0) (.int .i64 0) (.string { data := #[] }) (.slice none 0 0) (.slice none 0 0) 29) (by simp)) hzw
    have hbox := heap_alloc_new w1 (.cells #[.int .u8 xk, .int .i64 xn, .string xt, .slice xan xnn xcn, .slice xai xni xci] 29)
    have hobj : (w1.alloc (.cells #[.int .u8 xk, .int .i64 xn, .string xt, .slice xan xnn xcn, .slice xai xni xci] 29)).heap[o]? = _ := (hBW.block o hoz).trans HOB.out
    have c5 : (w1.alloc (.cells #[.int .u8 xk, .int .i64 xn, .string xt, .slice xan xnn xcn, .slice xai xni xci] 29)).cell? ⟨o, 5, none⟩ = some ask := box_cell hobj rfl
    have hWz : (w1.alloc (.cells #[.int .u8 xk, .int .i64 xn, .string xt, .slice xan xnn xcn, .slice xai xni xci] 29)).heap.size = w1.heap.size + 1 := by simp
    have hownW := owns_below HOW.out hBW
    have HBW := Lib.hid hBW
    have HRW := Lib.hid hrow
    have HBX := Lib.hid hbox
    have HOJ := Lib.hid hobj
    have HWZ := Lib.hid hWz
    have HOW1 := Lib.hid hownW
    clear hb1 hBW hrow hbox hobj hWz hownW
    go_wp2_with (at_builtin; refine wpList_append_lies _ (by rfl) (.tmp 29) (.tmp 31) 26 (by rfl) base 9 i0 _ 1 16 Tryz.underlying26 hi hz0 hz1 hz2 rfl (by decide) ask L.length (L.map Value.string) (by rfl) (HOW1.out.alloc _) ⟨w1.heap.size + 1, 0, none⟩ 1 1 [.string y] (by rfl) (by rfl) ?c1 ?c2 (by decide) ?c3 ?c4 ?c5 (w1.heap.size + 2) ?c6 ?_)
    case c1 => exact World.news_of_block (cs := #[.string y]) (t := 9) (fr := (0, 0)) (by have := heap_alloc_new (w1.alloc (.cells #[.int .u8 xk, .int .i64 xn, .string xt, .slice xan xnn xcn, .slice xai xni xci] 29)) (.cells #[.string y] 9); rwa [HWZ.out] at this)
    case c2 => intro u hu; simp at hu; subst hu; rfl
    case c3 => unfold maxLen; omega
    case c4 => omega
    case c5 => simp; omega
    case c6 => simp
    intro g cap w2 hown2 hgrow hat hlt2
    have hnbo : some o ≠ ask.ownBlock := fun e => HP.out.nb (by rw [← HBK.out]; exact e.symm)
    have hnbp : ∀ q, w.heap.size ≤ q → some q ≠ ask.ownBlock := fun q hq e => by have := (HOW.out.lt _ e.symm).2; omega
    have hkeep : ∀ q, q < w1.heap.size + 1 → some q ≠ ask.ownBlock → w2.heap[q]? = (w1.alloc (.cells #[.int .u8 xk, .int .i64 xn, .string xt, .slice xan xnn xcn, .slice xai xni xci] 29)).heap[q]? := fun q hq hn => (hgrow.block q (by simp; omega) hn).trans (Below.heap_alloc _ _ _ (by simp; omega))
    have ho2 : w2.heap[o]? = some (.cells #[.int .u8 v.kind, .int .i64 v.n, .string v.t, .slice an v.names.length cn, .slice ai v.items.length ci, ask, .int .i64 st.err] 122 (0, 0)) := (hkeep o (by omega) hnbo).trans HOJ.out
    have hx2 : w2.heap[w1.heap.size]? = some (.cells #[.int .u8 xk, .int .i64 xn, .string xt, .slice xan xnn xcn, .slice xai xni xci] 29 (0, 0)) := (hkeep _ (by omega) (hnbp _ (by omega))).trans HBX.out
    have hr2 : w2.rowIs w.heap.size 29 5 (pick5 (.int .u8 0) (.int .i64 0) (.string { data := #[] }) (.slice none 0 0) (.slice none 0 0)) := HRW.out.of_block (hkeep _ (by omega) (hnbp _ (by omega)))
    have HT2 := Lib.hid (show Touch (fun b => b = o ∨ blk = some b) w w2 from
      ((below_touch HBW.out).alloc _).trans ⟨hgrow.os, hgrow.tape, hgrow.output, hgrow.size, fun k hk hn => hgrow.block k hk (fun e => hn (.inr (by rw [← HBK.out]; exact e.symm)))⟩)
    have hz2 : w1.heap.size + 2 ≤ w2.heap.size := by have := hgrow.size; simp at this; omega
    have hgo : g ≠ o := fun e => by
      rcases hat with h | h
      · exact hnbo (by rw [h, e])
      · omega
    have HAT := Lib.hid hat
    have HO2 := Lib.hid hown2
    have HOJ2 := Lib.hid ho2
    have HR2 := Lib.hid hr2
    have o5 : w2.cell? ⟨o, 5, none⟩ = some ask := box_cell ho2 rfl
    have z5 : w2.frozen? ⟨o, 5, none⟩ = false := by simp [World.frozen?, ho2]
    have o6 : w2.cell? ⟨o, 6, none⟩ = some (.int .i64 st.err) := box_cell ho2 rfl
    have z6 : w2.frozen? ⟨o, 6, none⟩ = false := by simp [World.frozen?, ho2]
    have x0 : w2.cell? ⟨w1.heap.size, 0, none⟩ = some (.int .u8 xk) := box_cell hx2 rfl
    have x1 : w2.cell? ⟨w1.heap.size, 1, none⟩ = some (.int .i64 xn) := box_cell hx2 rfl
    have x2 : w2.cell? ⟨w1.heap.size, 2, none⟩ = some (.string xt) := box_cell hx2 rfl
    have x3 : w2.cell? ⟨w1.heap.size, 3, none⟩ = some (.slice xan xnn xcn) := box_cell hx2 rfl
    have x4 : w2.cell? ⟨w1.heap.size, 4, none⟩ = some (.slice xai xni xci) := box_cell hx2 rfl
    have t0 := hr2.cell (i := 0) (by decide); have t1 := hr2.cell (i := 1) (by decide); have t2 := hr2.cell (i := 2) (by decide); have t3 := hr2.cell (i := 3) (by decide); have t4 := hr2.cell (i := 4) (by decide)
    have s0 := hr2.frozen 0; have s1 := hr2.frozen 1; have s2 := hr2.frozen 2; have s3 := hr2.frozen 3; have s4 := hr2.frozen 4
    simp only [pick5] at t0 t1 t2 t3 t4
    have n1 : w.heap.size ≠ o := by omega
    have n2 : w1.heap.size ≠ o := by omega
    have n3 : w1.heap.size ≠ w.heap.size := by omega
    clear hgrow hat hown2 ho2 hx2 hr2 hnbo hnbp hkeep c5 HOW1 HOJ HBX HRW HBW HOB
    have HOWK := Lib.hid HOW.out
    clear HOW
    have HBB := Lib.hid (show ∀ b, blk = some b → base ≤ b from fun b hb => (HOWK.out.lt b (by rw [HBK.out]; exact hb)).1)
    have HGP := Lib.hid (show g ≠ w.heap.size from fun e => by
      rcases HAT.out with h | h
      · have := (HOWK.out.lt g h).2; omega
      · omega)
    have HBN := Lib.hid (show (some g : Option Nat) = blk ∨ ∃ g', some g = some g' ∧ w.heap.size ≤ g' by
      rcases HAT.out with h | h
      · exact .inl (by rw [← HBK.out]; exact h.symm)
      · exact .inr ⟨g, rfl, by omega⟩)
    clear HAT
    rcases HI.out with ⟨rfl, hlk⟩ | ⟨rfl, it, an', cn', ai', ci', hlk, rfl, rfl, rfl, rfl, rfl, rfl, rfl, rfl, rfl, hwi, hri⟩
    · have HTR := Lib.hid (show takeR v y kd st = (none, ⟨st.asked, 6⟩) by rw [HTK.out, hlk])
      clear hlk HI HTK
      go_wp2
      have hend := ref_end (st' := ⟨st.asked, 6⟩) (p := w.heap.size) (v0 := .int .u8 0) (v1 := .int .i64 0) (v2 := .string { data := #[] }) (v3 := .slice none 0 0) (v4 := .slice none 0 0) HP.out HBB.out HT2.out HO2.out hgo HGP.out (Nat.le_refl _) (obj_set6 (obj_set5 HOJ2.out _) (.int .i64 6)) (fun k hk => by rw [Below.heap_setCell _ _ _ _ hk, Below.heap_setCell _ _ _ _ hk]) ((HT2.out.setCell (.inl (.inl rfl)) _).setCell (.inl (.inl rfl)) _) (fun _ => HLE.out) HE.out (fun h => by cases h) (fun _ => rfl) (by omega)
      refine bodyPost_ret (results_row_tmp Tryz.results92 _ _ w.heap.size 29 #[.int .u8 0, .int .i64 0, .string { data := #[] }, .slice none 0 0, .slice none 0 0] (0, 0) _ rfl (row5_heap (set5 _ _ _ _ _ ((HR2.out.of_block (Below.heap_setCell _ _ _ _ n1)).of_block (Below.heap_setCell _ _ _ _ n1)))) Tryz.underlying29 rfl (by kernel_rfl) _ rfl) rfl ?_
      unfold TakePost
      rw [HTR.out]
      exact ⟨some g, .inl ⟨rfl, rfl⟩, hend.1, HBN.out, hend.2⟩
    · have hri' := Lib.hid hri
      clear hri
      have hri2 := Lib.hid (show ∀ W, Touch (fun b => b = o ∨ blk = some b) w W → Rep W 0 base it (.agg #[.int .u8 it.kind, .int .i64 it.n, .string it.t, .slice xan it.names.length xcn, .slice xai it.items.length xci]) from fun W hW =>
        hri'.out.carry (Nat.le_refl _) (Nat.le_refl _) fun b _ hb => hW.block b (by omega) (fun h => by
          rcases h with h | h
          · omega
          · have := HBB.out b h; omega))
      by_cases hkd : kd ≠ 0 ∧ it.kind ≠ kd
      · have HTR := Lib.hid (show takeR v y kd st = (none, ⟨st.asked, 10⟩) by rw [HTK.out, hlk]; simp only; rw [if_pos hkd])
        have k1 : (kd != 0) = true := by simpa using hkd.1
        have k2 : (it.kind != kd) = true := by simpa using hkd.2
        have k3 : (kd == 0) = false := by simpa using hkd.1
        have k4 : (it.kind == kd) = false := by simpa using hkd.2
        clear hlk HI HTK hkd
        go_wp2
        have hend := ref_end (st' := ⟨st.asked, 10⟩) (p := w.heap.size) (v0 := .int .u8 0) (v1 := .int .i64 0) (v2 := .string { data := #[] }) (v3 := .slice none 0 0) (v4 := .slice none 0 0) HP.out HBB.out HT2.out HO2.out hgo HGP.out (Nat.le_refl _) (obj_set6 (obj_set5 HOJ2.out _) (.int .i64 10)) (fun k hk => by rw [Below.heap_setCell _ _ _ _ hk, Below.heap_setCell _ _ _ _ hk]) ((HT2.out.setCell (.inl (.inl rfl)) _).setCell (.inl (.inl rfl)) _) (fun _ => HLE.out) HE.out (fun h => by cases h) (fun _ => rfl) (by omega)
        refine bodyPost_ret (results_row_tmp Tryz.results92 _ _ w.heap.size 29 #[.int .u8 0, .int .i64 0, .string { data := #[] }, .slice none 0 0, .slice none 0 0] (0, 0) _ rfl (row5_heap (set5 _ _ _ _ _ ((HR2.out.of_block (Below.heap_setCell _ _ _ _ n1)).of_block (Below.heap_setCell _ _ _ _ n1)))) Tryz.underlying29 rfl (by kernel_rfl) _ rfl) rfl ?_
        unfold TakePost
        rw [HTR.out]
        exact ⟨some g, .inl ⟨rfl, rfl⟩, hend.1, HBN.out, hend.2⟩
      · have HTR := Lib.hid (show takeR v y kd st = (some it, ⟨y :: st.asked, 0⟩) by rw [HTK.out, hlk]; simp only; rw [if_neg hkd])
        have HOJ3 := Lib.hid (show w2.heap[o]? = some (.cells #[.int .u8 v.kind, .int .i64 v.n, .string v.t, .slice an v.names.length cn, .slice ai v.items.length ci, ask, .int .i64 0] 122 (0, 0)) by rw [← HE.out]; exact HOJ2.out)
        by_cases hk0 : kd = 0
        · subst hk0
          clear hlk HI HTK hkd
          go_wp2
          have hend := ref_end (st' := ⟨y :: st.asked, 0⟩) (p := w.heap.size) (v0 := .int .u8 it.kind) (v1 := .int .i64 it.n) (v2 := .string it.t) (v3 := .slice xan it.names.length xcn) (v4 := .slice xai it.items.length xci) HP.out HBB.out HT2.out HO2.out hgo HGP.out (Nat.le_refl _) (obj_set5 HOJ3.out _) (fun k hk => by rw [Below.heap_setCell _ _ _ _ hk]) (HT2.out.setCell (.inl (.inl rfl)) _) (fun _ => HLE.out) HE.out (fun _ => rfl) (fun h => absurd rfl h) (by omega)
          refine bodyPost_ret (results_row_tmp Tryz.results92 _ _ w.heap.size 29 #[.int .u8 it.kind, .int .i64 it.n, .string it.t, .slice xan it.names.length xcn, .slice xai it.items.length xci] (0, 0) _ rfl (row5_heap (set5 _ _ _ _ _ (HR2.out.of_block (Below.heap_setCell _ _ _ _ n1)))) Tryz.underlying29 rfl (by kernel_rfl) _ rfl) rfl ?_
          unfold TakePost
          rw [HTR.out]
          exact ⟨some g, .inr ⟨it, xan, xcn, xai, xci, rfl, rfl, hwi, hri2.out _ hend.2⟩, hend.1, HBN.out, hend.2⟩
        · have hke : it.kind = kd := by
            by_cases e : it.kind = kd
            · exact e
            · exact absurd ⟨hk0, e⟩ hkd
          subst hke
          have k1 : (it.kind != 0) = true := by simpa using hk0
          have k3 : (it.kind == 0) = false := by simpa using hk0
          clear hlk HI HTK hkd hk0
          go_wp2
          have hend := ref_end (st' := ⟨y :: st.asked, 0⟩) (p := w.heap.size) (v0 := .int .u8 it.kind) (v1 := .int .i64 it.n) (v2 := .string it.t) (v3 := .slice xan it.names.length xcn) (v4 := .slice xai it.items.length xci) HP.out HBB.out HT2.out HO2.out hgo HGP.out (Nat.le_refl _) (obj_set5 HOJ3.out _) (fun k hk => by rw [Below.heap_setCell _ _ _ _ hk]) (HT2.out.setCell (.inl (.inl rfl)) _) (fun _ => HLE.out) HE.out (fun _ => rfl) (fun h => absurd rfl h) (by omega)
          refine bodyPost_ret (results_row_tmp Tryz.results92 _ _ w.heap.size 29 #[.int .u8 it.kind, .int .i64 it.n, .string it.t, .slice xan it.names.length xcn, .slice xai it.items.length xci] (0, 0) _ rfl (row5_heap (set5 _ _ _ _ _ (HR2.out.of_block (Below.heap_setCell _ _ _ _ n1)))) Tryz.underlying29 rfl (by kernel_rfl) _ rfl) rfl ?_
          unfold TakePost
          rw [HTR.out]
          exact ⟨some g, .inr ⟨it, xan, xcn, xai, xci, rfl, rfl, hwi, hri2.out _ hend.2⟩, hend.1, HBN.out, hend.2⟩
  · have he1 : (st.err == 0) = false := by simpa using he
    have he2 : (st.err != 0) = true := by simpa using he
    have HT := Lib.hid (show takeR v y kd st = (none, st) by unfold takeR; rw [if_pos he])
    clear he hobj hown hblk hL hLl hL6
    go_enter Tryz.func92, Tryz.ntmps92
    go_wp2
    have hb : Below w.heap.size w (w.alloc (.cells #[.int .u8 0, .int .i64 0, .string { data := #[] }, .slice none 0 0, .slice none 0 0] 29)) := (Below.refl _ _).alloc (Nat.le_refl _) _
    refine bodyPost_ret (results_row_tmp Tryz.results92 _ _ w.heap.size 29 #[.int .u8 0, .int .i64 0, .string { data := #[] }, .slice none 0 0, .slice none 0 0] (0, 0) _ rfl (heap_alloc_new w _) Tryz.underlying29 rfl (by kernel_rfl) _ rfl) rfl ?_
    unfold TakePost
    rw [HT.out]
    exact ⟨blk, .inl ⟨rfl, rfl⟩, HP.out.below hb, .inl rfl, below_touch hb⟩

end Go.Proofs.YtcahpjejpimdhaaGreatDoor
