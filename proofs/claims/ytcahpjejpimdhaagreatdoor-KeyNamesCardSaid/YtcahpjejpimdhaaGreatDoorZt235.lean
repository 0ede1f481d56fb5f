/- The contract of the law KeyTables: it returns true, whatever the keys and the value. -/
import Derived.Test.YtcahpjejpimdhaaGreatDoorZt232
import Derived.Test.YtcahpjejpimdhaaGreatDoorZt233
import Derived.Test.YtcahpjejpimdhaaGreatDoorZt231
import Derived.Test.YtcahpjejpimdhaaGreatDoorZt234
import Derived.Test.YtcahpjejpimdhaaGreatDoorZt222
import Derived.Test.YtcahpjejpimdhaaGreatDoorZt229
import Derived.Test.YtcahpjejpimdhaaGreatDoorZt201
import Derived.Test.YtcahpjejpimdhaaGreatDoorZt215

namespace Go.Proofs.YtcahpjejpimdhaaGreatDoor
open Go.RowKit

/-- The table of any keys: its value, whatever it is. -/
theorem tab_same {l : List Key2} {u v : JV} (hu : (tabE l = 0 → ∃ m : List Key2, m.Perm l ∧ rises (ids m) = true ∧ u = tabJ m) ∧ (tabE l ≠ 0 → u = zeroJ)) (hv : (tabE l = 0 → ∃ m : List Key2, m.Perm l ∧ rises (ids m) = true ∧ v = tabJ m) ∧ (tabE l ≠ 0 → v = zeroJ)) : u = v := by
  by_cases h : tabE l = 0
  · obtain ⟨m, hp, hr, rfl⟩ := hu.1 h
    obtain ⟨m', hp', hr', rfl⟩ := hv.1 h
    rw [rises_unique (hp.trans hp'.symm) hr hr']
  · rw [hu.2 h, hv.2 h]

theorem flatK_len (M : List Key2) : (M.flatMap encK).length = M.length * 2 := by
  induction M with
  | nil => rfl
  | cons k r ih => rw [List.flatMap_cons, List.length_append, ih]; simp [encK]; omega
theorem flatK_one (M : List Key2) : ∀ u ∈ M.flatMap encK, u.oneCell' = true := fun u hu => by
  obtain ⟨k, _, hk⟩ := List.mem_flatMap.1 hu
  simp only [encK, List.mem_cons, List.not_mem_nil, or_false] at hk
  rcases hk with rfl | rfl <;> rfl
theorem keys_news {w : World} {lo hi : Nat} {a : Option Addr} {l : List Key2} (h : KeysAt w lo hi a l) : 0 < l.length → ∃ ad, a = some ad ∧ ∀ j u, (l.flatMap encK)[j]? = some u → w.cell? (ad.add j) = some u := fun h0 => by
  rcases h with h | ⟨b, off, ha, hb, hb', hr⟩
  · rw [h] at h0; simp at h0
  · refine ⟨_, ha, fun j u hu => ?_⟩
    have ea : (⟨b, off, none⟩ : Addr).add j = ⟨b, off + j, none⟩ := by unfold Addr.add; split <;> simp_all
    have hj := (List.getElem?_eq_some_iff.1 hu).1
    rw [flatK_len] at hj
    obtain ⟨e0, e1⟩ := hr (j / 2) (by omega)
    obtain ⟨f0, f1⟩ := flatK_get (M := l) (j / 2) (by omega)
    rw [ea]
    rcases Nat.mod_two_eq_zero_or_one j with h2 | h2
    · rw [show j = j / 2 * 2 by omega, f0] at hu
      rw [show off + j = off + j / 2 * 2 by omega, e0, hu]
    · rw [show j = j / 2 * 2 + 1 by omega, f1] at hu
      rw [show off + j = off + j / 2 * 2 + 1 by omega, e1, hu]
/-- A row of n elements of the call's own has room for its cells. -/
theorem owns_room2 {w : World} {base e n cn : Nat} {an : Option Addr} {xs : List Value} (h : w.ownsRow base e 2 (.slice an n cn) n xs) : n = 0 ∨ ∃ b, an = some ⟨b, 0, none⟩ ∧ base ≤ b ∧ Room w b 0 (n * 2) := by
  rcases h.2 with ⟨_, h0⟩ | ⟨g, cap, cur, hv, hg, hh, hc, _, hs, _⟩
  · exact .inl h0
  · simp only [Value.slice.injEq, true_and] at hv
    obtain ⟨rfl, rfl⟩ := hv
    exact .inr ⟨g, rfl, hg, cur, e, hh, by rw [hs]; omega⟩
theorem Spoil1.next {wo wr : World} {n q bn : Nat} {v0 v1 : Value} (h : Spoil1 wo n 2 (some ⟨bn, 0, none⟩) wr) (hq : q < n) : Spoil1 wo n 2 (some ⟨bn, 0, none⟩) ((wr.setCell ⟨bn, q * 2, none⟩ v0).setCell ⟨bn, q * 2 + 1, none⟩ v1) := by
  obtain ⟨b1, e1, g1, g2⟩ := h.2.resolve_left (by omega)
  simp only [Option.some.injEq, Addr.mk.injEq, and_true] at e1
  subst e1
  exact ⟨(h.1.setCell g1 _).setCell g1 _, .inr ⟨_, rfl, g1, (g2.any _ _ _).any _ _ _⟩⟩

set_option maxHeartbeats 4000000 in
set_option maxRecDepth 100000 in
theorem lawKeyTables (l : List Key2) (a : Option Addr) (c : Nat) (v : JV) (xv : Value) (w : World) (hK : KeysAt w 0 w.heap.size a l) (hl : l.length ≤ 9223372036854775807) (hV : Rep w 0 w.heap.size v xv) (hT : Tabs w) :
    Calls Tryz.prog 9 #[.slice a l.length c, xv] w fun e w' => e = .returned (.bool true) ∧ Below w.heap.size w w' := by
  obtain ⟨an, cn, ai, ci, rfl, -, -, -, -⟩ := hV.parts
  obtain ⟨W0, hW0⟩ : ∃ W0, W0 = w.alloc (.cells #[.int .u8 v.kind, .int .i64 v.n, .string v.t, .slice an v.names.length cn, .slice ai v.items.length ci] 29) := ⟨_, rfl⟩
  have hz0 : W0.heap.size = w.heap.size + 1 := by rw [hW0]; simp
  have HB0 := Lib.hid (show Below w.heap.size w W0 by rw [hW0]; exact (Below.refl _ _).alloc (Nat.le_refl _) _)
  have HXV := Lib.hid (show W0.heap[w.heap.size]? = some (.cells #[.int .u8 v.kind, .int .i64 v.n, .string v.t, .slice an v.names.length cn, .slice ai v.items.length ci] 29 (0, 0)) by rw [hW0]; exact heap_alloc_new w _)
  have HT := Lib.hid (hT.below HB0.out)
  have HK := Lib.hid (hK.below HB0.out (Nat.le_refl _) (Nat.le_refl _) HB0.out.size)
  have HV := Lib.hid (hV.below HB0.out (Nat.le_refl _) (Nat.le_refl _) HB0.out.size)
  have HW0 := Lib.hid hW0
  have HZ0 := Lib.hid hz0
  clear hT hK hV hW0 hz0
  have HEND := Lib.hid (show ∀ w', Below W0.heap.size W0 w' → Below w.heap.size w w' from fun w' h => HB0.out.trans (h.mono HB0.out.size))
  have HAW := Lib.hid (show ∀ w', Below W0.heap.size W0 w' → Calls Tryz.prog 14 #[] w' (fun e w'' => e = .returned (.bool true) ∧ Below W0.heap.size W0 w'') from fun w' h => by
    refine (lawAwake w' (HT.out.below h)).mono ?_
    rintro e w'' ⟨rfl, hb⟩
    exact ⟨rfl, h.trans (hb.mono h.size)⟩)
  have HF := Lib.hid (lawFew l a c W0 HK.out hl)
  go_enter Tryz.func9, Tryz.ntmps9
  go_wp2_with fail
  rw [← HW0.out]
  clear HW0
  refine HF.out.mono ?_
  clear HF
  rintro e w2 ⟨b, rfl, hfew, hb2⟩
  have HB2 := Lib.hid hb2
  clear hb2
  cases b
  · clear hfew
    go_wp2_with fail
    refine (HAW.out w2 HB2.out).mono ?_
    rintro e w2 ⟨rfl, hb2⟩
    go_wp2
    go_ret
    exact ⟨rfl, HEND.out _ hb2⟩
  obtain ⟨h40, hsh⟩ := hfew rfl
  have HSH := Lib.hid hsh
  clear hfew hsh
  obtain ⟨c0, c1, c2, c3, c4⟩ := kcells5 HXV.out HB2.out
  have HL := Lib.hid (lawLong [v] (some ⟨w2.heap.size, 0, none⟩) 1 (w2.alloc (.cells #[.int .u8 v.kind, .int .i64 v.n, .string v.t, .slice an v.names.length cn, .slice ai v.items.length ci] 29)) (vals_one (heap_alloc_new _ _) (by simp) ((HV.out.below HB2.out (Nat.le_refl _) (Nat.le_refl _) HB2.out.size).below ((Below.refl _ _).alloc (Nat.le_refl _) _) (Nat.le_refl _) (Nat.le_refl _) (by simp))))
  go_wp2_with fail
  refine HL.out.mono ?_
  clear HL c0 c1 c2 c3 c4
  rintro e w3 ⟨b, rfl, hlong, hw3⟩
  have HB3 := Lib.hid (show Below W0.heap.size W0 w3 by rw [← hw3]; exact below_now HB2.out)
  clear hw3
  cases b
  case true =>
    clear hlong
    go_wp2_with fail
    refine (HAW.out w3 HB3.out).mono ?_
    rintro e w2 ⟨rfl, hb2⟩
    go_wp2
    go_ret
    exact ⟨rfl, HEND.out _ hb2⟩
  have hwv : v.wt ≤ 20000 := by have := hlong rfl; simp [JV.wts] at this; omega
  clear hlong HB2
  have HRT := Lib.hid (ref14Table l a c w3 (HK.out.below HB3.out (Nat.le_refl _) (Nat.le_refl _) HB3.out.size) h40 HSH.out)
  unfold TabAny ValPost at HRT
  go_wp2_with fail
  refine HRT.out.mono ?_
  clear HRT
  rintro e w4 ⟨u, hu1, hu2, hwu, bn, dn, bi, di, rfl, hr4, hb4⟩
  obtain ⟨E, hE⟩ : ∃ E, E = tabE l := ⟨_, rfl⟩
  rw [← hE]
  have HUT := Lib.hid (show ∀ z : JV, (tabE l = 0 → ∃ m : List Key2, m.Perm l ∧ rises (ids m) = true ∧ z = tabJ m) → (tabE l ≠ 0 → z = zeroJ) → z = u from fun z h1 h2 => tab_same ⟨h1, h2⟩ ⟨hu1, hu2⟩)
  have HE := Lib.hid hE
  have HUL := Lib.hid (show u.names.length = u.items.length by
    by_cases h : tabE l = 0
    · obtain ⟨m, _, _, rfl⟩ := hu1 h
      show (ids m).length = (m.map obj2).length
      simp [ids]
    · rw [hu2 h]; rfl)
  clear hu1 hu2 hE
  obtain ⟨W4, hW4⟩ : ∃ W4, W4 = w4.alloc (.cells #[.int .u8 u.kind, .int .i64 u.n, .string u.t, .slice bn u.names.length dn, .slice bi u.items.length di] 29) := ⟨_, rfl⟩
  have HB4 := Lib.hid (show Below W0.heap.size W0 W4 by rw [hW4]; exact below_now (HB3.out.trans (hb4.mono HB3.out.size)))
  have HX4 := Lib.hid (show W4.heap[w4.heap.size]? = some (.cells #[.int .u8 u.kind, .int .i64 u.n, .string u.t, .slice bn u.names.length dn, .slice bi u.items.length di] 29 (0, 0)) by rw [hW4]; exact heap_alloc_new w4 _)
  have HR4 := Lib.hid (show Rep W4 0 W4.heap.size u (.agg #[.int .u8 u.kind, .int .i64 u.n, .string u.t, .slice bn u.names.length dn, .slice bi u.items.length di]) by
    rw [hW4]; exact Rep.carry (Nat.zero_le _) (by simp) (fun b _ h => Below.heap_alloc _ _ _ h) _ _ hr4)
  obtain ⟨c0, c1, c2, c3, c4⟩ := kcells5 HXV.out HB4.out
  rw [hW4] at c0 c1 c2 c3 c4
  have HRK := Lib.hid (ref14Keys v _ W4 (by omega) (HV.out.below HB4.out (Nat.le_refl _) (Nat.le_refl _) HB4.out.size))
  unfold KeysPost at HRK
  have hm32 : (keysJ v).1.length ≤ 32 := by
    by_cases h : (keysJ v).2 = 0
    · exact (keysJ_back h).2.2.2
    · rw [keysJ_none h]; exact Nat.zero_le _
  obtain ⟨K, hKK⟩ : ∃ K, K = keysJ v := ⟨_, rfl⟩
  rw [← hKK] at hm32
  have HKJ := Lib.hid hKK
  rw [← hKK] at HRK
  obtain ⟨M, ME⟩ := K
  have HM32 := Lib.hid (show M.length ≤ 32 from hm32)
  clear hm32
  have HW4 := Lib.hid hW4
  clear hr4 hb4 hW4 hKK HB3
  go_wp2_with fail
  rw [← HW4.out]
  refine HRK.out.mono ?_
  clear HRK HW4 c0 c1 c2 c3 c4
  rintro e w5 ⟨val, rfl, hown, hb5⟩
  obtain ⟨am, cm, hval, hKM⟩ := owns_keys (M := M) hown rfl
  subst hval
  have HB5 := Lib.hid (HB4.out.trans (hb5.mono HB4.out.size))
  have HX5 := Lib.hid (kept_blk hb5 HX4.out)
  have HR5 := Lib.hid (HR4.out.below hb5 (Nat.le_refl _) (Nat.le_refl _) hb5.size)
  have HKM := Lib.hid (show KeysAt w5 0 w5.heap.size am M from hKM.carry (Nat.zero_le _) (Nat.le_refl _) (fun _ _ _ => rfl))
  clear hown hb5 hKM HX4 HR4 HB4
  have HUW := Lib.hid hwu
  clear hwu
  obtain ⟨i3, hi3, iz0, iz1, iz2⟩ := info_parts infoKey
  have HK5 := Lib.hid (HK.out.below HB5.out (Nat.le_refl _) (Nat.le_refl _) HB5.out.size)
  obtain ⟨n, hn⟩ : ∃ n, n = l.length := ⟨_, rfl⟩
  have HN := Lib.hid hn
  rw [← hn] at h40
  rw [← hn]
  clear hn
  have HFL := Lib.hid (show (l.flatMap encK).length = n * 2 by rw [HN.out]; exact flatK_len l)
  have HNW := Lib.hid (show ∀ X : World, Below w5.heap.size w5 X → 0 < n → ∃ ad, a = some ad ∧ ∀ j u, (l.flatMap encK)[j]? = some u → X.cell? (ad.add j) = some u from fun X hX h0 => keys_news (HK5.out.below hX (Nat.le_refl _) (Nat.le_refl _) (Nat.le_refl _)) (by rw [← HN.out]; exact h0))
  go_wp2_with (at_builtin; refine wpList_append_any _ rfl (.tmp 36) (.tmp 37) 43 rfl w5.heap.size 23 i3 _ 2 32 Tryz.underlying43 hi3 iz0 iz1 iz2 rfl (by decide) (.slice (some ⟨w5.heap.size, 0, none⟩) 0 0) 0 [] rfl (World.ownsRow_lit w5 #[] 0 (Nat.le_refl _) (by unfold maxLen; omega) rfl) _ n c (l.flatMap encK) rfl HFL.out (HNW.out _ ((Below.refl _ _).alloc (Nat.le_refl _) _)) (flatK_one l) (by unfold maxLen; omega) (by omega) (by simp) (w5.heap.size + 1) (by simp) ?_; intro a6 c6 w6 hown6 hgrow6 hat6; rw [Nat.zero_add] at hown6 ⊢; have HO6 := Lib.hid hown6; have HB6 := Lib.hid (below_grown ((Below.refl w5.heap.size w5).alloc (Nat.le_refl _) _) (by simp) hgrow6 (fun b hb => by simp [Value.ownBlock] at hb; omega)); clear hown6 hgrow6 hat6)
  have hKI : KeysAt w6 0 w6.heap.size a6 l := by
    obtain ⟨aa, cc, hval, hKI⟩ := owns_keys (M := l) (by have := HO6.out; rwa [List.nil_append] at this) HN.out
    simp only [Value.slice.injEq] at hval
    rw [hval.1]
    exact hKI.carry (Nat.zero_le _) (Nat.le_refl _) (fun _ _ _ => rfl)
  have HKI := Lib.hid hKI
  have HBW := Lib.hid (HB5.out.trans (HB6.out.mono HB5.out.size))
  have HX6 := Lib.hid (kept_blk HB6.out HX5.out)
  have HR6 := Lib.hid (HR5.out.below HB6.out (Nat.le_refl _) (Nat.le_refl _) HB6.out.size)
  have HKM6 := Lib.hid (HKM.out.below HB6.out (Nat.le_refl _) (Nat.le_refl _) HB6.out.size)
  have HK6 := Lib.hid (HK5.out.below HB6.out (Nat.le_refl _) (Nat.le_refl _) HB6.out.size)
  have hp4 : w4.heap.size < w6.heap.size := heap_lt HX6.out
  have hw6 : w.heap.size < w6.heap.size := by have := HZ0.out; have := HBW.out.size; omega
  obtain ⟨nn, hnn⟩ : ∃ nn, nn = u.names.length := ⟨_, rfl⟩
  have hni : nn = u.items.length := by rw [hnn]; exact HUL.out
  have hnb : nn ≤ 4294967296 := by have := u.wt_bd; have := HUW.out; omega
  have HNN := Lib.hid hnn
  have HNI := Lib.hid hni
  rw [← hnn] at HX6 HR6
  rw [← hni] at HX6 HR6
  rw [← hnn, ← hni]
  obtain ⟨mm, hmm⟩ : ∃ mm, mm = M.length := ⟨_, rfl⟩
  have HMM := Lib.hid hmm
  have hm32 : mm ≤ 32 := by have := HM32.out; rw [← hmm] at this; exact this
  rw [← hmm]
  clear hnn hni hmm
  generalize w4.heap.size = p4 at *
  clear hKI HB6 HO6 HX5 HR5 HKM HK5 HFL HNW HB5
  go_loopw [10, 11, 12, 13, 14, 15, 16] (fun r _ _ _ _ _ _ wr => ∃ k : Nat, k ≤ 2 ∧ r = .int .i64 k ∧ Below w6.heap.size w6 wr) (fun r _ _ _ _ _ _ _ => 2 - (intOf r).toNat)
  case atStart => exact ⟨0, by omega, rfl, Below.refl _ _⟩
  case round =>
    obtain ⟨k, hk, rfl, hbk⟩ := hrel
    have HBK := Lib.hid hbk
    have HBA := Lib.hid (HBW.out.trans (hbk.mono HBW.out.size))
    have hzk : w6.heap.size ≤ wr.heap.size := hbk.size
    clear hbk
    by_cases hlt : k < 2
    · have hlt2 : (k : Int) < 2 := by omega
      have HTB := Lib.hid (keyTable_own l a6 c6 wr (HKI.out.below HBK.out (Nat.le_refl _) (Nat.le_refl _) HBK.out.size) (by rw [← HN.out]; exact h40) HSH.out (HT.out.below HBA.out))
      rw [← HN.out] at HTB
      unfold TabOwn OwnPost at HTB
      go_wp2_with fail
      refine HTB.out.mono ?_
      clear HTB
      rintro e w7 ⟨z, hz1, hz2, _, on, pn, oi, qi, rfl, hr7, hb7, hroom⟩
      obtain rfl : z = u := HUT.out z hz1 hz2
      rw [← HE.out]
      clear hz1 hz2
      have HR7 := Lib.hid hr7
      have HB7 := Lib.hid hb7
      have HRM := Lib.hid hroom
      have hz7 : wr.heap.size ≤ w7.heap.size := hb7.size
      rw [← HNN.out] at HR7 HRM
      rw [← HNI.out] at HR7
      rw [← HNN.out, ← HNI.out]
      clear hr7 hb7 hroom
      obtain ⟨W7, hW7⟩ : ∃ W7, W7 = w7.alloc (.cells #[.int .u8 z.kind, .int .i64 z.n, .string z.t, .slice on nn pn, .slice oi nn qi] 29) := ⟨_, rfl⟩
      have HX7 := Lib.hid (show W7.heap[w7.heap.size]? = some (.cells #[.int .u8 z.kind, .int .i64 z.n, .string z.t, .slice on nn pn, .slice oi nn qi] 29 (0, 0)) by rw [hW7]; exact heap_alloc_new w7 _)
      have hbW : Below wr.heap.size wr W7 := by rw [hW7]; exact below_now HB7.out
      have hzW : W7.heap.size = w7.heap.size + 1 := by rw [hW7]; simp
      have HBW7 := Lib.hid hbW
      have HBA7 := Lib.hid (HBA.out.trans (hbW.mono HBA.out.size))
      have HKB := Lib.hid (show Below w6.heap.size w6 W7 from HBK.out.trans (hbW.mono HBK.out.size))
      have HR7' := Lib.hid (show Rep W7 wr.heap.size w7.heap.size z (.agg #[.int .u8 z.kind, .int .i64 z.n, .string z.t, .slice on nn pn, .slice oi nn qi]) by
        rw [hW7]; exact Rep.carry (Nat.le_refl _) (Nat.le_refl _) (fun b _ h => Below.heap_alloc _ _ _ h) _ _ HR7.out)
      have HRM7 := Lib.hid (show nn = 0 ∨ ∃ b, on = some ⟨b, 0, none⟩ ∧ wr.heap.size ≤ b ∧ b < w7.heap.size ∧ Room W7 b 0 nn from by
        rcases HRM.out with h | ⟨b, h1, h2, h3⟩
        · exact .inl h
        · exact .inr ⟨b, h1, h2, h3.lt, by rw [hW7]; exact h3.of_block (Below.heap_alloc _ _ _ h3.lt)⟩)
      have HW7 := Lib.hid hW7
      obtain ⟨c0, c1, c2, c3, c4⟩ := kcells5 HXV.out HBA7.out
      rw [hW7] at c0 c1 c2 c3 c4
      have HKK := Lib.hid (keyKeys v _ W7 (by omega) (HV.out.below HBA7.out (Nat.le_refl _) (Nat.le_refl _) HBA7.out.size) (HT.out.below HBA7.out))
      unfold KeysPost at HKK
      rw [← HKJ.out] at HKK
      clear hbW hW7 HR7 HRM HB7
      go_wp2_with fail
      rw [← HW7.out]
      refine HKK.out.mono ?_
      clear HKK HW7 c0 c1 c2 c3 c4
      rintro e w8 ⟨val, rfl, hown, hb8⟩
      obtain ⟨ak, ck, hval, hKQ⟩ := owns_keys (M := M) hown rfl
      subst hval
      have HKQ := Lib.hid (show KeysAt w8 0 w8.heap.size ak M from hKQ.carry (Nat.zero_le _) (Nat.le_refl _) (fun _ _ _ => rfl))
      have HRK8 := Lib.hid (owns_room2 hown)
      have hz8 : W7.heap.size ≤ w8.heap.size := hb8.size
      have HB8 := Lib.hid (HKB.out.trans (hb8.mono HKB.out.size))
      have HX8 := Lib.hid (kept_blk hb8 HX7.out)
      have HR8 := Lib.hid (HR7'.out.below hb8 (by omega) (Nat.le_refl _) (Nat.le_refl _))
      have HRM8 := Lib.hid (show nn = 0 ∨ ∃ b, on = some ⟨b, 0, none⟩ ∧ wr.heap.size ≤ b ∧ b < w7.heap.size ∧ Room w8 b 0 nn from by
        rcases HRM7.out with h | ⟨b, h1, h2, h3, h4⟩
        · exact .inl h
        · exact .inr ⟨b, h1, h2, h3, h4.of_block (hb8.block b (by omega))⟩)
      have HBB8 := Lib.hid (HBW7.out.trans (hb8.mono (by omega)))
      rw [← HMM.out] at HRK8
      rw [← HMM.out]
      have t1 : (E != E) = false := by simp
      have t2 : (ME != ME) = false := by simp
      have hx6 := kept_blk HB8.out HX6.out
      have d0 : w8.cell? ⟨w7.heap.size, 0, none⟩ = some (.int .u8 z.kind) := box_cell HX8.out rfl
      have d1 : w8.cell? ⟨w7.heap.size, 1, none⟩ = some (.int .i64 z.n) := box_cell HX8.out rfl
      have d2 : w8.cell? ⟨w7.heap.size, 2, none⟩ = some (.string z.t) := box_cell HX8.out rfl
      have d3 : w8.cell? ⟨w7.heap.size, 3, none⟩ = some (.slice on nn pn) := box_cell HX8.out rfl
      have d4 : w8.cell? ⟨w7.heap.size, 4, none⟩ = some (.slice oi nn qi) := box_cell HX8.out rfl
      have e0 : w8.cell? ⟨p4, 0, none⟩ = some (.int .u8 z.kind) := box_cell hx6 rfl
      have e1 : w8.cell? ⟨p4, 1, none⟩ = some (.int .i64 z.n) := box_cell hx6 rfl
      have e2 : w8.cell? ⟨p4, 2, none⟩ = some (.string z.t) := box_cell hx6 rfl
      have e3 : w8.cell? ⟨p4, 3, none⟩ = some (.slice bn nn dn) := box_cell hx6 rfl
      have e4 : w8.cell? ⟨p4, 4, none⟩ = some (.slice bi nn di) := box_cell hx6 rfl
      have HSA := Lib.hid (refSame 4294967296 z z _ _ 0 w8.heap.size w8 HUW.out HUW.out (Nat.le_refl _) (Nat.le_refl _) (Rep.carry (Nat.zero_le _) (by omega) (fun _ _ _ => rfl) _ _ HR8.out) (HR6.out.below HB8.out (Nat.le_refl _) (Nat.le_refl _) HB8.out.size))
      rw [show z.sameB z = true from (JV.sameB_iff z z).2 rfl] at HSA
      clear hown hb8 hKQ hx6 HX7 HR7' HRM7 HBW7 HBA7 HKB
      go_wp2_with fail
      refine HSA.out.mono ?_
      clear HSA d0 d1 d2 d3 d4 e0 e1 e2 e3 e4
      rintro e w9 ⟨rfl, hb9⟩
      have hz9 : w8.heap.size ≤ w9.heap.size := hb9.size
      have HB9 := Lib.hid (HB8.out.trans (hb9.mono HB8.out.size))
      have HSB := Lib.hid (ref14Same M M ak am ck cm w9 (HKQ.out.below hb9 (Nat.le_refl _) (Nat.le_refl _) hb9.size) (HKM6.out.below HB9.out (Nat.le_refl _) (Nat.le_refl _) HB9.out.size) (by rw [← HMM.out]; omega) (by rw [← HMM.out]; omega))
      rw [← HMM.out, decide_eq_true (show M = M from rfl)] at HSB
      have HB89 := Lib.hid hb9
      clear hb9
      go_wp2_with fail
      refine HSB.out.mono ?_
      clear HSB
      rintro e w10 ⟨rfl, hb10⟩
      have hz10 : w9.heap.size ≤ w10.heap.size := hb10.size
      have HB10 := Lib.hid (HB9.out.trans (hb10.mono HB9.out.size))
      have HB810 := Lib.hid (HB89.out.trans (hb10.mono HB89.out.size))
      have HSC := Lib.hid (ref14Same l l a6 a c6 c w10 (HKI.out.below HB10.out (Nat.le_refl _) (Nat.le_refl _) HB10.out.size) (HK6.out.below HB10.out (Nat.le_refl _) (Nat.le_refl _) HB10.out.size) (by rw [← HN.out]; omega) (by rw [← HN.out]; omega))
      rw [← HN.out, decide_eq_true (show l = l from rfl)] at HSC
      clear hb10
      go_wp2_with fail
      refine HSC.out.mono ?_
      clear HSC
      rintro e w11 ⟨rfl, hb11⟩
      have hz11 : w10.heap.size ≤ w11.heap.size := hb11.size
      have HB11 := Lib.hid (HB810.out.trans (hb11.mono HB810.out.size))
      have HSP := Lib.hid (show Spoil2 wr w7.heap.size (.cells #[.int .u8 z.kind, .int .i64 z.n, .string z.t, .slice on nn pn, .slice oi nn qi] 29 (0, 0)) nn on oi mm ak 0 w11 from by
        have hbb := HBB8.out.trans (HB11.out.mono HBB8.out.size)
        refine ⟨Nat.zero_le _, hbb, kept_blk HB11.out HX8.out, ?_, ?_, ?_⟩
        · rcases HRM8.out with h | ⟨b, h1, h2, h3, h4⟩
          · exact .inl h
          · exact .inr ⟨b, h1, h2, h3, h4.of_block (HB11.out.block b (by omega))⟩
        · obtain ⟨an2, cn2, ai2, ci2, hx, _, _, _, hv⟩ := (HR8.out.below HB11.out (by omega) (Nat.le_refl _) (Nat.le_refl _)).parts
          simp only [Value.agg.injEq, Array.mk.injEq, List.cons.injEq, Value.slice.injEq, and_true] at hx
          obtain ⟨_, _, _, _, rfl, _, _⟩ := hx
          have := hv.room (by omega)
          rwa [← HNI.out] at this
        · rcases HRK8.out with h | ⟨b, h1, h2, h3⟩
          · exact .inl h
          · exact .inr ⟨b, h1, by omega, h3.of_block (HB11.out.block b h3.lt)⟩)
      generalize w7.heap.size = p7 at *
      obtain ⟨wo, rfl⟩ : ∃ wo : World, wo = wr := ⟨_, rfl⟩
      clear hb11 HBB8 HB11 HB810 HB10 HB9 HB89 HB8 HX8 HR8 HRM8 HRK8 HKQ t1 t2
      go_wp2_with fail
      go_loopw [15] (fun i wr => ∃ q : Nat, i = .int .i64 q ∧ Spoil2 wo p7 (.cells #[.int .u8 z.kind, .int .i64 z.n, .string z.t, .slice on nn pn, .slice oi nn qi] 29 (0, 0)) nn on oi mm ak q wr) (fun i _ => nn - (intOf i).toNat)
      case atStart => exact ⟨0, rfl, HSP.out⟩
      case round =>
        clear HSP
        obtain ⟨q, rfl, hsp⟩ := hrel
        have HSP := Lib.hid hsp
        have hqle : q ≤ nn := hsp.le
        clear hsp
        by_cases hqn : q < nn
        · obtain ⟨b1, rfl, g1, g2, g3⟩ := HSP.out.names.resolve_left (by omega)
          obtain ⟨b2, off, rfl, k1, k2, k3⟩ := HSP.out.items.resolve_left (by omega)
          have c3 : wr.cell? ⟨p7, 3, none⟩ = some (.slice (some ⟨b1, 0, none⟩) nn pn) := box_cell HSP.out.box rfl
          have c4 : wr.cell? ⟨p7, 4, none⟩ = some (.slice (some ⟨b2, off, none⟩) nn qi) := box_cell HSP.out.box rfl
          have n1 : ¬ b1 = p7 := by omega
          have n2 : ¬ p7 = b1 := by omega
          have n3 : ¬ b2 = p7 := by omega
          have n4 : ¬ p7 = b2 := by omega
          obtain ⟨u0, f0⟩ := g3.cell q (by omega)
          have s5 := g3.frozen q
          have k4 : Room (wr.setCell ⟨b1, q, none⟩ (.string { data := #[115, 112, 111, 105, 108, 116] })) b2 off (nn * 5) := k3.any _ _ _
          obtain ⟨u1, f1⟩ := k4.cell (off + q * 5) (by omega)
          obtain ⟨u2, f2⟩ := k4.cell (off + q * 5 + 1) (by omega)
          obtain ⟨u3, f3⟩ := k4.cell (off + q * 5 + 2) (by omega)
          obtain ⟨u4, f4⟩ := k4.cell (off + q * 5 + 3) (by omega)
          obtain ⟨u5, f5⟩ := k4.cell (off + q * 5 + 4) (by omega)
          have s0 := k4.frozen (off + q * 5)
          have s1 := k4.frozen (off + q * 5 + 1)
          have s2 := k4.frozen (off + q * 5 + 2)
          have s3 := k4.frozen (off + q * 5 + 3)
          have s4 := k4.frozen (off + q * 5 + 4)
          have m1 : (0 : Int) ≤ (q : Int) := by omega
          have m2 : (q : Int) < (nn : Int) := by omega
          clear g3 k3 k4
          go_wp2_with fail
          go_region
          all_goals
            go_wp2
            go_roundw
            case rel => exact ⟨q + 1, by go_num, (HSP.out.next hqn).drew⟩
            case measure => simp [intOf]; omega
        · have hqn' : ¬ (q : Int) < (nn : Int) := by omega
          have c4 : wr.cell? ⟨p7, 4, none⟩ = some (.slice oi nn qi) := box_cell HSP.out.box rfl
          have HS1 := Lib.hid (show Spoil1 wo mm 2 ak wr from ⟨HSP.out.below, HSP.out.keys⟩)
          go_wp2_with fail
          clear c4
          obtain ⟨wp, rfl⟩ : ∃ wp : World, wp = wr := ⟨_, rfl⟩
          go_loopw [16] (fun i wr => ∃ q : Nat, q ≤ mm ∧ i = .int .i64 q ∧ Spoil1 wo mm 2 ak wr) (fun i _ => mm - (intOf i).toNat)
          case atStart => exact ⟨0, by omega, rfl, HS1.out⟩
          case round =>
            clear HS1
            obtain ⟨j, hj, rfl, hs1⟩ := hrel
            have HS1 := Lib.hid hs1
            clear hs1
            by_cases hjm : j < mm
            · obtain ⟨b1, rfl, g1, g3⟩ := HS1.out.2.resolve_left (by omega)
              obtain ⟨u0, f0⟩ := g3.cell (j * 2) (by omega)
              obtain ⟨u1, f1⟩ := g3.cell (j * 2 + 1) (by omega)
              have s0 := g3.frozen (j * 2)
              have s1 := g3.frozen (j * 2 + 1)
              have m1 : (0 : Int) ≤ (j : Int) := by omega
              have m2 : (j : Int) < (mm : Int) := by omega
              clear g3
              go_wp2
              go_roundw
              case rel => exact ⟨j + 1, by omega, by go_num, HS1.out.next hjm⟩
              case measure => simp [intOf]; omega
            · have hjm' : ¬ (j : Int) < (mm : Int) := by omega
              go_wp2
              go_roundw
              case rel => exact ⟨k + 1, by omega, by go_num, HBK.out.trans (HS1.out.1.mono HBK.out.size)⟩
              case measure => simp [intOf]; omega
    · have hlt2 : ¬ (k : Int) < 2 := by omega
      go_wp2_with fail
      refine (HAW.out wr HBA.out).mono ?_
      rintro e w12 ⟨rfl, hb12⟩
      go_wp2
      go_ret
      exact ⟨rfl, HEND.out _ hb12⟩

end Go.Proofs.YtcahpjejpimdhaaGreatDoor
