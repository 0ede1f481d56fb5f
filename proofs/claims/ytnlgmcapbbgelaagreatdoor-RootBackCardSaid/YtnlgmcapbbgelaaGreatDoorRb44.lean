/- The law RootBack: the call returns true. Printed by genrootback.py. -/
import Derived.Test.YtnlgmcapbbgelaaGreatDoorRb42
import Derived.Test.YtnlgmcapbbgelaaGreatDoorRb21
import Derived.Test.YtnlgmcapbbgelaaGreatDoorRb36
import Derived.Test.YtnlgmcapbbgelaaGreatDoorRb17
import Derived.Test.YtnlgmcapbbgelaaGreatDoorRb02
import Derived.Test.YtnlgmcapbbgelaaGreatDoorRb40
import Derived.Test.YtnlgmcapbbgelaaGreatDoorRb38
import Derived.Test.YtnlgmcapbbgelaaGreatDoorRb43

namespace Go.Proofs.YtnlgmcapbbgelaaGreatDoor
open Go.RowKit Go.Shelf Go.Sort
theorem rootFits_zero : RootFits rootZ := ⟨by decide, by decide, by decide, (fun k hk => by cases hk), authFits_zero, authFits_zero, authFits_zero⟩
theorem rootR_may {r : RootV} (h : mayRoot r = true) : rootR r = (rootJ r, 0) := by unfold rootR; rw [if_pos h]
theorem rootR_not {r : RootV} (h : mayRoot r = false) : rootR r = (zeroJ, 3) := by unfold rootR; rw [if_neg (by rw [h]; decide)]
theorem rootJ_back {r : RootV} (h : mayRoot r = true) : rootOfA (rootJ r) = (r, 0) := by rw [rootA_eq (rootJ_may h) rfl]; exact root_back h
theorem rootIn_zero (w : World) (lo hi : Nat) : RootIn w lo hi rootZ none none none none := ⟨.inl rfl, .inl rfl, .inl rfl, .inl rfl⟩
theorem heap_new_at {w n : World} {b : Nat} {o : Obj} (h : n = w.alloc o) (hb : b = w.heap.size) : n.heap[b]? = some o := by rw [h, hb]; exact heap_alloc_new w _
theorem boxc5 {w : World} {b T : Nat} {a0 a1 a2 a3 a4 : Value} (h : w.heap[b]? = some (.cells #[a0, a1, a2, a3, a4] T (0, 0))) : w.cell? ⟨b, 0, none⟩ = some a0 ∧ w.cell? ⟨b, 1, none⟩ = some a1 ∧ w.cell? ⟨b, 2, none⟩ = some a2 ∧ w.cell? ⟨b, 3, none⟩ = some a3 ∧ w.cell? ⟨b, 4, none⟩ = some a4 := ⟨box_cell h rfl, box_cell h rfl, box_cell h rfl, box_cell h rfl, box_cell h rfl⟩
theorem cells9 {w : World} {b T : Nat} {a0 a1 a2 a3 a4 a5 a6 a7 a8 : Value} (h : w.heap[b]? = some (.cells #[a0, a1, a2, a3, a4, a5, a6, a7, a8] T (0, 0))) : w.cell? ⟨b, 0, none⟩ = some a0 ∧ w.cell? ⟨b, 1, none⟩ = some a1 ∧ w.cell? ⟨b, 2, none⟩ = some a2 ∧ w.cell? ⟨b, 3, none⟩ = some a3 ∧ w.cell? ⟨b, 4, none⟩ = some a4 ∧ w.cell? ⟨b, 5, none⟩ = some a5 ∧ w.cell? ⟨b, 6, none⟩ = some a6 ∧ w.cell? ⟨b, 7, none⟩ = some a7 ∧ w.cell? ⟨b, 8, none⟩ = some a8 := ⟨box_cell h rfl, box_cell h rfl, box_cell h rfl, box_cell h rfl, box_cell h rfl, box_cell h rfl, box_cell h rfl, box_cell h rfl, box_cell h rfl⟩
set_option maxHeartbeats 8000000 in
set_option maxRecDepth 100000 in
theorem lawRootBack (v e : Int) (l : List Key2) (t1 t2 t3 : Int) (d1 d2 d3 : List ByteArray) (ka i1 i2 i3 : Option Addr) (kc c1 c2 c3 : Nat) (u : JV) (uan uai : Option Addr) (ucn uci : Nat) (w : World) (hI : RootIn w 0 w.heap.size ⟨v, e, l, ⟨⟨t1, d1⟩, ⟨t2, d2⟩, ⟨t3, d3⟩⟩⟩ ka i1 i2 i3) (hl : l.length ≤ 9223372036854775807) (l1 : d1.length ≤ 9223372036854775807) (l2 : d2.length ≤ 9223372036854775807) (l3 : d3.length ≤ 9223372036854775807)
   (hbv : -9223372036854775808 ≤ v ∧ v ≤ 9223372036854775807) (hbe : -9223372036854775808 ≤ e ∧ e ≤ 9223372036854775807) (hb1 : -9223372036854775808 ≤ t1 ∧ t1 ≤ 9223372036854775807) (hb2 : -9223372036854775808 ≤ t2 ∧ t2 ≤ 9223372036854775807) (hb3 : -9223372036854775808 ≤ t3 ∧ t3 ≤ 9223372036854775807)
   (hU : Rep w 0 w.heap.size u (.agg #[.int .u8 u.kind, .int .i64 u.n, .string u.t, .slice uan u.names.length ucn, .slice uai u.items.length uci])) (hT : Tabs w) (hTW : TabW w) (hP : Pow10 w) (hTP : TopsW w) :
   Calls Tryz.prog 8 #[.agg #[.int .i64 v, .int .i64 e, .slice ka l.length kc, .int .i64 t1, .slice i1 d1.length c1, .int .i64 t2, .slice i2 d2.length c2, .int .i64 t3, .slice i3 d3.length c3], .agg #[.int .u8 u.kind, .int .i64 u.n, .string u.t, .slice uan u.names.length ucn, .slice uai u.items.length uci]] w fun e w' => e = .returned (.bool true) ∧ Below w.heap.size w w' := by
 have HTB := Lib.hid (show ∀ w' : World, Below w.heap.size w w' → Tabs w' ∧ TabW w' ∧ Pow10 w' ∧ TopsW w' from fun w' h => ⟨hT.below h, hTW.below h, hP.below h, hTP.below h⟩)
 have HB := Lib.hid (Below.refl w.heap.size w)
 have HZ0 := Lib.hid (show 0 < w.heap.size from Nat.lt_of_le_of_lt (Nat.zero_le _) hTP.lt)
 have HI := Lib.hid hI
 have HU := Lib.hid hU
 have HBD := Lib.hid (And.intro hbv (And.intro hbe (And.intro hb1 (And.intro hb2 hb3))))
 clear hT hTW hP hTP hI hU hbv hbe hb1 hb2 hb3
 go_enter Tryz.func8, Tryz.ntmps8
 obtain ⟨bR, hbR⟩ : ∃ bR, bR = w.heap.size := ⟨_, rfl⟩
 obtain ⟨w1, hw1⟩ : ∃ w1, w1 = w.alloc (.cells #[.int .i64 v, .int .i64 e, .slice ka l.length kc, .int .i64 t1, .slice i1 d1.length c1, .int .i64 t2, .slice i2 d2.length c2, .int .i64 t3, .slice i3 d3.length c3] 32) := ⟨_, rfl⟩
 have hbx : Below w.heap.size w w1 := by rw [hw1]; exact (Below.refl _ _).alloc (Nat.le_refl _) _
 have HXR := Lib.hid (heap_new_at hw1 hbR)
 replace HB := Lib.hid (HB.out.trans (hbx.mono HB.out.size))
 replace HI := Lib.hid (HI.out.below hbx (Nat.le_refl _) (Nat.le_refl _) hbx.size)
 replace HU := Lib.hid (HU.out.below hbx (Nat.le_refl _) (Nat.le_refl _) hbx.size)
 have Hw1 := Lib.hid (And.intro hw1 hbR)
 clear hbx hw1 hbR
 obtain ⟨bV, hbV⟩ : ∃ bV, bV = w1.heap.size := ⟨_, rfl⟩
 obtain ⟨w2, hw2⟩ : ∃ w2, w2 = w1.alloc (.cells #[.int .u8 u.kind, .int .i64 u.n, .string u.t, .slice uan u.names.length ucn, .slice uai u.items.length uci] 25) := ⟨_, rfl⟩
 have hbx : Below w1.heap.size w1 w2 := by rw [hw2]; exact (Below.refl _ _).alloc (Nat.le_refl _) _
 have HXV := Lib.hid (heap_new_at hw2 hbV)
 replace HB := Lib.hid (HB.out.trans (hbx.mono HB.out.size))
 replace HXR := Lib.hid ((hbx.block _ (heap_lt HXR.out)).trans HXR.out)
 replace HI := Lib.hid (HI.out.below hbx (Nat.le_refl _) (Nat.le_refl _) hbx.size)
 replace HU := Lib.hid (HU.out.below hbx (Nat.le_refl _) (Nat.le_refl _) hbx.size)
 have Hw2 := Lib.hid (And.intro hw2 hbV)
 clear hbx hw2 hbV
 go_upto_region 1 with fail
 rw [← Hw1.out.1, ← Hw2.out.1, ← Hw1.out.2, show bR + 1 = bV by rw [Hw2.out.2, Hw1.out.1, Hw1.out.2]; simp]
 clear Hw1 Hw2
 obtain ⟨xR0, xR1, xR2, xR3, xR4, xR5, xR6, xR7, xR8⟩ := cells9 HXR.out
 go_wp2_with fail
 refine (lawLong22 v e l t1 t2 t3 d1 d2 d3 ka i1 i2 i3 kc c1 c2 c3 w2 HI.out hl l1 l2 l3).mono ?_
 clear xR0 xR1 xR2 xR3 xR4 xR5 xR6 xR7 xR8
 rintro ee w3 ⟨b, rfl, hn, hb⟩
 replace HB := Lib.hid (HB.out.trans (hb.mono HB.out.size))
 replace HXR := Lib.hid ((hb.block _ (heap_lt HXR.out)).trans HXR.out)
 replace HXV := Lib.hid ((hb.block _ (heap_lt HXV.out)).trans HXV.out)
 replace HI := Lib.hid (HI.out.below hb (Nat.le_refl _) (Nat.le_refl _) hb.size)
 replace HU := Lib.hid (HU.out.below hb (Nat.le_refl _) (Nat.le_refl _) hb.size)
 have HN := Lib.hid hn
 clear hn hb
 cases b
 case true =>
  go_wp2_with fail
  refine (lawAwake22 w3 (HTB.out w3 HB.out).1 (HTB.out w3 HB.out).2.1 (HTB.out w3 HB.out).2.2.1 (HTB.out w3 HB.out).2.2.2).mono ?_
  rintro ee wz ⟨rfl, hz⟩
  have HBZ := Lib.hid (HB.out.trans (hz.mono HB.out.size))
  clear hz
  go_wp2
  go_ret
  exact ⟨rfl, HBZ.out⟩
 case false =>
  have HF := Lib.hid (rootFits_long (HN.out rfl) HBD.out.1 HBD.out.2.1 HBD.out.2.2.1 HBD.out.2.2.2.1 HBD.out.2.2.2.2)
  clear HN
  obtain ⟨xV0, xV1, xV2, xV3, xV4⟩ := boxc5 HXV.out
  go_wp2_with fail
  clear xV0 xV1 xV2 xV3 xV4
  obtain ⟨bL, hbL⟩ : ∃ bL, bL = w3.heap.size := ⟨_, rfl⟩
  obtain ⟨w4, hw4⟩ : ∃ w4, w4 = w3.alloc (.cells #[.int .u8 u.kind, .int .i64 u.n, .string u.t, .slice uan u.names.length ucn, .slice uai u.items.length uci] 25) := ⟨_, rfl⟩
  have hbx : Below w3.heap.size w3 w4 := by rw [hw4]; exact (Below.refl _ _).alloc (Nat.le_refl _) _
  have HXL := Lib.hid (heap_new_at hw4 hbL)
  replace HB := Lib.hid (HB.out.trans (hbx.mono HB.out.size))
  replace HXR := Lib.hid ((hbx.block _ (heap_lt HXR.out)).trans HXR.out)
  replace HXV := Lib.hid ((hbx.block _ (heap_lt HXV.out)).trans HXV.out)
  replace HI := Lib.hid (HI.out.below hbx (Nat.le_refl _) (Nat.le_refl _) hbx.size)
  replace HU := Lib.hid (HU.out.below hbx (Nat.le_refl _) (Nat.le_refl _) hbx.size)
  have Hw4 := Lib.hid (And.intro hw4 hbL)
  clear hbx hw4 hbL
  rw [← Hw4.out.1, ← Hw4.out.2]
  clear Hw4
  refine (lawLong [u] (some ⟨bL, 0, none⟩) 1 w4 (vals_one HXL.out (heap_lt HXL.out) HU.out)).mono ?_
  rintro r wq ⟨b, rfl, hn, hq⟩
  subst hq
  have HN := Lib.hid hn
  clear hn HXL
  cases b
  case true =>
   go_wp2_with fail
   refine (lawAwake22 w4 (HTB.out w4 HB.out).1 (HTB.out w4 HB.out).2.1 (HTB.out w4 HB.out).2.2.1 (HTB.out w4 HB.out).2.2.2).mono ?_
   rintro ee wz ⟨rfl, hz⟩
   have HBZ := Lib.hid (HB.out.trans (hz.mono HB.out.size))
   clear hz
   go_wp2
   go_ret
   exact ⟨rfl, HBZ.out⟩
  case false =>
   have HWU := Lib.hid (show u.wt ≤ 4294967296 by have := HN.out rfl; simp [JV.wts] at this; omega)
   clear HN
   go_wp2_with fail
   refine (lawAwake22 w4 (HTB.out w4 HB.out).1 (HTB.out w4 HB.out).2.1 (HTB.out w4 HB.out).2.2.1 (HTB.out w4 HB.out).2.2.2).mono ?_
   rintro ee w5 ⟨rfl, hb⟩
   replace HB := Lib.hid (HB.out.trans (hb.mono HB.out.size))
   replace HXR := Lib.hid ((hb.block _ (heap_lt HXR.out)).trans HXR.out)
   replace HXV := Lib.hid ((hb.block _ (heap_lt HXV.out)).trans HXV.out)
   replace HI := Lib.hid (HI.out.below hb (Nat.le_refl _) (Nat.le_refl _) hb.size)
   replace HU := Lib.hid (HU.out.below hb (Nat.le_refl _) (Nat.le_refl _) hb.size)
   clear hb
   obtain ⟨mb, hmb⟩ : ∃ mb, mb = mayRoot ⟨v, e, l, ⟨⟨t1, d1⟩, ⟨t2, d2⟩, ⟨t3, d3⟩⟩⟩ := ⟨_, rfl⟩
   have HMB := Lib.hid hmb
   clear hmb
   cases mb
   case false =>
    have HR0 := Lib.hid (rootR_not HMB.out.symm)
    obtain ⟨xR0, xR1, xR2, xR3, xR4, xR5, xR6, xR7, xR8⟩ := cells9 HXR.out
    go_wp2_with fail
    refine (rootValue v e l t1 t2 t3 d1 d2 d3 ka i1 i2 i3 kc c1 c2 c3 w5 HI.out HF.out (HTB.out w5 HB.out).1 (HTB.out w5 HB.out).2.1 (HTB.out w5 HB.out).2.2.1 (HTB.out w5 HB.out).2.2.2).mono ?_
    clear xR0 xR1 xR2 xR3 xR4 xR5 xR6 xR7 xR8
    rintro ee w6 ⟨an, cn, ai, ci, h4, hr, hb⟩
    rw [HR0.out] at h4
    dsimp only [zeroJ, JV.kind, JV.n, JV.t, JV.names, JV.items, List.length_nil] at h4
    clear hr HR0
    subst h4
    replace HB := Lib.hid (HB.out.trans (hb.mono HB.out.size))
    replace HXR := Lib.hid ((hb.block _ (heap_lt HXR.out)).trans HXR.out)
    replace HXV := Lib.hid ((hb.block _ (heap_lt HXV.out)).trans HXV.out)
    replace HI := Lib.hid (HI.out.below hb (Nat.le_refl _) (Nat.le_refl _) hb.size)
    replace HU := Lib.hid (HU.out.below hb (Nat.le_refl _) (Nat.le_refl _) hb.size)
    clear hb
    obtain ⟨bW, hbW⟩ : ∃ bW, bW = w6.heap.size := ⟨_, rfl⟩
    obtain ⟨w7, hw7⟩ : ∃ w7, w7 = w6.alloc (.cells #[.int .u8 0, .int .i64 0, .string { data := #[] }, .slice an 0 cn, .slice ai 0 ci] 25) := ⟨_, rfl⟩
    have hbx : Below w6.heap.size w6 w7 := by rw [hw7]; exact (Below.refl _ _).alloc (Nat.le_refl _) _
    have HXW := Lib.hid (heap_new_at hw7 hbW)
    replace HB := Lib.hid (HB.out.trans (hbx.mono HB.out.size))
    replace HXR := Lib.hid ((hbx.block _ (heap_lt HXR.out)).trans HXR.out)
    replace HXV := Lib.hid ((hbx.block _ (heap_lt HXV.out)).trans HXV.out)
    replace HI := Lib.hid (HI.out.below hbx (Nat.le_refl _) (Nat.le_refl _) hbx.size)
    replace HU := Lib.hid (HU.out.below hbx (Nat.le_refl _) (Nat.le_refl _) hbx.size)
    have Hw7 := Lib.hid (And.intro hw7 hbW)
    clear hbx hw7 hbW
    go_upto_region 4 with fail
    rw [← Hw7.out.1, ← Hw7.out.2]
    clear Hw7
    have HMC := Lib.hid (rootMay v e l t1 t2 t3 d1 d2 d3 ka i1 i2 i3 kc c1 c2 c3 w7 HI.out HF.out (HTB.out w7 HB.out).1 (HTB.out w7 HB.out).2.1 (HTB.out w7 HB.out).2.2.1)
    rw [← HMB.out] at HMC
    obtain ⟨xR0, xR1, xR2, xR3, xR4, xR5, xR6, xR7, xR8⟩ := cells9 HXR.out
    go_wp2_with fail
    refine (HMC.out).mono ?_
    clear xR0 xR1 xR2 xR3 xR4 xR5 xR6 xR7 xR8
    rintro ee w8 ⟨rfl, hb⟩
    replace HB := Lib.hid (HB.out.trans (hb.mono HB.out.size))
    replace HXR := Lib.hid ((hb.block _ (heap_lt HXR.out)).trans HXR.out)
    replace HXV := Lib.hid ((hb.block _ (heap_lt HXV.out)).trans HXV.out)
    replace HI := Lib.hid (HI.out.below hb (Nat.le_refl _) (Nat.le_refl _) hb.size)
    replace HU := Lib.hid (HU.out.below hb (Nat.le_refl _) (Nat.le_refl _) hb.size)
    clear hb HMC HXW
    obtain ⟨xV0, xV1, xV2, xV3, xV4⟩ := boxc5 HXV.out
    go_wp2_with fail
    refine (rootOfIn u _ w8 HWU.out HU.out (HTB.out w8 HB.out).1 (HTB.out w8 HB.out).2.1 (HTB.out w8 HB.out).2.2.2).mono ?_
    clear xV0 xV1 xV2 xV3 xV4
    rintro ee wa ⟨⟨v2, e2, l2, ⟨⟨u1, f1⟩, ⟨u2, f2⟩, ⟨u3, f3⟩⟩⟩, er, ⟨kb, kd, h1, g1, h2, g2, h3, g3, h4, hi, hb⟩, hz0, hz1⟩
    dsimp only at h4
    subst h4
    replace HB := Lib.hid (HB.out.trans (hb.mono HB.out.size))
    replace HXR := Lib.hid ((hb.block _ (heap_lt HXR.out)).trans HXR.out)
    replace HXV := Lib.hid ((hb.block _ (heap_lt HXV.out)).trans HXV.out)
    replace HI := Lib.hid (HI.out.below hb (Nat.le_refl _) (Nat.le_refl _) hb.size)
    replace HU := Lib.hid (HU.out.below hb (Nat.le_refl _) (Nat.le_refl _) hb.size)
    have HJ := Lib.hid (hi.carry (Nat.zero_le _) (Nat.le_refl _) (fun _ _ _ => rfl))
    have HE0 := Lib.hid hz0
    have HE1 := Lib.hid hz1
    clear hi hb hz0 hz1
    obtain ⟨rx, hrx⟩ : ∃ rx : RootV, rx = ⟨v2, e2, l2, ⟨⟨u1, f1⟩, ⟨u2, f2⟩, ⟨u3, f3⟩⟩⟩ := ⟨_, rfl⟩
    dsimp only at HJ
    obtain ⟨bX, hbX⟩ : ∃ bX, bX = wa.heap.size := ⟨_, rfl⟩
    obtain ⟨wb, hwb⟩ : ∃ wb, wb = wa.alloc (.cells #[.int .i64 v2, .int .i64 e2, .slice kb l2.length kd, .int .i64 u1, .slice h1 f1.length g1, .int .i64 u2, .slice h2 f2.length g2, .int .i64 u3, .slice h3 f3.length g3] 32) := ⟨_, rfl⟩
    have hbx : Below wa.heap.size wa wb := by rw [hwb]; exact (Below.refl _ _).alloc (Nat.le_refl _) _
    have HXX := Lib.hid (heap_new_at hwb hbX)
    replace HB := Lib.hid (HB.out.trans (hbx.mono HB.out.size))
    replace HXR := Lib.hid ((hbx.block _ (heap_lt HXR.out)).trans HXR.out)
    replace HXV := Lib.hid ((hbx.block _ (heap_lt HXV.out)).trans HXV.out)
    replace HI := Lib.hid (HI.out.below hbx (Nat.le_refl _) (Nat.le_refl _) hbx.size)
    replace HU := Lib.hid (HU.out.below hbx (Nat.le_refl _) (Nat.le_refl _) hbx.size)
    replace HJ := Lib.hid (HJ.out.below hbx (Nat.le_refl _) (Nat.le_refl _) hbx.size)
    have Hwb := Lib.hid (And.intro hwb hbX)
    clear hbx hwb hbX
    go_upto_region 11 with fail
    rw [← Hwb.out.1, ← Hwb.out.2]
    clear Hwb
    by_cases hr0 : er = 0
    case pos =>
     subst hr0
     obtain ⟨hu, hmx⟩ := HE0.out rfl
     have HMX := Lib.hid hmx
     have HUE := Lib.hid hu
     clear hu hmx HE0 HE1 hrx
     obtain ⟨xX0, xX1, xX2, xX3, xX4, xX5, xX6, xX7, xX8⟩ := cells9 HXX.out
     go_wp2_with fail
     refine (rootValue v2 e2 l2 u1 u2 u3 f1 f2 f3 kb h1 h2 h3 kd g1 g2 g3 wb HJ.out (rootFits_may HMX.out) (HTB.out wb HB.out).1 (HTB.out wb HB.out).2.1 (HTB.out wb HB.out).2.2.1 (HTB.out wb HB.out).2.2.2).mono ?_
     clear xX0 xX1 xX2 xX3 xX4 xX5 xX6 xX7 xX8
     rintro ee wc ⟨an2, cn2, ai2, ci2, h4, hr, hb⟩
     rw [rootR_may HMX.out] at h4 hr
     dsimp only at h4 hr
     rw [← HUE.out] at h4 hr
     subst h4
     replace HB := Lib.hid (HB.out.trans (hb.mono HB.out.size))
     replace HXR := Lib.hid ((hb.block _ (heap_lt HXR.out)).trans HXR.out)
     replace HXV := Lib.hid ((hb.block _ (heap_lt HXV.out)).trans HXV.out)
     replace HXX := Lib.hid ((hb.block _ (heap_lt HXX.out)).trans HXX.out)
     replace HI := Lib.hid (HI.out.below hb (Nat.le_refl _) (Nat.le_refl _) hb.size)
     replace HU := Lib.hid (HU.out.below hb (Nat.le_refl _) (Nat.le_refl _) hb.size)
     replace HJ := Lib.hid (HJ.out.below hb (Nat.le_refl _) (Nat.le_refl _) hb.size)
     have HUU := Lib.hid (hr.carry (Nat.zero_le _) (Nat.le_refl _) (fun _ _ _ => rfl))
     clear hr hb
     obtain ⟨bU, hbU⟩ : ∃ bU, bU = wc.heap.size := ⟨_, rfl⟩
     obtain ⟨wd, hwd⟩ : ∃ wd, wd = wc.alloc (.cells #[.int .u8 u.kind, .int .i64 u.n, .string u.t, .slice an2 u.names.length cn2, .slice ai2 u.items.length ci2] 25) := ⟨_, rfl⟩
     have hbx : Below wc.heap.size wc wd := by rw [hwd]; exact (Below.refl _ _).alloc (Nat.le_refl _) _
     have HXU := Lib.hid (heap_new_at hwd hbU)
     replace HB := Lib.hid (HB.out.trans (hbx.mono HB.out.size))
     replace HXR := Lib.hid ((hbx.block _ (heap_lt HXR.out)).trans HXR.out)
     replace HXV := Lib.hid ((hbx.block _ (heap_lt HXV.out)).trans HXV.out)
     replace HXX := Lib.hid ((hbx.block _ (heap_lt HXX.out)).trans HXX.out)
     replace HI := Lib.hid (HI.out.below hbx (Nat.le_refl _) (Nat.le_refl _) hbx.size)
     replace HU := Lib.hid (HU.out.below hbx (Nat.le_refl _) (Nat.le_refl _) hbx.size)
     replace HJ := Lib.hid (HJ.out.below hbx (Nat.le_refl _) (Nat.le_refl _) hbx.size)
     replace HUU := Lib.hid (HUU.out.below hbx (Nat.le_refl _) (Nat.le_refl _) hbx.size)
     have Hwd := Lib.hid (And.intro hwd hbU)
     clear hbx hwd hbU
     go_upto_region 14 with fail
     rw [← Hwd.out.1, ← Hwd.out.2]
     clear Hwd
     have HMC := Lib.hid (rootMay v2 e2 l2 u1 u2 u3 f1 f2 f3 kb h1 h2 h3 kd g1 g2 g3 wd HJ.out (rootFits_may HMX.out) (HTB.out wd HB.out).1 (HTB.out wd HB.out).2.1 (HTB.out wd HB.out).2.2.1)
     rw [HMX.out] at HMC
     obtain ⟨xX0, xX1, xX2, xX3, xX4, xX5, xX6, xX7, xX8⟩ := cells9 HXX.out
     go_wp2_with fail
     refine (HMC.out).mono ?_
     clear xX0 xX1 xX2 xX3 xX4 xX5 xX6 xX7 xX8
     rintro ee we ⟨rfl, hb⟩
     replace HB := Lib.hid (HB.out.trans (hb.mono HB.out.size))
     replace HXR := Lib.hid ((hb.block _ (heap_lt HXR.out)).trans HXR.out)
     replace HXV := Lib.hid ((hb.block _ (heap_lt HXV.out)).trans HXV.out)
     replace HXX := Lib.hid ((hb.block _ (heap_lt HXX.out)).trans HXX.out)
     replace HXU := Lib.hid ((hb.block _ (heap_lt HXU.out)).trans HXU.out)
     replace HI := Lib.hid (HI.out.below hb (Nat.le_refl _) (Nat.le_refl _) hb.size)
     replace HU := Lib.hid (HU.out.below hb (Nat.le_refl _) (Nat.le_refl _) hb.size)
     replace HJ := Lib.hid (HJ.out.below hb (Nat.le_refl _) (Nat.le_refl _) hb.size)
     replace HUU := Lib.hid (HUU.out.below hb (Nat.le_refl _) (Nat.le_refl _) hb.size)
     clear hb HMC
     have HSC := Lib.hid (refSame 4294967296 u u _ _ 0 we.heap.size we HWU.out HWU.out (Nat.le_refl _) (Nat.le_refl _) HUU.out HU.out)
     rw [(JV.sameB_iff u u).2 rfl] at HSC
     obtain ⟨xU0, xU1, xU2, xU3, xU4⟩ := boxc5 HXU.out
     obtain ⟨xV0, xV1, xV2, xV3, xV4⟩ := boxc5 HXV.out
     go_wp2_with fail
     refine (HSC.out).mono ?_
     clear xU0 xU1 xU2 xU3 xU4
     clear xV0 xV1 xV2 xV3 xV4
     rintro ee wf ⟨rfl, hb⟩
     replace HB := Lib.hid (HB.out.trans (hb.mono HB.out.size))
     replace HXR := Lib.hid ((hb.block _ (heap_lt HXR.out)).trans HXR.out)
     replace HXV := Lib.hid ((hb.block _ (heap_lt HXV.out)).trans HXV.out)
     replace HXX := Lib.hid ((hb.block _ (heap_lt HXX.out)).trans HXX.out)
     replace HXU := Lib.hid ((hb.block _ (heap_lt HXU.out)).trans HXU.out)
     replace HI := Lib.hid (HI.out.below hb (Nat.le_refl _) (Nat.le_refl _) hb.size)
     replace HU := Lib.hid (HU.out.below hb (Nat.le_refl _) (Nat.le_refl _) hb.size)
     replace HJ := Lib.hid (HJ.out.below hb (Nat.le_refl _) (Nat.le_refl _) hb.size)
     replace HUU := Lib.hid (HUU.out.below hb (Nat.le_refl _) (Nat.le_refl _) hb.size)
     clear hb HSC
     have HBZ := Lib.hid (HB.out)
     go_wp2
     go_ret
     exact ⟨rfl, HBZ.out⟩
    case neg =>
     have hd : (er != 0) = true := bne_iff_ne.2 hr0
     have hzz := HE1.out hr0
     clear HE0 HE1 hrx
     obtain ⟨rfl, rfl, rfl, ⟨⟨rfl, rfl⟩, ⟨rfl, rfl⟩, ⟨rfl, rfl⟩⟩⟩ : v2 = 0 ∧ e2 = 0 ∧ l2 = [] ∧ ((u1 = 0 ∧ f1 = []) ∧ (u2 = 0 ∧ f2 = []) ∧ (u3 = 0 ∧ f3 = [])) := by simpa [rootZ, auth3Z, authZ] using hzz
     clear hzz
     dsimp only [List.length_nil] at HXX ⊢
     obtain ⟨xX0, xX1, xX2, xX3, xX4, xX5, xX6, xX7, xX8⟩ := cells9 HXX.out
     go_wp2_with fail
     refine (ref22Same 0 0 [] 0 0 0 [] [] [] kb h1 h2 h3 kd g1 g2 g3 0 0 [] 0 0 0 [] [] [] none none none none 0 0 0 0 wb HJ.out (rootIn_zero _ _ _) rootFits_zero rootFits_zero).mono ?_
     clear xX0 xX1 xX2 xX3 xX4 xX5 xX6 xX7 xX8
     rintro ee wc ⟨h4, hb⟩
     rw [sameRoot_self] at h4
     subst h4
     replace HB := Lib.hid (HB.out.trans (hb.mono HB.out.size))
     replace HXR := Lib.hid ((hb.block _ (heap_lt HXR.out)).trans HXR.out)
     replace HXV := Lib.hid ((hb.block _ (heap_lt HXV.out)).trans HXV.out)
     replace HXX := Lib.hid ((hb.block _ (heap_lt HXX.out)).trans HXX.out)
     replace HI := Lib.hid (HI.out.below hb (Nat.le_refl _) (Nat.le_refl _) hb.size)
     replace HU := Lib.hid (HU.out.below hb (Nat.le_refl _) (Nat.le_refl _) hb.size)
     replace HJ := Lib.hid (HJ.out.below hb (Nat.le_refl _) (Nat.le_refl _) hb.size)
     clear hb
     have HBZ := Lib.hid (HB.out)
     go_wp2
     go_ret
     exact ⟨rfl, HBZ.out⟩
   case true =>
    have HR0 := Lib.hid (rootR_may HMB.out.symm)
    obtain ⟨xR0, xR1, xR2, xR3, xR4, xR5, xR6, xR7, xR8⟩ := cells9 HXR.out
    go_wp2_with fail
    refine (rootValue v e l t1 t2 t3 d1 d2 d3 ka i1 i2 i3 kc c1 c2 c3 w5 HI.out HF.out (HTB.out w5 HB.out).1 (HTB.out w5 HB.out).2.1 (HTB.out w5 HB.out).2.2.1 (HTB.out w5 HB.out).2.2.2).mono ?_
    clear xR0 xR1 xR2 xR3 xR4 xR5 xR6 xR7 xR8
    rintro ee w6 ⟨an, cn, ai, ci, h4, hr, hb⟩
    rw [HR0.out] at h4 hr
    dsimp only at h4 hr
    obtain ⟨J, hJ⟩ : ∃ J, J = rootJ ⟨v, e, l, ⟨⟨t1, d1⟩, ⟨t2, d2⟩, ⟨t3, d3⟩⟩⟩ := ⟨_, rfl⟩
    rw [← hJ] at h4 hr
    have HJE := Lib.hid hJ
    clear hJ HR0
    subst h4
    have HLO := Lib.hid (show 0 < w5.heap.size from Nat.lt_of_lt_of_le HZ0.out HB.out.size)
    replace HB := Lib.hid (HB.out.trans (hb.mono HB.out.size))
    replace HXR := Lib.hid ((hb.block _ (heap_lt HXR.out)).trans HXR.out)
    replace HXV := Lib.hid ((hb.block _ (heap_lt HXV.out)).trans HXV.out)
    replace HI := Lib.hid (HI.out.below hb (Nat.le_refl _) (Nat.le_refl _) hb.size)
    replace HU := Lib.hid (HU.out.below hb (Nat.le_refl _) (Nat.le_refl _) hb.size)
    have HV := Lib.hid hr
    clear hr hb
    obtain ⟨bW, hbW⟩ : ∃ bW, bW = w6.heap.size := ⟨_, rfl⟩
    obtain ⟨w7, hw7⟩ : ∃ w7, w7 = w6.alloc (.cells #[.int .u8 J.kind, .int .i64 J.n, .string J.t, .slice an J.names.length cn, .slice ai J.items.length ci] 25) := ⟨_, rfl⟩
    have hbx : Below w6.heap.size w6 w7 := by rw [hw7]; exact (Below.refl _ _).alloc (Nat.le_refl _) _
    have HXW := Lib.hid (heap_new_at hw7 hbW)
    replace HB := Lib.hid (HB.out.trans (hbx.mono HB.out.size))
    replace HXR := Lib.hid ((hbx.block _ (heap_lt HXR.out)).trans HXR.out)
    replace HXV := Lib.hid ((hbx.block _ (heap_lt HXV.out)).trans HXV.out)
    replace HI := Lib.hid (HI.out.below hbx (Nat.le_refl _) (Nat.le_refl _) hbx.size)
    replace HU := Lib.hid (HU.out.below hbx (Nat.le_refl _) (Nat.le_refl _) hbx.size)
    replace HV := Lib.hid (HV.out.below hbx (Nat.le_refl _) (Nat.le_refl _) hbx.size)
    have Hw7 := Lib.hid (And.intro hw7 hbW)
    clear hbx hw7 hbW
    go_upto_region 4 with fail
    rw [← Hw7.out.1, ← Hw7.out.2]
    clear Hw7
    have HMC := Lib.hid (rootMay v e l t1 t2 t3 d1 d2 d3 ka i1 i2 i3 kc c1 c2 c3 w7 HI.out HF.out (HTB.out w7 HB.out).1 (HTB.out w7 HB.out).2.1 (HTB.out w7 HB.out).2.2.1)
    rw [← HMB.out] at HMC
    obtain ⟨xR0, xR1, xR2, xR3, xR4, xR5, xR6, xR7, xR8⟩ := cells9 HXR.out
    go_wp2_with fail
    refine (HMC.out).mono ?_
    clear xR0 xR1 xR2 xR3 xR4 xR5 xR6 xR7 xR8
    rintro ee w8 ⟨rfl, hb⟩
    replace HB := Lib.hid (HB.out.trans (hb.mono HB.out.size))
    replace HXR := Lib.hid ((hb.block _ (heap_lt HXR.out)).trans HXR.out)
    replace HXV := Lib.hid ((hb.block _ (heap_lt HXV.out)).trans HXV.out)
    replace HXW := Lib.hid ((hb.block _ (heap_lt HXW.out)).trans HXW.out)
    replace HI := Lib.hid (HI.out.below hb (Nat.le_refl _) (Nat.le_refl _) hb.size)
    replace HU := Lib.hid (HU.out.below hb (Nat.le_refl _) (Nat.le_refl _) hb.size)
    replace HV := Lib.hid (HV.out.below hb (Nat.le_refl _) (Nat.le_refl _) hb.size)
    clear hb HMC
    have HOF := Lib.hid (rootOfOwn J _ w8 w5.heap.size HLO.out (by rw [HJE.out]; exact Nat.le_trans (rootJ_wt HMB.out.symm) (by decide)) HV.out (HTB.out w8 HB.out).1 (HTB.out w8 HB.out).2.1 (HTB.out w8 HB.out).2.2.2)
    rw [HJE.out, rootJ_back HMB.out.symm, ← HJE.out] at HOF
    obtain ⟨xW0, xW1, xW2, xW3, xW4⟩ := boxc5 HXW.out
    go_wp2_with fail
    refine (HOF.out).mono ?_
    clear xW0 xW1 xW2 xW3 xW4
    rintro ee w9 ⟨kb, kd, h1, g1, h2, g2, h3, g3, h4, hi, hb⟩
    dsimp only at h4 hi
    subst h4
    clear HOF
    replace HB := Lib.hid (HB.out.trans (hb.mono HB.out.size))
    replace HXR := Lib.hid ((hb.block _ (heap_lt HXR.out)).trans HXR.out)
    replace HXV := Lib.hid ((hb.block _ (heap_lt HXV.out)).trans HXV.out)
    replace HXW := Lib.hid ((hb.block _ (heap_lt HXW.out)).trans HXW.out)
    replace HI := Lib.hid (HI.out.below hb (Nat.le_refl _) (Nat.le_refl _) hb.size)
    replace HU := Lib.hid (HU.out.below hb (Nat.le_refl _) (Nat.le_refl _) hb.size)
    replace HV := Lib.hid (HV.out.below hb (Nat.le_refl _) (Nat.le_refl _) hb.size)
    have HY := Lib.hid (hi.carry (Nat.zero_le _) (Nat.le_refl _) (fun _ _ _ => rfl))
    clear hi hb
    obtain ⟨bY, hbY⟩ : ∃ bY, bY = w9.heap.size := ⟨_, rfl⟩
    obtain ⟨w10, hw10⟩ : ∃ w10, w10 = w9.alloc (.cells #[.int .i64 v, .int .i64 e, .slice kb l.length kd, .int .i64 t1, .slice h1 d1.length g1, .int .i64 t2, .slice h2 d2.length g2, .int .i64 t3, .slice h3 d3.length g3] 32) := ⟨_, rfl⟩
    have hbx : Below w9.heap.size w9 w10 := by rw [hw10]; exact (Below.refl _ _).alloc (Nat.le_refl _) _
    have HXY := Lib.hid (heap_new_at hw10 hbY)
    replace HB := Lib.hid (HB.out.trans (hbx.mono HB.out.size))
    replace HXR := Lib.hid ((hbx.block _ (heap_lt HXR.out)).trans HXR.out)
    replace HXV := Lib.hid ((hbx.block _ (heap_lt HXV.out)).trans HXV.out)
    replace HXW := Lib.hid ((hbx.block _ (heap_lt HXW.out)).trans HXW.out)
    replace HI := Lib.hid (HI.out.below hbx (Nat.le_refl _) (Nat.le_refl _) hbx.size)
    replace HU := Lib.hid (HU.out.below hbx (Nat.le_refl _) (Nat.le_refl _) hbx.size)
    replace HV := Lib.hid (HV.out.below hbx (Nat.le_refl _) (Nat.le_refl _) hbx.size)
    replace HY := Lib.hid (HY.out.below hbx (Nat.le_refl _) (Nat.le_refl _) hbx.size)
    have Hw10 := Lib.hid (And.intro hw10 hbY)
    clear hbx hw10 hbY
    go_upto_region 8 with fail
    rw [← Hw10.out.1, ← Hw10.out.2]
    clear Hw10
    have HSC := Lib.hid (rootSame v e l t1 t2 t3 d1 d2 d3 kb h1 h2 h3 kd g1 g2 g3 v e l t1 t2 t3 d1 d2 d3 ka i1 i2 i3 kc c1 c2 c3 w10 HY.out HI.out HF.out HF.out)
    rw [sameRoot_self] at HSC
    obtain ⟨xY0, xY1, xY2, xY3, xY4, xY5, xY6, xY7, xY8⟩ := cells9 HXY.out
    obtain ⟨xR0, xR1, xR2, xR3, xR4, xR5, xR6, xR7, xR8⟩ := cells9 HXR.out
    go_wp2_with fail
    refine (HSC.out).mono ?_
    clear xY0 xY1 xY2 xY3 xY4 xY5 xY6 xY7 xY8
    clear xR0 xR1 xR2 xR3 xR4 xR5 xR6 xR7 xR8
    rintro ee w11 ⟨rfl, hb⟩
    replace HB := Lib.hid (HB.out.trans (hb.mono HB.out.size))
    replace HXR := Lib.hid ((hb.block _ (heap_lt HXR.out)).trans HXR.out)
    replace HXV := Lib.hid ((hb.block _ (heap_lt HXV.out)).trans HXV.out)
    replace HXW := Lib.hid ((hb.block _ (heap_lt HXW.out)).trans HXW.out)
    replace HXY := Lib.hid ((hb.block _ (heap_lt HXY.out)).trans HXY.out)
    replace HI := Lib.hid (HI.out.below hb (Nat.le_refl _) (Nat.le_refl _) hb.size)
    replace HU := Lib.hid (HU.out.below hb (Nat.le_refl _) (Nat.le_refl _) hb.size)
    replace HV := Lib.hid (HV.out.below hb (Nat.le_refl _) (Nat.le_refl _) hb.size)
    replace HY := Lib.hid (HY.out.below hb (Nat.le_refl _) (Nat.le_refl _) hb.size)
    clear hb HSC
    have HSC := Lib.hid (ref22Same v e l t1 t2 t3 d1 d2 d3 kb h1 h2 h3 kd g1 g2 g3 v e l t1 t2 t3 d1 d2 d3 ka i1 i2 i3 kc c1 c2 c3 w11 HY.out HI.out HF.out HF.out)
    rw [sameRoot_self] at HSC
    obtain ⟨xY0, xY1, xY2, xY3, xY4, xY5, xY6, xY7, xY8⟩ := cells9 HXY.out
    obtain ⟨xR0, xR1, xR2, xR3, xR4, xR5, xR6, xR7, xR8⟩ := cells9 HXR.out
    go_wp2_with fail
    refine (HSC.out).mono ?_
    clear xY0 xY1 xY2 xY3 xY4 xY5 xY6 xY7 xY8
    clear xR0 xR1 xR2 xR3 xR4 xR5 xR6 xR7 xR8
    rintro ee w12 ⟨rfl, hb⟩
    replace HB := Lib.hid (HB.out.trans (hb.mono HB.out.size))
    replace HXR := Lib.hid ((hb.block _ (heap_lt HXR.out)).trans HXR.out)
    replace HXV := Lib.hid ((hb.block _ (heap_lt HXV.out)).trans HXV.out)
    replace HXW := Lib.hid ((hb.block _ (heap_lt HXW.out)).trans HXW.out)
    replace HXY := Lib.hid ((hb.block _ (heap_lt HXY.out)).trans HXY.out)
    replace HI := Lib.hid (HI.out.below hb (Nat.le_refl _) (Nat.le_refl _) hb.size)
    replace HU := Lib.hid (HU.out.below hb (Nat.le_refl _) (Nat.le_refl _) hb.size)
    replace HV := Lib.hid (HV.out.below hb (Nat.le_refl _) (Nat.le_refl _) hb.size)
    replace HY := Lib.hid (HY.out.below hb (Nat.le_refl _) (Nat.le_refl _) hb.size)
    clear hb HSC HY HXY HV HXW
    obtain ⟨xV0, xV1, xV2, xV3, xV4⟩ := boxc5 HXV.out
    go_wp2_with fail
    refine (rootOfIn u _ w12 HWU.out HU.out (HTB.out w12 HB.out).1 (HTB.out w12 HB.out).2.1 (HTB.out w12 HB.out).2.2.2).mono ?_
    clear xV0 xV1 xV2 xV3 xV4
    rintro ee wa ⟨⟨v2, e2, l2, ⟨⟨u1, f1⟩, ⟨u2, f2⟩, ⟨u3, f3⟩⟩⟩, er, ⟨kb, kd, h1, g1, h2, g2, h3, g3, h4, hi, hb⟩, hz0, hz1⟩
    dsimp only at h4
    subst h4
    replace HB := Lib.hid (HB.out.trans (hb.mono HB.out.size))
    replace HXR := Lib.hid ((hb.block _ (heap_lt HXR.out)).trans HXR.out)
    replace HXV := Lib.hid ((hb.block _ (heap_lt HXV.out)).trans HXV.out)
    replace HI := Lib.hid (HI.out.below hb (Nat.le_refl _) (Nat.le_refl _) hb.size)
    replace HU := Lib.hid (HU.out.below hb (Nat.le_refl _) (Nat.le_refl _) hb.size)
    have HJ := Lib.hid (hi.carry (Nat.zero_le _) (Nat.le_refl _) (fun _ _ _ => rfl))
    have HE0 := Lib.hid hz0
    have HE1 := Lib.hid hz1
    clear hi hb hz0 hz1
    obtain ⟨rx, hrx⟩ : ∃ rx : RootV, rx = ⟨v2, e2, l2, ⟨⟨u1, f1⟩, ⟨u2, f2⟩, ⟨u3, f3⟩⟩⟩ := ⟨_, rfl⟩
    dsimp only at HJ
    obtain ⟨bX, hbX⟩ : ∃ bX, bX = wa.heap.size := ⟨_, rfl⟩
    obtain ⟨wb, hwb⟩ : ∃ wb, wb = wa.alloc (.cells #[.int .i64 v2, .int .i64 e2, .slice kb l2.length kd, .int .i64 u1, .slice h1 f1.length g1, .int .i64 u2, .slice h2 f2.length g2, .int .i64 u3, .slice h3 f3.length g3] 32) := ⟨_, rfl⟩
    have hbx : Below wa.heap.size wa wb := by rw [hwb]; exact (Below.refl _ _).alloc (Nat.le_refl _) _
    have HXX := Lib.hid (heap_new_at hwb hbX)
    replace HB := Lib.hid (HB.out.trans (hbx.mono HB.out.size))
    replace HXR := Lib.hid ((hbx.block _ (heap_lt HXR.out)).trans HXR.out)
    replace HXV := Lib.hid ((hbx.block _ (heap_lt HXV.out)).trans HXV.out)
    replace HI := Lib.hid (HI.out.below hbx (Nat.le_refl _) (Nat.le_refl _) hbx.size)
    replace HU := Lib.hid (HU.out.below hbx (Nat.le_refl _) (Nat.le_refl _) hbx.size)
    replace HJ := Lib.hid (HJ.out.below hbx (Nat.le_refl _) (Nat.le_refl _) hbx.size)
    have Hwb := Lib.hid (And.intro hwb hbX)
    clear hbx hwb hbX
    go_upto_region 11 with fail
    rw [← Hwb.out.1, ← Hwb.out.2]
    clear Hwb
    by_cases hr0 : er = 0
    case pos =>
     subst hr0
     obtain ⟨hu, hmx⟩ := HE0.out rfl
     have HMX := Lib.hid hmx
     have HUE := Lib.hid hu
     clear hu hmx HE0 HE1 hrx
     obtain ⟨xX0, xX1, xX2, xX3, xX4, xX5, xX6, xX7, xX8⟩ := cells9 HXX.out
     go_wp2_with fail
     refine (rootValue v2 e2 l2 u1 u2 u3 f1 f2 f3 kb h1 h2 h3 kd g1 g2 g3 wb HJ.out (rootFits_may HMX.out) (HTB.out wb HB.out).1 (HTB.out wb HB.out).2.1 (HTB.out wb HB.out).2.2.1 (HTB.out wb HB.out).2.2.2).mono ?_
     clear xX0 xX1 xX2 xX3 xX4 xX5 xX6 xX7 xX8
     rintro ee wc ⟨an2, cn2, ai2, ci2, h4, hr, hb⟩
     rw [rootR_may HMX.out] at h4 hr
     dsimp only at h4 hr
     rw [← HUE.out] at h4 hr
     subst h4
     replace HB := Lib.hid (HB.out.trans (hb.mono HB.out.size))
     replace HXR := Lib.hid ((hb.block _ (heap_lt HXR.out)).trans HXR.out)
     replace HXV := Lib.hid ((hb.block _ (heap_lt HXV.out)).trans HXV.out)
     replace HXX := Lib.hid ((hb.block _ (heap_lt HXX.out)).trans HXX.out)
     replace HI := Lib.hid (HI.out.below hb (Nat.le_refl _) (Nat.le_refl _) hb.size)
     replace HU := Lib.hid (HU.out.below hb (Nat.le_refl _) (Nat.le_refl _) hb.size)
     replace HJ := Lib.hid (HJ.out.below hb (Nat.le_refl _) (Nat.le_refl _) hb.size)
     have HUU := Lib.hid (hr.carry (Nat.zero_le _) (Nat.le_refl _) (fun _ _ _ => rfl))
     clear hr hb
     obtain ⟨bU, hbU⟩ : ∃ bU, bU = wc.heap.size := ⟨_, rfl⟩
     obtain ⟨wd, hwd⟩ : ∃ wd, wd = wc.alloc (.cells #[.int .u8 u.kind, .int .i64 u.n, .string u.t, .slice an2 u.names.length cn2, .slice ai2 u.items.length ci2] 25) := ⟨_, rfl⟩
     have hbx : Below wc.heap.size wc wd := by rw [hwd]; exact (Below.refl _ _).alloc (Nat.le_refl _) _
     have HXU := Lib.hid (heap_new_at hwd hbU)
     replace HB := Lib.hid (HB.out.trans (hbx.mono HB.out.size))
     replace HXR := Lib.hid ((hbx.block _ (heap_lt HXR.out)).trans HXR.out)
     replace HXV := Lib.hid ((hbx.block _ (heap_lt HXV.out)).trans HXV.out)
     replace HXX := Lib.hid ((hbx.block _ (heap_lt HXX.out)).trans HXX.out)
     replace HI := Lib.hid (HI.out.below hbx (Nat.le_refl _) (Nat.le_refl _) hbx.size)
     replace HU := Lib.hid (HU.out.below hbx (Nat.le_refl _) (Nat.le_refl _) hbx.size)
     replace HJ := Lib.hid (HJ.out.below hbx (Nat.le_refl _) (Nat.le_refl _) hbx.size)
     replace HUU := Lib.hid (HUU.out.below hbx (Nat.le_refl _) (Nat.le_refl _) hbx.size)
     have Hwd := Lib.hid (And.intro hwd hbU)
     clear hbx hwd hbU
     go_upto_region 14 with fail
     rw [← Hwd.out.1, ← Hwd.out.2]
     clear Hwd
     have HMC := Lib.hid (rootMay v2 e2 l2 u1 u2 u3 f1 f2 f3 kb h1 h2 h3 kd g1 g2 g3 wd HJ.out (rootFits_may HMX.out) (HTB.out wd HB.out).1 (HTB.out wd HB.out).2.1 (HTB.out wd HB.out).2.2.1)
     rw [HMX.out] at HMC
     obtain ⟨xX0, xX1, xX2, xX3, xX4, xX5, xX6, xX7, xX8⟩ := cells9 HXX.out
     go_wp2_with fail
     refine (HMC.out).mono ?_
     clear xX0 xX1 xX2 xX3 xX4 xX5 xX6 xX7 xX8
     rintro ee we ⟨rfl, hb⟩
     replace HB := Lib.hid (HB.out.trans (hb.mono HB.out.size))
     replace HXR := Lib.hid ((hb.block _ (heap_lt HXR.out)).trans HXR.out)
     replace HXV := Lib.hid ((hb.block _ (heap_lt HXV.out)).trans HXV.out)
     replace HXX := Lib.hid ((hb.block _ (heap_lt HXX.out)).trans HXX.out)
     replace HXU := Lib.hid ((hb.block _ (heap_lt HXU.out)).trans HXU.out)
     replace HI := Lib.hid (HI.out.below hb (Nat.le_refl _) (Nat.le_refl _) hb.size)
     replace HU := Lib.hid (HU.out.below hb (Nat.le_refl _) (Nat.le_refl _) hb.size)
     replace HJ := Lib.hid (HJ.out.below hb (Nat.le_refl _) (Nat.le_refl _) hb.size)
     replace HUU := Lib.hid (HUU.out.below hb (Nat.le_refl _) (Nat.le_refl _) hb.size)
     clear hb HMC
     have HSC := Lib.hid (refSame 4294967296 u u _ _ 0 we.heap.size we HWU.out HWU.out (Nat.le_refl _) (Nat.le_refl _) HUU.out HU.out)
     rw [(JV.sameB_iff u u).2 rfl] at HSC
     obtain ⟨xU0, xU1, xU2, xU3, xU4⟩ := boxc5 HXU.out
     obtain ⟨xV0, xV1, xV2, xV3, xV4⟩ := boxc5 HXV.out
     go_wp2_with fail
     refine (HSC.out).mono ?_
     clear xU0 xU1 xU2 xU3 xU4
     clear xV0 xV1 xV2 xV3 xV4
     rintro ee wf ⟨rfl, hb⟩
     replace HB := Lib.hid (HB.out.trans (hb.mono HB.out.size))
     replace HXR := Lib.hid ((hb.block _ (heap_lt HXR.out)).trans HXR.out)
     replace HXV := Lib.hid ((hb.block _ (heap_lt HXV.out)).trans HXV.out)
     replace HXX := Lib.hid ((hb.block _ (heap_lt HXX.out)).trans HXX.out)
     replace HXU := Lib.hid ((hb.block _ (heap_lt HXU.out)).trans HXU.out)
     replace HI := Lib.hid (HI.out.below hb (Nat.le_refl _) (Nat.le_refl _) hb.size)
     replace HU := Lib.hid (HU.out.below hb (Nat.le_refl _) (Nat.le_refl _) hb.size)
     replace HJ := Lib.hid (HJ.out.below hb (Nat.le_refl _) (Nat.le_refl _) hb.size)
     replace HUU := Lib.hid (HUU.out.below hb (Nat.le_refl _) (Nat.le_refl _) hb.size)
     clear hb HSC
     have HBZ := Lib.hid (HB.out)
     go_wp2
     go_ret
     exact ⟨rfl, HBZ.out⟩
    case neg =>
     have hd : (er != 0) = true := bne_iff_ne.2 hr0
     have hzz := HE1.out hr0
     clear HE0 HE1 hrx
     obtain ⟨rfl, rfl, rfl, ⟨⟨rfl, rfl⟩, ⟨rfl, rfl⟩, ⟨rfl, rfl⟩⟩⟩ : v2 = 0 ∧ e2 = 0 ∧ l2 = [] ∧ ((u1 = 0 ∧ f1 = []) ∧ (u2 = 0 ∧ f2 = []) ∧ (u3 = 0 ∧ f3 = [])) := by simpa [rootZ, auth3Z, authZ] using hzz
     clear hzz
     dsimp only [List.length_nil] at HXX ⊢
     obtain ⟨xX0, xX1, xX2, xX3, xX4, xX5, xX6, xX7, xX8⟩ := cells9 HXX.out
     go_wp2_with fail
     refine (ref22Same 0 0 [] 0 0 0 [] [] [] kb h1 h2 h3 kd g1 g2 g3 0 0 [] 0 0 0 [] [] [] none none none none 0 0 0 0 wb HJ.out (rootIn_zero _ _ _) rootFits_zero rootFits_zero).mono ?_
     clear xX0 xX1 xX2 xX3 xX4 xX5 xX6 xX7 xX8
     rintro ee wc ⟨h4, hb⟩
     rw [sameRoot_self] at h4
     subst h4
     replace HB := Lib.hid (HB.out.trans (hb.mono HB.out.size))
     replace HXR := Lib.hid ((hb.block _ (heap_lt HXR.out)).trans HXR.out)
     replace HXV := Lib.hid ((hb.block _ (heap_lt HXV.out)).trans HXV.out)
     replace HXX := Lib.hid ((hb.block _ (heap_lt HXX.out)).trans HXX.out)
     replace HI := Lib.hid (HI.out.below hb (Nat.le_refl _) (Nat.le_refl _) hb.size)
     replace HU := Lib.hid (HU.out.below hb (Nat.le_refl _) (Nat.le_refl _) hb.size)
     replace HJ := Lib.hid (HJ.out.below hb (Nat.le_refl _) (Nat.le_refl _) hb.size)
     clear hb
     have HBZ := Lib.hid (HB.out)
     go_wp2
     go_ret
     exact ⟨rfl, HBZ.out⟩
end Go.Proofs.YtnlgmcapbbgelaaGreatDoor
