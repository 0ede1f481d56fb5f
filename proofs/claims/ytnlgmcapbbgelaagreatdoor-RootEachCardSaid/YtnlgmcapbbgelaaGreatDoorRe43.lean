/- The law RootEach: the call returns true. Printed by genrooteach.py. -/
import Derived.Test.YtnlgmcapbbgelaaGreatDoorRe42
import Derived.Test.YtnlgmcapbbgelaaGreatDoorRe21
import Derived.Test.YtnlgmcapbbgelaaGreatDoorRe03
import Derived.Test.YtnlgmcapbbgelaaGreatDoorRe36
import Derived.Deep.DeepCutAuto

namespace Go.Proofs.YtnlgmcapbbgelaaGreatDoor
open Go.RowKit Go.Shelf Go.Sort
theorem rootR_ok {r : RootV} (h : mayRoot r = true) : rootR r = (rootJ r, 0) := by unfold rootR; rw [if_pos h]
theorem heap_new_at {w n : World} {b : Nat} {o : Obj} (h : n = w.alloc o) (hb : b = w.heap.size) : n.heap[b]? = some o := by rw [h, hb]; exact heap_alloc_new w _
theorem boxc2 {w : World} {b T : Nat} {a0 a1 : Value} (h : w.heap[b]? = some (.cells #[a0, a1] T (0, 0))) : w.cell? ⟨b, 0, none⟩ = some a0 ∧ w.cell? ⟨b, 1, none⟩ = some a1 := ⟨box_cell h rfl, box_cell h rfl⟩
theorem boxc5 {w : World} {b T : Nat} {a0 a1 a2 a3 a4 : Value} (h : w.heap[b]? = some (.cells #[a0, a1, a2, a3, a4] T (0, 0))) : w.cell? ⟨b, 0, none⟩ = some a0 ∧ w.cell? ⟨b, 1, none⟩ = some a1 ∧ w.cell? ⟨b, 2, none⟩ = some a2 ∧ w.cell? ⟨b, 3, none⟩ = some a3 ∧ w.cell? ⟨b, 4, none⟩ = some a4 := ⟨box_cell h rfl, box_cell h rfl, box_cell h rfl, box_cell h rfl, box_cell h rfl⟩
theorem boxc9 {w : World} {b T : Nat} {a0 a1 a2 a3 a4 a5 a6 a7 a8 : Value} (h : w.heap[b]? = some (.cells #[a0, a1, a2, a3, a4, a5, a6, a7, a8] T (0, 0))) : w.cell? ⟨b, 0, none⟩ = some a0 ∧ w.cell? ⟨b, 1, none⟩ = some a1 ∧ w.cell? ⟨b, 2, none⟩ = some a2 ∧ w.cell? ⟨b, 3, none⟩ = some a3 ∧ w.cell? ⟨b, 4, none⟩ = some a4 ∧ w.cell? ⟨b, 5, none⟩ = some a5 ∧ w.cell? ⟨b, 6, none⟩ = some a6 ∧ w.cell? ⟨b, 7, none⟩ = some a7 ∧ w.cell? ⟨b, 8, none⟩ = some a8 := ⟨box_cell h rfl, box_cell h rfl, box_cell h rfl, box_cell h rfl, box_cell h rfl, box_cell h rfl, box_cell h rfl, box_cell h rfl, box_cell h rfl⟩
theorem row5_of {w : World} {b T : Nat} {a0 a1 a2 a3 a4 : Value} (h : w.heap[b]? = some (.cells #[a0, a1, a2, a3, a4] T (0, 0))) : w.rowIs b T 5 (pick5 a0 a1 a2 a3 a4) := ⟨_, h, rfl, fun i hi => by rcases i with _ | _ | _ | _ | _ | i <;> first | rfl | omega⟩
theorem row9_of {w : World} {b T : Nat} {a0 a1 a2 a3 a4 a5 a6 a7 a8 : Value} (h : w.heap[b]? = some (.cells #[a0, a1, a2, a3, a4, a5, a6, a7, a8] T (0, 0))) : w.rowIs b T 9 (pick9 a0 a1 a2 a3 a4 a5 a6 a7 a8) := ⟨_, h, rfl, fun i hi => by rcases i with _ | _ | _ | _ | _ | _ | _ | _ | _ | i <;> first | rfl | omega⟩
set_option maxHeartbeats 8000000 in
set_option maxRecDepth 100000 in
theorem lawRootEach (v e : Int) (l : List Key2) (t1 t2 t3 : Int) (d1 d2 d3 : List ByteArray) (ka i1 i2 i3 : Option Addr) (kc c1 c2 c3 : Nat) (tt : Int) (al : List ByteArray) (aa : Option Addr) (ac : Nat) (which : Int) (w : World) (hw0 : 0 ≤ which) (_hw1 : which ≤ 255) (hI : RootIn w 0 w.heap.size ⟨v, e, l, ⟨⟨t1, d1⟩, ⟨t2, d2⟩, ⟨t3, d3⟩⟩⟩ ka i1 i2 i3) (hA : StrsAt w 0 w.heap.size aa al) (hl : l.length ≤ 9223372036854775807) (l1 : d1.length ≤ 9223372036854775807) (l2 : d2.length ≤ 9223372036854775807) (l3 : d3.length ≤ 9223372036854775807) (hal : al.length ≤ 9223372036854775807)
   (hbv : -9223372036854775808 ≤ v ∧ v ≤ 9223372036854775807) (hbe : -9223372036854775808 ≤ e ∧ e ≤ 9223372036854775807) (hb1 : -9223372036854775808 ≤ t1 ∧ t1 ≤ 9223372036854775807) (hb2 : -9223372036854775808 ≤ t2 ∧ t2 ≤ 9223372036854775807) (hb3 : -9223372036854775808 ≤ t3 ∧ t3 ≤ 9223372036854775807)
   (hT : Tabs w) (hTW : TabW w) (hP : Pow10 w) (hTP : TopsW w) : Calls Tryz.prog 5 #[.agg #[.int .i64 v, .int .i64 e, .slice ka l.length kc, .int .i64 t1, .slice i1 d1.length c1, .int .i64 t2, .slice i2 d2.length c2, .int .i64 t3, .slice i3 d3.length c3], .agg #[.int .i64 tt, .slice aa al.length ac], .int .u8 which] w fun e w' => e = .returned (.bool true) ∧ Below w.heap.size w w' := by
 have HTB := Lib.hid (show ∀ w' : World, Below w.heap.size w w' → Tabs w' ∧ TabW w' ∧ Pow10 w' ∧ TopsW w' from fun w' h => ⟨hT.below h, hTW.below h, hP.below h, hTP.below h⟩)
 have HB := Lib.hid (Below.refl w.heap.size w)
 have HZ0 := Lib.hid (show 0 < w.heap.size from Nat.lt_of_le_of_lt (Nat.zero_le _) hTP.lt)
 have HI := Lib.hid hI
 have HA := Lib.hid hA
 have HBD := Lib.hid (And.intro hbv (And.intro hbe (And.intro hb1 (And.intro hb2 hb3))))
 clear hT hTW hP hTP hI hA hbv hbe hb1 hb2 hb3
 go_enter Tryz.func5, Tryz.ntmps5
 obtain ⟨bR, hbR⟩ : ∃ bR, bR = w.heap.size := ⟨_, rfl⟩
 obtain ⟨w1, hw1⟩ : ∃ w1, w1 = w.alloc (.cells #[.int .i64 v, .int .i64 e, .slice ka l.length kc, .int .i64 t1, .slice i1 d1.length c1, .int .i64 t2, .slice i2 d2.length c2, .int .i64 t3, .slice i3 d3.length c3] 32) := ⟨_, rfl⟩
 have hbx : Below w.heap.size w w1 := by rw [hw1]; exact (Below.refl _ _).alloc (Nat.le_refl _) _
 have HXR := Lib.hid (heap_new_at hw1 hbR)
 replace HB := Lib.hid (HB.out.trans (hbx.mono HB.out.size))
 replace HI := Lib.hid (HI.out.below hbx (Nat.le_refl _) (Nat.le_refl _) hbx.size)
 replace HA := Lib.hid (HA.out.below hbx (Nat.le_refl _) (Nat.le_refl _) hbx.size)
 have Hw1 := Lib.hid (And.intro hw1 hbR)
 clear hbx hw1 hbR
 obtain ⟨bA, hbA⟩ : ∃ bA, bA = w1.heap.size := ⟨_, rfl⟩
 obtain ⟨w2, hw2⟩ : ∃ w2, w2 = w1.alloc (.cells #[.int .i64 tt, .slice aa al.length ac] 30) := ⟨_, rfl⟩
 have hbx : Below w1.heap.size w1 w2 := by rw [hw2]; exact (Below.refl _ _).alloc (Nat.le_refl _) _
 have HXA := Lib.hid (heap_new_at hw2 hbA)
 replace HB := Lib.hid (HB.out.trans (hbx.mono HB.out.size))
 replace HXR := Lib.hid ((hbx.block _ (heap_lt HXR.out)).trans HXR.out)
 replace HI := Lib.hid (HI.out.below hbx (Nat.le_refl _) (Nat.le_refl _) hbx.size)
 replace HA := Lib.hid (HA.out.below hbx (Nat.le_refl _) (Nat.le_refl _) hbx.size)
 have Hw2 := Lib.hid (And.intro hw2 hbA)
 clear hbx hw2 hbA
 go_upto_region 1 with fail
 rw [← Hw1.out.1, ← Hw2.out.1, ← Hw1.out.2, show bR + 1 = bA by rw [Hw2.out.2, Hw1.out.1, Hw1.out.2]; simp]
 clear Hw1 Hw2
 obtain ⟨xR0, xR1, xR2, xR3, xR4, xR5, xR6, xR7, xR8⟩ := boxc9 HXR.out
 go_wp2_with fail
 refine (lawLong22 v e l t1 t2 t3 d1 d2 d3 ka i1 i2 i3 kc c1 c2 c3 w2 HI.out hl l1 l2 l3).mono ?_
 clear xR0 xR1 xR2 xR3 xR4 xR5 xR6 xR7 xR8
 rintro ee w3 ⟨b, rfl, hn, hb⟩
 replace HB := Lib.hid (HB.out.trans (hb.mono HB.out.size))
 replace HXR := Lib.hid ((hb.block _ (heap_lt HXR.out)).trans HXR.out)
 replace HXA := Lib.hid ((hb.block _ (heap_lt HXA.out)).trans HXA.out)
 replace HI := Lib.hid (HI.out.below hb (Nat.le_refl _) (Nat.le_refl _) hb.size)
 replace HA := Lib.hid (HA.out.below hb (Nat.le_refl _) (Nat.le_refl _) hb.size)
 have HN := Lib.hid hn
 clear hn hb
 cases b
 case true =>
  go_wp2_with fail
  refine (lawAwake22 w3 (HTB.out w3 HB.out).1 (HTB.out w3 HB.out).2.1 (HTB.out w3 HB.out).2.2.1 (HTB.out w3 HB.out).2.2.2).mono ?_
  rintro ee wz ⟨rfl, hz⟩
  have HBZ := Lib.hid (HB.out.trans (hz.mono HB.out.size))
  clear hz
  go_wp2
  go_ret
  exact ⟨rfl, HBZ.out⟩
 case false =>
  have HF := Lib.hid (rootFits_long (HN.out rfl) HBD.out.1 HBD.out.2.1 HBD.out.2.2.1 HBD.out.2.2.2.1 HBD.out.2.2.2.2)
  clear HN
  obtain ⟨xA0, xA1⟩ := boxc2 HXA.out
  go_wp2_with fail
  clear xA0 xA1
  obtain ⟨bL, hbL⟩ : ∃ bL, bL = w3.heap.size := ⟨_, rfl⟩
  obtain ⟨w4, hw4⟩ : ∃ w4, w4 = w3.alloc (.cells #[.int .i64 tt, .slice aa al.length ac] 30) := ⟨_, rfl⟩
  have hbx : Below w3.heap.size w3 w4 := by rw [hw4]; exact (Below.refl _ _).alloc (Nat.le_refl _) _
  have HXL := Lib.hid (heap_new_at hw4 hbL)
  replace HB := Lib.hid (HB.out.trans (hbx.mono HB.out.size))
  replace HXR := Lib.hid ((hbx.block _ (heap_lt HXR.out)).trans HXR.out)
  replace HXA := Lib.hid ((hbx.block _ (heap_lt HXA.out)).trans HXA.out)
  replace HI := Lib.hid (HI.out.below hbx (Nat.le_refl _) (Nat.le_refl _) hbx.size)
  replace HA := Lib.hid (HA.out.below hbx (Nat.le_refl _) (Nat.le_refl _) hbx.size)
  have Hw4 := Lib.hid (And.intro hw4 hbL)
  clear hbx hw4 hbL
  rw [← Hw4.out.1, ← Hw4.out.2]
  clear Hw4
  refine (lawLong15 tt al aa ac bL w4 HXL.out HA.out hal).mono ?_
  rintro r wq ⟨b, rfl, hn, hq⟩
  subst hq
  have HN := Lib.hid hn
  clear hn HXL
  cases b
  case true =>
   go_wp2_with fail
   refine (lawAwake22 w4 (HTB.out w4 HB.out).1 (HTB.out w4 HB.out).2.1 (HTB.out w4 HB.out).2.2.1 (HTB.out w4 HB.out).2.2.2).mono ?_
   rintro ee wz ⟨rfl, hz⟩
   have HBZ := Lib.hid (HB.out.trans (hz.mono HB.out.size))
   clear hz
   go_wp2
   go_ret
   exact ⟨rfl, HBZ.out⟩
  case false =>
   have HS5 := Lib.hid (show ∀ s ∈ al, s.size ≤ 4294967296 from fun s hs => Nat.le_trans ((HN.out rfl).2 s hs) (by decide))
   clear HN
   obtain ⟨mb, hmb⟩ : ∃ mb, mb = mayRoot ⟨v, e, l, ⟨⟨t1, d1⟩, ⟨t2, d2⟩, ⟨t3, d3⟩⟩⟩ := ⟨_, rfl⟩
   have HMC := Lib.hid (rootMay v e l t1 t2 t3 d1 d2 d3 ka i1 i2 i3 kc c1 c2 c3 w4 HI.out HF.out (HTB.out w4 HB.out).1 (HTB.out w4 HB.out).2.1 (HTB.out w4 HB.out).2.2.1)
   rw [← hmb] at HMC
   have HMB := Lib.hid hmb
   clear hmb
   obtain ⟨xR0, xR1, xR2, xR3, xR4, xR5, xR6, xR7, xR8⟩ := boxc9 HXR.out
   go_wp2_with fail
   refine (HMC.out).mono ?_
   clear xR0 xR1 xR2 xR3 xR4 xR5 xR6 xR7 xR8
   rintro ee w5 ⟨rfl, hb⟩
   replace HB := Lib.hid (HB.out.trans (hb.mono HB.out.size))
   replace HXR := Lib.hid ((hb.block _ (heap_lt HXR.out)).trans HXR.out)
   replace HXA := Lib.hid ((hb.block _ (heap_lt HXA.out)).trans HXA.out)
   replace HI := Lib.hid (HI.out.below hb (Nat.le_refl _) (Nat.le_refl _) hb.size)
   replace HA := Lib.hid (HA.out.below hb (Nat.le_refl _) (Nat.le_refl _) hb.size)
   clear hb HMC
   cases mb
   case false =>
    go_wp2_with fail
    refine (lawAwake22 w5 (HTB.out w5 HB.out).1 (HTB.out w5 HB.out).2.1 (HTB.out w5 HB.out).2.2.1 (HTB.out w5 HB.out).2.2.2).mono ?_
    rintro ee wz ⟨rfl, hz⟩
    have HBZ := Lib.hid (HB.out.trans (hz.mono HB.out.size))
    clear hz
    go_wp2
    go_ret
    exact ⟨rfl, HBZ.out⟩
   case true =>
    obtain ⟨ma, hma⟩ : ∃ ma, ma = authOk tt al := ⟨_, rfl⟩
    have HMC := Lib.hid (authMay tt al aa ac w5 HA.out HS5.out)
    rw [← hma] at HMC
    have HMA := Lib.hid hma
    clear hma
    obtain ⟨xA0, xA1⟩ := boxc2 HXA.out
    go_wp2_with fail
    refine (HMC.out).mono ?_
    clear xA0 xA1
    rintro ee w6 ⟨rfl, hb⟩
    replace HB := Lib.hid (HB.out.trans (hb.mono HB.out.size))
    replace HXR := Lib.hid ((hb.block _ (heap_lt HXR.out)).trans HXR.out)
    replace HXA := Lib.hid ((hb.block _ (heap_lt HXA.out)).trans HXA.out)
    replace HI := Lib.hid (HI.out.below hb (Nat.le_refl _) (Nat.le_refl _) hb.size)
    replace HA := Lib.hid (HA.out.below hb (Nat.le_refl _) (Nat.le_refl _) hb.size)
    clear hb HMC
    cases ma
    case false =>
     go_wp2_with fail
     refine (lawAwake22 w6 (HTB.out w6 HB.out).1 (HTB.out w6 HB.out).2.1 (HTB.out w6 HB.out).2.2.1 (HTB.out w6 HB.out).2.2.2).mono ?_
     rintro ee wz ⟨rfl, hz⟩
     have HBZ := Lib.hid (HB.out.trans (hz.mono HB.out.size))
     clear hz
     go_wp2
     go_ret
     exact ⟨rfl, HBZ.out⟩
    case true =>
     have HMA2 := Lib.hid (show mayAuth ⟨tt, al⟩ = true from HMA.out.symm)
     obtain ⟨k, hk3, hkk⟩ : ∃ k : Nat, k < 3 ∧ which % 3 = (k : Int) := ⟨(which % 3).toNat, by omega, by omega⟩
     have HM2 := Lib.hid (root_each (r := ⟨v, e, l, ⟨⟨t1, d1⟩, ⟨t2, d2⟩, ⟨t3, d3⟩⟩⟩) HMB.out.symm (a := ⟨tt, al⟩) HMA2.out k hk3).2
     have HRA := Lib.hid (rootAuth_put ⟨v, e, l, ⟨⟨t1, d1⟩, ⟨t2, d2⟩, ⟨t3, d3⟩⟩⟩ ⟨tt, al⟩ k hk3)
     obtain ⟨P, hP⟩ : ∃ P, P = Auth3.put ⟨⟨t1, d1⟩, ⟨t2, d2⟩, ⟨t3, d3⟩⟩ k ⟨tt, al⟩ := ⟨_, rfl⟩
     dsimp only at HM2 HRA
     rw [← hP] at HM2 HRA
     have HPP := Lib.hid hP
     clear hP
     obtain ⟨⟨p1, f1⟩, ⟨p2, f2⟩, ⟨p3, f3⟩⟩ := P
     have HMP := Lib.hid (show mayRoot ⟨v, e, l, ⟨⟨p1, f1⟩, ⟨p2, f2⟩, ⟨p3, f3⟩⟩⟩ = true from HM2.out.1)
     have HOP := Lib.hid (show rootOfA (rootJ ⟨v, e, l, ⟨⟨p1, f1⟩, ⟨p2, f2⟩, ⟨p3, f3⟩⟩⟩) = (⟨v, e, l, ⟨⟨p1, f1⟩, ⟨p2, f2⟩, ⟨p3, f3⟩⟩⟩, 0) from HM2.out.2)
     have HK3 := Lib.hid hk3
     have HKK := Lib.hid hkk
     clear HM2 hk3 hkk
     go_wp2_with fail
     refine (lawAwake22 w6 (HTB.out w6 HB.out).1 (HTB.out w6 HB.out).2.1 (HTB.out w6 HB.out).2.2.1 (HTB.out w6 HB.out).2.2.2).mono ?_
     rintro ee w7 ⟨rfl, hb⟩
     replace HB := Lib.hid (HB.out.trans (hb.mono HB.out.size))
     replace HXR := Lib.hid ((hb.block _ (heap_lt HXR.out)).trans HXR.out)
     replace HXA := Lib.hid ((hb.block _ (heap_lt HXA.out)).trans HXA.out)
     replace HI := Lib.hid (HI.out.below hb (Nat.le_refl _) (Nat.le_refl _) hb.size)
     replace HA := Lib.hid (HA.out.below hb (Nat.le_refl _) (Nat.le_refl _) hb.size)
     clear hb
     go_upto_region 3 with fail
     go_cut [7] (fun s7 wx => s7 = .string (roleN k) ∧ Below w7.heap.size w7 wx)
     case first =>
      have hu0 : which.tmod 3 = which % 3 := Int.tmod_eq_emod_of_nonneg hw0
      have hkk := HKK.out
      have hk3 := HK3.out
      have HBS := Lib.hid ((Below.refl w7.heap.size w7).alloc (Nat.le_refl _) (.cells #[.string { data := #[114, 111, 111, 116] }, .string { data := #[115, 110, 97, 112, 115, 104, 111, 116] }, .string { data := #[116, 97, 114, 103, 101, 116, 115] }] 9))
      clear HBD HTB HF HI HA HMP HOP HRA HPP
      obtain rfl | rfl | rfl : k = 0 ∨ k = 1 ∨ k = 2 := by omega
      · have hu1 : which % 3 = 0 := hkk
        rw [hu1] at hu0
        go_wp2_with fail
        go_meet
        exact ⟨rfl, HBS.out⟩
      · have hu1 : which % 3 = 1 := hkk
        rw [hu1] at hu0
        go_wp2_with fail
        go_meet
        exact ⟨rfl, HBS.out⟩
      · have hu1 : which % 3 = 2 := hkk
        rw [hu1] at hu0
        go_wp2_with fail
        go_meet
        exact ⟨rfl, HBS.out⟩
     case rest =>
      obtain ⟨hs7, hb⟩ := hcut
      subst hs7
      obtain ⟨w8, hw8⟩ : ∃ w8, w8 = wc := ⟨_, rfl⟩
      rw [← hw8] at hb ⊢
      clear hw8
      replace HB := Lib.hid (HB.out.trans (hb.mono HB.out.size))
      replace HXR := Lib.hid ((hb.block _ (heap_lt HXR.out)).trans HXR.out)
      replace HXA := Lib.hid ((hb.block _ (heap_lt HXA.out)).trans HXA.out)
      replace HI := Lib.hid (HI.out.below hb (Nat.le_refl _) (Nat.le_refl _) hb.size)
      replace HA := Lib.hid (HA.out.below hb (Nat.le_refl _) (Nat.le_refl _) hb.size)
      clear hb
      have HR0 := Lib.hid (rootR_ok HMB.out.symm)
      obtain ⟨xR0, xR1, xR2, xR3, xR4, xR5, xR6, xR7, xR8⟩ := boxc9 HXR.out
      go_wp2_with fail
      refine (rootValue v e l t1 t2 t3 d1 d2 d3 ka i1 i2 i3 kc c1 c2 c3 w8 HI.out HF.out (HTB.out w8 HB.out).1 (HTB.out w8 HB.out).2.1 (HTB.out w8 HB.out).2.2.1 (HTB.out w8 HB.out).2.2.2).mono ?_
      clear xR0 xR1 xR2 xR3 xR4 xR5 xR6 xR7 xR8
      rintro ee w9 ⟨an, cn, ai, ci, h4, hr, hb⟩
      rw [HR0.out] at h4 hr
      obtain rfl : ee = .returned (.tuple #[.agg #[.int .u8 5, .int .i64 0, .string { data := #[] }, .slice an 5 cn, .slice ai 5 ci], .int .i64 0]) := h4
      clear HR0
      have HLO := Lib.hid (show 0 < w8.heap.size from Nat.lt_of_lt_of_le HZ0.out HB.out.size)
      replace HB := Lib.hid (HB.out.trans (hb.mono HB.out.size))
      replace HXR := Lib.hid ((hb.block _ (heap_lt HXR.out)).trans HXR.out)
      replace HXA := Lib.hid ((hb.block _ (heap_lt HXA.out)).trans HXA.out)
      replace HI := Lib.hid (HI.out.below hb (Nat.le_refl _) (Nat.le_refl _) hb.size)
      replace HA := Lib.hid (HA.out.below hb (Nat.le_refl _) (Nat.le_refl _) hb.size)
      have HV := Lib.hid (show Rep w9 w8.heap.size w9.heap.size (rootJ ⟨v, e, l, ⟨⟨t1, d1⟩, ⟨t2, d2⟩, ⟨t3, d3⟩⟩⟩) (.agg #[.int .u8 5, .int .i64 0, .string { data := #[] }, .slice an 5 cn, .slice ai 5 ci]) from hr)
      clear hr hb
      obtain ⟨bV, hbV⟩ : ∃ bV, bV = w9.heap.size := ⟨_, rfl⟩
      obtain ⟨w10, hw10⟩ : ∃ w10, w10 = w9.alloc (.cells #[.int .u8 5, .int .i64 0, .string { data := #[] }, .slice an 5 cn, .slice ai 5 ci] 25) := ⟨_, rfl⟩
      have hbx : Below w9.heap.size w9 w10 := by rw [hw10]; exact (Below.refl _ _).alloc (Nat.le_refl _) _
      have HXV := Lib.hid (heap_new_at hw10 hbV)
      replace HB := Lib.hid (HB.out.trans (hbx.mono HB.out.size))
      replace HXR := Lib.hid ((hbx.block _ (heap_lt HXR.out)).trans HXR.out)
      replace HXA := Lib.hid ((hbx.block _ (heap_lt HXA.out)).trans HXA.out)
      replace HI := Lib.hid (HI.out.below hbx (Nat.le_refl _) (Nat.le_refl _) hbx.size)
      replace HA := Lib.hid (HA.out.below hbx (Nat.le_refl _) (Nat.le_refl _) hbx.size)
      replace HV := Lib.hid (HV.out.below hbx (Nat.le_refl _) (Nat.le_refl _) hbx.size)
      have Hw10 := Lib.hid (And.intro hw10 hbV)
      clear hbx hw10 hbV
      go_upto_region 5 with fail
      rw [← Hw10.out.1, ← Hw10.out.2]
      clear Hw10
      have HLQ := Lib.hid (show 0 < w10.heap.size from Nat.lt_of_lt_of_le HZ0.out HB.out.size)
      obtain ⟨xV0, xV1, xV2, xV3, xV4⟩ := boxc5 HXV.out
      go_wp2_with fail
      refine (getRoles ⟨v, e, l, ⟨⟨t1, d1⟩, ⟨t2, d2⟩, ⟨t3, d3⟩⟩⟩ _ w10 w8.heap.size HLO.out HMB.out.symm HV.out).mono ?_
      clear xV0 xV1 xV2 xV3 xV4
      rintro ee w11 ⟨qn, qc, qi, qd, rfl, hr, hb⟩
      replace HB := Lib.hid (HB.out.trans (hb.mono HB.out.size))
      replace HXR := Lib.hid ((hb.block _ (heap_lt HXR.out)).trans HXR.out)
      replace HXA := Lib.hid ((hb.block _ (heap_lt HXA.out)).trans HXA.out)
      replace HXV := Lib.hid ((hb.block _ (heap_lt HXV.out)).trans HXV.out)
      replace HI := Lib.hid (HI.out.below hb (Nat.le_refl _) (Nat.le_refl _) hb.size)
      replace HA := Lib.hid (HA.out.below hb (Nat.le_refl _) (Nat.le_refl _) hb.size)
      replace HV := Lib.hid (HV.out.below hb (Nat.le_refl _) (Nat.le_refl _) hb.size)
      have HQ := Lib.hid hr
      clear hr hb
      have HK := Lib.hid (show ∀ w' : World, Below w11.heap.size w11 w' → Below w.heap.size w w' ∧ w'.heap[bR]? = some (.cells #[.int .i64 v, .int .i64 e, .slice ka l.length kc, .int .i64 t1, .slice i1 d1.length c1, .int .i64 t2, .slice i2 d2.length c2, .int .i64 t3, .slice i3 d3.length c3] 32 (0, 0)) ∧ w'.heap[bA]? = some (.cells #[.int .i64 tt, .slice aa al.length ac] 30 (0, 0)) ∧ w'.heap[bV]? = some (.cells #[.int .u8 5, .int .i64 0, .string { data := #[] }, .slice an 5 cn, .slice ai 5 ci] 25 (0, 0)) ∧ RootIn w' 0 w'.heap.size ⟨v, e, l, ⟨⟨t1, d1⟩, ⟨t2, d2⟩, ⟨t3, d3⟩⟩⟩ ka i1 i2 i3 ∧ StrsAt w' 0 w'.heap.size aa al ∧ Rep w' w8.heap.size w'.heap.size (rootJ ⟨v, e, l, ⟨⟨t1, d1⟩, ⟨t2, d2⟩, ⟨t3, d3⟩⟩⟩) (.agg #[.int .u8 5, .int .i64 0, .string { data := #[] }, .slice an 5 cn, .slice ai 5 ci]) from fun w' h => ⟨HB.out.trans (h.mono HB.out.size), (h.block _ (heap_lt HXR.out)).trans HXR.out, (h.block _ (heap_lt HXA.out)).trans HXA.out, (h.block _ (heap_lt HXV.out)).trans HXV.out, HI.out.below h (Nat.le_refl _) (Nat.le_refl _) h.size, HA.out.below h (Nat.le_refl _) (Nat.le_refl _) h.size, HV.out.below h (Nat.le_refl _) (Nat.le_refl _) h.size⟩)
      have HL := Lib.hid (Below.refl w11.heap.size w11)
      obtain ⟨bO, hbO⟩ : ∃ bO, bO = w11.heap.size := ⟨_, rfl⟩
      obtain ⟨w12, hw12⟩ : ∃ w12, w12 = w11.alloc (.cells #[.int .u8 5, .int .i64 0, .string { data := #[] }, .slice qn 3 qc, .slice qi 3 qd] 25) := ⟨_, rfl⟩
      have hbx : Below w11.heap.size w11 w12 := by rw [hw12]; exact (Below.refl _ _).alloc (Nat.le_refl _) _
      have HXO := Lib.hid (heap_new_at hw12 hbO)
      replace HB := Lib.hid (HB.out.trans (hbx.mono HB.out.size))
      replace HXR := Lib.hid ((hbx.block _ (heap_lt HXR.out)).trans HXR.out)
      replace HXA := Lib.hid ((hbx.block _ (heap_lt HXA.out)).trans HXA.out)
      replace HXV := Lib.hid ((hbx.block _ (heap_lt HXV.out)).trans HXV.out)
      replace HI := Lib.hid (HI.out.below hbx (Nat.le_refl _) (Nat.le_refl _) hbx.size)
      replace HA := Lib.hid (HA.out.below hbx (Nat.le_refl _) (Nat.le_refl _) hbx.size)
      replace HV := Lib.hid (HV.out.below hbx (Nat.le_refl _) (Nat.le_refl _) hbx.size)
      replace HQ := Lib.hid (HQ.out.below hbx (Nat.le_refl _) (Nat.le_refl _) hbx.size)
      replace HL := Lib.hid (HL.out.trans (hbx.mono HL.out.size))
      have Hw12 := Lib.hid (And.intro hw12 hbO)
      clear hbx hw12 hbO
      have HBO := Lib.hid (show bO = w11.heap.size from Hw12.out.2)
      go_upto_region 6 with fail
      rw [← Hw12.out.1, ← Hw12.out.2]
      clear Hw12
      have HLP := Lib.hid (show 0 < w12.heap.size from Nat.lt_of_lt_of_le HZ0.out HB.out.size)
      obtain ⟨xA0, xA1⟩ := boxc2 HXA.out
      go_wp2_with fail
      refine (authValue_may tt al aa ac w12 HA.out HMA2.out).mono ?_
      clear xA0 xA1
      rintro ee w13 ⟨pn, pc, pi, pd, rfl, hr, hb⟩
      replace HB := Lib.hid (HB.out.trans (hb.mono HB.out.size))
      replace HXR := Lib.hid ((hb.block _ (heap_lt HXR.out)).trans HXR.out)
      replace HXA := Lib.hid ((hb.block _ (heap_lt HXA.out)).trans HXA.out)
      replace HXV := Lib.hid ((hb.block _ (heap_lt HXV.out)).trans HXV.out)
      replace HXO := Lib.hid ((hb.block _ (heap_lt HXO.out)).trans HXO.out)
      replace HI := Lib.hid (HI.out.below hb (Nat.le_refl _) (Nat.le_refl _) hb.size)
      replace HA := Lib.hid (HA.out.below hb (Nat.le_refl _) (Nat.le_refl _) hb.size)
      replace HV := Lib.hid (HV.out.below hb (Nat.le_refl _) (Nat.le_refl _) hb.size)
      replace HQ := Lib.hid (HQ.out.below hb (Nat.le_refl _) (Nat.le_refl _) hb.size)
      replace HL := Lib.hid (HL.out.trans (hb.mono HL.out.size))
      have HP := Lib.hid hr
      clear hr hb
      obtain ⟨bP, hbP⟩ : ∃ bP, bP = w13.heap.size := ⟨_, rfl⟩
      obtain ⟨w14, hw14⟩ : ∃ w14, w14 = w13.alloc (.cells #[.int .u8 5, .int .i64 0, .string { data := #[] }, .slice pn 2 pc, .slice pi 2 pd] 25) := ⟨_, rfl⟩
      have hbx : Below w13.heap.size w13 w14 := by rw [hw14]; exact (Below.refl _ _).alloc (Nat.le_refl _) _
      have HXP := Lib.hid (heap_new_at hw14 hbP)
      replace HB := Lib.hid (HB.out.trans (hbx.mono HB.out.size))
      replace HXR := Lib.hid ((hbx.block _ (heap_lt HXR.out)).trans HXR.out)
      replace HXA := Lib.hid ((hbx.block _ (heap_lt HXA.out)).trans HXA.out)
      replace HXV := Lib.hid ((hbx.block _ (heap_lt HXV.out)).trans HXV.out)
      replace HXO := Lib.hid ((hbx.block _ (heap_lt HXO.out)).trans HXO.out)
      replace HI := Lib.hid (HI.out.below hbx (Nat.le_refl _) (Nat.le_refl _) hbx.size)
      replace HA := Lib.hid (HA.out.below hbx (Nat.le_refl _) (Nat.le_refl _) hbx.size)
      replace HV := Lib.hid (HV.out.below hbx (Nat.le_refl _) (Nat.le_refl _) hbx.size)
      replace HQ := Lib.hid (HQ.out.below hbx (Nat.le_refl _) (Nat.le_refl _) hbx.size)
      replace HP := Lib.hid (HP.out.below hbx (Nat.le_refl _) (Nat.le_refl _) hbx.size)
      replace HL := Lib.hid (HL.out.trans (hbx.mono HL.out.size))
      have Hw14 := Lib.hid (And.intro hw14 hbP)
      clear hbx hw14 hbP
      go_upto_region 7 with fail
      rw [← Hw14.out.1, ← Hw14.out.2]
      clear Hw14
      have HLR := Lib.hid (show 0 < w14.heap.size from Nat.lt_of_lt_of_le HZ0.out HB.out.size)
      have HO14 := Lib.hid (heap_lt HXO.out)
      obtain ⟨xO0, xO1, xO2, xO3, xO4⟩ := boxc5 HXO.out
      obtain ⟨xP0, xP1, xP2, xP3, xP4⟩ := boxc5 HXP.out
      go_wp2_with fail
      refine (withRole ⟨v, e, l, ⟨⟨t1, d1⟩, ⟨t2, d2⟩, ⟨t3, d3⟩⟩⟩ ⟨tt, al⟩ k HK3.out _ _ w14 w10.heap.size w12.heap.size HLQ.out HLP.out HMB.out.symm (Nat.le_trans (authJ_wt HMA2.out) (by decide)) HQ.out HP.out).mono ?_
      clear xO0 xO1 xO2 xO3 xO4
      clear xP0 xP1 xP2 xP3 xP4
      rintro ee w15 ⟨rn, rc, ri, rd, rfl, hr, hb⟩
      replace HB := Lib.hid (HB.out.trans (hb.mono HB.out.size))
      replace HXR := Lib.hid ((hb.block _ (heap_lt HXR.out)).trans HXR.out)
      replace HXA := Lib.hid ((hb.block _ (heap_lt HXA.out)).trans HXA.out)
      replace HXV := Lib.hid ((hb.block _ (heap_lt HXV.out)).trans HXV.out)
      replace HXO := Lib.hid ((hb.block _ (heap_lt HXO.out)).trans HXO.out)
      replace HXP := Lib.hid ((hb.block _ (heap_lt HXP.out)).trans HXP.out)
      replace HI := Lib.hid (HI.out.below hb (Nat.le_refl _) (Nat.le_refl _) hb.size)
      replace HA := Lib.hid (HA.out.below hb (Nat.le_refl _) (Nat.le_refl _) hb.size)
      replace HV := Lib.hid (HV.out.below hb (Nat.le_refl _) (Nat.le_refl _) hb.size)
      replace HQ := Lib.hid (HQ.out.below hb (Nat.le_refl _) (Nat.le_refl _) hb.size)
      replace HP := Lib.hid (HP.out.below hb (Nat.le_refl _) (Nat.le_refl _) hb.size)
      replace HL := Lib.hid (HL.out.trans (hb.mono HL.out.size))
      dsimp only at hr
      rw [← HPP.out] at hr
      have HRR := Lib.hid hr
      clear hr hb HXP HQ HP
      have s0 : w15.frozen? ⟨bO, 0, none⟩ = false := by simp [World.frozen?, HXO.out]
      have s1 : w15.frozen? ⟨bO, 1, none⟩ = false := by simp [World.frozen?, HXO.out]
      have s2 : w15.frozen? ⟨bO, 2, none⟩ = false := by simp [World.frozen?, HXO.out]
      have s3 : w15.frozen? ⟨bO, 3, none⟩ = false := by simp [World.frozen?, HXO.out]
      have s4 : w15.frozen? ⟨bO, 4, none⟩ = false := by simp [World.frozen?, HXO.out]
      obtain ⟨xO0, xO1, xO2, xO3, xO4⟩ := boxc5 HXO.out
      go_upto_region 8 with fail
      clear xO0 xO1 xO2 xO3 xO4
      clear s0 s1 s2 s3 s4
      obtain ⟨w16, hw16⟩ : ∃ w16, w16 = (((((w15).setCell ⟨bO, 0, none⟩ (.int .u8 5)).setCell ⟨bO, 1, none⟩ (.int .i64 0)).setCell ⟨bO, 2, none⟩ (.string { data := #[] })).setCell ⟨bO, 3, none⟩ (.slice rn 3 rc)).setCell ⟨bO, 4, none⟩ (.slice ri 3 rd) := ⟨_, rfl⟩
      rw [← hw16]
      have hxo : w16.heap[bO]? = some (.cells #[.int .u8 5, .int .i64 0, .string { data := #[] }, .slice rn 3 rc, .slice ri 3 rd] 25 (0, 0)) := by rw [hw16]; exact row5_heap (set5 _ _ _ _ _ (row5_of HXO.out))
      replace HL := Lib.hid (show Below w11.heap.size w11 w16 by rw [hw16]; exact below5 _ _ _ _ _ HL.out (Nat.le_of_eq HBO.out.symm))
      have hrr := Rep.carry (w := w15) (w' := w16) (Nat.le_refl w14.heap.size) (Nat.le_of_eq (show w15.heap.size = w16.heap.size by rw [hw16]; simp [World.setCell])) (fun b h1 _ => by rw [hw16]; exact heap5 _ _ _ _ _ (by have := HO14.out; omega)) _ _ HRR.out
      replace HRR := Lib.hid hrr
      clear HXO hrr hw16
      obtain ⟨hb, qR, qA, qV, rHI, rHA, rHV⟩ := HK.out w16 HL.out
      replace HB := Lib.hid hb
      replace HXR := Lib.hid qR
      replace HXA := Lib.hid qA
      replace HXV := Lib.hid qV
      replace HI := Lib.hid rHI
      replace HA := Lib.hid rHA
      replace HV := Lib.hid rHV
      clear hb qR qA qV rHI rHA rHV
      have HXO := Lib.hid hxo
      clear hxo
      have HLW := Lib.hid (show 0 < w16.heap.size from Nat.lt_of_lt_of_le HZ0.out HB.out.size)
      obtain ⟨xV0, xV1, xV2, xV3, xV4⟩ := boxc5 HXV.out
      obtain ⟨xO0, xO1, xO2, xO3, xO4⟩ := boxc5 HXO.out
      go_wp2_with fail
      refine (withRoles ⟨v, e, l, ⟨⟨t1, d1⟩, ⟨t2, d2⟩, ⟨t3, d3⟩⟩⟩ ⟨⟨p1, f1⟩, ⟨p2, f2⟩, ⟨p3, f3⟩⟩ _ _ w16 w8.heap.size w14.heap.size HLO.out HLR.out HMB.out.symm HMP.out HV.out HRR.out).mono ?_
      clear xV0 xV1 xV2 xV3 xV4
      clear xO0 xO1 xO2 xO3 xO4
      rintro ee w17 ⟨wn, wc, wi, wd, rfl, hr, hb⟩
      replace HB := Lib.hid (HB.out.trans (hb.mono HB.out.size))
      replace HXR := Lib.hid ((hb.block _ (heap_lt HXR.out)).trans HXR.out)
      replace HXA := Lib.hid ((hb.block _ (heap_lt HXA.out)).trans HXA.out)
      replace HXV := Lib.hid ((hb.block _ (heap_lt HXV.out)).trans HXV.out)
      replace HXO := Lib.hid ((hb.block _ (heap_lt HXO.out)).trans HXO.out)
      replace HI := Lib.hid (HI.out.below hb (Nat.le_refl _) (Nat.le_refl _) hb.size)
      replace HA := Lib.hid (HA.out.below hb (Nat.le_refl _) (Nat.le_refl _) hb.size)
      replace HV := Lib.hid (HV.out.below hb (Nat.le_refl _) (Nat.le_refl _) hb.size)
      replace HRR := Lib.hid (HRR.out.below hb (Nat.le_refl _) (Nat.le_refl _) hb.size)
      have HW := Lib.hid (show Rep w17 w16.heap.size w17.heap.size (rootJ ⟨v, e, l, ⟨⟨p1, f1⟩, ⟨p2, f2⟩, ⟨p3, f3⟩⟩⟩) (.agg #[.int .u8 5, .int .i64 0, .string { data := #[] }, .slice wn 5 wc, .slice wi 5 wd]) from hr)
      clear hr hb HRR HXO HXV HV HK
      obtain ⟨bW, hbW⟩ : ∃ bW, bW = w17.heap.size := ⟨_, rfl⟩
      obtain ⟨w18, hw18⟩ : ∃ w18, w18 = w17.alloc (.cells #[.int .u8 5, .int .i64 0, .string { data := #[] }, .slice wn 5 wc, .slice wi 5 wd] 25) := ⟨_, rfl⟩
      have hbx : Below w17.heap.size w17 w18 := by rw [hw18]; exact (Below.refl _ _).alloc (Nat.le_refl _) _
      have HXW := Lib.hid (heap_new_at hw18 hbW)
      replace HB := Lib.hid (HB.out.trans (hbx.mono HB.out.size))
      replace HXR := Lib.hid ((hbx.block _ (heap_lt HXR.out)).trans HXR.out)
      replace HXA := Lib.hid ((hbx.block _ (heap_lt HXA.out)).trans HXA.out)
      replace HI := Lib.hid (HI.out.below hbx (Nat.le_refl _) (Nat.le_refl _) hbx.size)
      replace HA := Lib.hid (HA.out.below hbx (Nat.le_refl _) (Nat.le_refl _) hbx.size)
      replace HW := Lib.hid (HW.out.below hbx (Nat.le_refl _) (Nat.le_refl _) hbx.size)
      have Hw18 := Lib.hid (And.intro hw18 hbW)
      clear hbx hw18 hbW
      go_upto_region 9 with fail
      rw [← Hw18.out.1, ← Hw18.out.2]
      clear Hw18
      have HOF := Lib.hid (rootOfOwn (rootJ ⟨v, e, l, ⟨⟨p1, f1⟩, ⟨p2, f2⟩, ⟨p3, f3⟩⟩⟩) _ w18 w16.heap.size HLW.out (Nat.le_trans (rootJ_wt HMP.out) (by decide)) HW.out (HTB.out w18 HB.out).1 (HTB.out w18 HB.out).2.1 (HTB.out w18 HB.out).2.2.2)
      rw [HOP.out] at HOF
      obtain ⟨xW0, xW1, xW2, xW3, xW4⟩ := boxc5 HXW.out
      go_wp2_with fail
      refine (HOF.out).mono ?_
      clear xW0 xW1 xW2 xW3 xW4
      rintro ee w19 ⟨kb, kd, h1, g1, h2, g2, h3, g3, h4, hi, hb⟩
      dsimp only at h4 hi
      subst h4
      clear HOF
      replace HB := Lib.hid (HB.out.trans (hb.mono HB.out.size))
      replace HXR := Lib.hid ((hb.block _ (heap_lt HXR.out)).trans HXR.out)
      replace HXA := Lib.hid ((hb.block _ (heap_lt HXA.out)).trans HXA.out)
      replace HXW := Lib.hid ((hb.block _ (heap_lt HXW.out)).trans HXW.out)
      replace HI := Lib.hid (HI.out.below hb (Nat.le_refl _) (Nat.le_refl _) hb.size)
      replace HA := Lib.hid (HA.out.below hb (Nat.le_refl _) (Nat.le_refl _) hb.size)
      replace HW := Lib.hid (HW.out.below hb (Nat.le_refl _) (Nat.le_refl _) hb.size)
      have HY := Lib.hid (hi.carry (Nat.zero_le _) (Nat.le_refl _) (fun _ _ _ => rfl))
      clear hi hb HXW HW
      obtain ⟨bX, hbX⟩ : ∃ bX, bX = w19.heap.size := ⟨_, rfl⟩
      obtain ⟨w20, hw20⟩ : ∃ w20, w20 = w19.alloc (.cells #[.int .i64 v, .int .i64 e, .slice kb l.length kd, .int .i64 p1, .slice h1 f1.length g1, .int .i64 p2, .slice h2 f2.length g2, .int .i64 p3, .slice h3 f3.length g3] 32) := ⟨_, rfl⟩
      have hbx : Below w19.heap.size w19 w20 := by rw [hw20]; exact (Below.refl _ _).alloc (Nat.le_refl _) _
      have HXX := Lib.hid (heap_new_at hw20 hbX)
      replace HB := Lib.hid (HB.out.trans (hbx.mono HB.out.size))
      replace HXR := Lib.hid ((hbx.block _ (heap_lt HXR.out)).trans HXR.out)
      replace HXA := Lib.hid ((hbx.block _ (heap_lt HXA.out)).trans HXA.out)
      replace HI := Lib.hid (HI.out.below hbx (Nat.le_refl _) (Nat.le_refl _) hbx.size)
      replace HA := Lib.hid (HA.out.below hbx (Nat.le_refl _) (Nat.le_refl _) hbx.size)
      replace HY := Lib.hid (HY.out.below hbx (Nat.le_refl _) (Nat.le_refl _) hbx.size)
      have Hw20 := Lib.hid (And.intro hw20 hbX)
      clear hbx hw20 hbX
      go_upto_region 12 with fail
      rw [← Hw20.out.1, ← Hw20.out.2]
      clear Hw20
      have HK := Lib.hid (show ∀ w' : World, Below w20.heap.size w20 w' → Below w.heap.size w w' ∧ w'.heap[bR]? = some (.cells #[.int .i64 v, .int .i64 e, .slice ka l.length kc, .int .i64 t1, .slice i1 d1.length c1, .int .i64 t2, .slice i2 d2.length c2, .int .i64 t3, .slice i3 d3.length c3] 32 (0, 0)) ∧ w'.heap[bA]? = some (.cells #[.int .i64 tt, .slice aa al.length ac] 30 (0, 0)) ∧ w'.heap[bX]? = some (.cells #[.int .i64 v, .int .i64 e, .slice kb l.length kd, .int .i64 p1, .slice h1 f1.length g1, .int .i64 p2, .slice h2 f2.length g2, .int .i64 p3, .slice h3 f3.length g3] 32 (0, 0)) ∧ RootIn w' 0 w'.heap.size ⟨v, e, l, ⟨⟨t1, d1⟩, ⟨t2, d2⟩, ⟨t3, d3⟩⟩⟩ ka i1 i2 i3 ∧ StrsAt w' 0 w'.heap.size aa al ∧ RootIn w' 0 w'.heap.size ⟨v, e, l, ⟨⟨p1, f1⟩, ⟨p2, f2⟩, ⟨p3, f3⟩⟩⟩ kb h1 h2 h3 from fun w' h => ⟨HB.out.trans (h.mono HB.out.size), (h.block _ (heap_lt HXR.out)).trans HXR.out, (h.block _ (heap_lt HXA.out)).trans HXA.out, (h.block _ (heap_lt HXX.out)).trans HXX.out, HI.out.below h (Nat.le_refl _) (Nat.le_refl _) h.size, HA.out.below h (Nat.le_refl _) (Nat.le_refl _) h.size, HY.out.below h (Nat.le_refl _) (Nat.le_refl _) h.size⟩)
      have HL := Lib.hid (Below.refl w20.heap.size w20)
      obtain ⟨xR0, xR1, xR2, xR3, xR4, xR5, xR6, xR7, xR8⟩ := boxc9 HXR.out
      go_upto_region 13 with fail
      clear xR0 xR1 xR2 xR3 xR4 xR5 xR6 xR7 xR8
      obtain ⟨bN, hbN⟩ : ∃ bN, bN = w20.heap.size := ⟨_, rfl⟩
      obtain ⟨w21, hw21⟩ : ∃ w21, w21 = w20.alloc (.cells #[.int .i64 v, .int .i64 e, .slice ka l.length kc, .int .i64 t1, .slice i1 d1.length c1, .int .i64 t2, .slice i2 d2.length c2, .int .i64 t3, .slice i3 d3.length c3] 32) := ⟨_, rfl⟩
      have hbx : Below w20.heap.size w20 w21 := by rw [hw21]; exact (Below.refl _ _).alloc (Nat.le_refl _) _
      have HXN := Lib.hid (heap_new_at hw21 hbN)
      replace HB := Lib.hid (HB.out.trans (hbx.mono HB.out.size))
      replace HXR := Lib.hid ((hbx.block _ (heap_lt HXR.out)).trans HXR.out)
      replace HXA := Lib.hid ((hbx.block _ (heap_lt HXA.out)).trans HXA.out)
      replace HXX := Lib.hid ((hbx.block _ (heap_lt HXX.out)).trans HXX.out)
      replace HI := Lib.hid (HI.out.below hbx (Nat.le_refl _) (Nat.le_refl _) hbx.size)
      replace HA := Lib.hid (HA.out.below hbx (Nat.le_refl _) (Nat.le_refl _) hbx.size)
      replace HY := Lib.hid (HY.out.below hbx (Nat.le_refl _) (Nat.le_refl _) hbx.size)
      replace HL := Lib.hid (HL.out.trans (hbx.mono HL.out.size))
      have Hw21 := Lib.hid (And.intro hw21 hbN)
      clear hbx hw21 hbN
      have HBN := Lib.hid (show bN = w20.heap.size from Hw21.out.2)
      rw [← Hw21.out.1, ← Hw21.out.2]
      clear Hw21
      have hu0 : which.tmod 3 = which % 3 := Int.tmod_eq_emod_of_nonneg hw0
      have hkk := HKK.out
      have hk3 := HK3.out
      obtain rfl | rfl | rfl : k = 0 ∨ k = 1 ∨ k = 2 := by omega
      ·
       obtain ⟨⟨y1, z1⟩, ⟨y2, z2⟩, ⟨y3, z3⟩⟩ : ((p1 = tt ∧ f1 = al) ∧ (p2 = t2 ∧ f2 = d2) ∧ (p3 = t3 ∧ f3 = d3)) := by
        have h := HPP.out
        simp only [Auth3.put] at h
        simpa using h
       subst p1 f1 p2 f2 p3 f3
       have hu1 : which % 3 = 0 := hkk
       rw [hu1] at hu0
       have s3 : w21.frozen? ⟨bN, 3, none⟩ = false := by simp [World.frozen?, HXN.out]
       have s4 : w21.frozen? ⟨bN, 4, none⟩ = false := by simp [World.frozen?, HXN.out]
       obtain ⟨xA0, xA1⟩ := boxc2 HXA.out
       obtain ⟨xN0, xN1, xN2, xN3, xN4, xN5, xN6, xN7, xN8⟩ := boxc9 HXN.out
       go_upto_region 19 with fail
       clear xA0 xA1
       clear xN0 xN1 xN2 xN3 xN4 xN5 xN6 xN7 xN8
       clear s3 s4 hu0 hu1 hkk
       obtain ⟨w22, hw22⟩ : ∃ w22, w22 = (w21.setCell ⟨bN, 3, none⟩ (.int .i64 tt)).setCell ⟨bN, 4, none⟩ (.slice aa al.length ac) := ⟨_, rfl⟩
       rw [← hw22]
       have hxn : w22.heap[bN]? = some (.cells #[.int .i64 v, .int .i64 e, .slice ka l.length kc, .int .i64 tt, .slice aa al.length ac, .int .i64 t2, .slice i2 d2.length c2, .int .i64 t3, .slice i3 d3.length c3] 32 (0, 0)) := by
         rw [hw22]
         exact row9_heap ((((row9_of HXN.out).set 3 (.int .i64 tt)).set 4 (.slice aa al.length ac)).congr fun j hj => by rcases j with _ | _ | _ | _ | _ | _ | _ | _ | _ | j <;> first | rfl | omega)
       replace HL := Lib.hid (show Below w20.heap.size w20 w22 by rw [hw22]; exact (HL.out.setCell (Nat.le_of_eq HBN.out.symm) _).setCell (Nat.le_of_eq HBN.out.symm) _)
       clear HXN hw22
       obtain ⟨hb, qR, qA, qX, rHI, rHA, rHY⟩ := HK.out w22 HL.out
       replace HB := Lib.hid hb
       replace HXR := Lib.hid qR
       replace HXA := Lib.hid qA
       replace HXX := Lib.hid qX
       replace HI := Lib.hid rHI
       replace HA := Lib.hid rHA
       replace HY := Lib.hid rHY
       clear hb qR qA qX rHI rHA rHY
       have HXN := Lib.hid hxn
       clear hxn
       have HAC := Lib.hid (rootAuthF v e l tt t2 t3 al d2 d3 kb h1 h2 h3 kd g1 g2 g3 (roleN 0) w22 HY.out (rootFits_may HMP.out) (HTB.out w22 HB.out).2.2.2)
       rw [HRA.out] at HAC
       obtain ⟨xX0, xX1, xX2, xX3, xX4, xX5, xX6, xX7, xX8⟩ := boxc9 HXX.out
       go_wp2_with fail
       refine (HAC.out).mono ?_
       clear xX0 xX1 xX2 xX3 xX4 xX5 xX6 xX7 xX8
       rintro ee w23 ⟨ja, jc, h4, hs, hb⟩
       dsimp only at h4 hs
       subst h4
       replace HB := Lib.hid (HB.out.trans (hb.mono HB.out.size))
       replace HXR := Lib.hid ((hb.block _ (heap_lt HXR.out)).trans HXR.out)
       replace HXA := Lib.hid ((hb.block _ (heap_lt HXA.out)).trans HXA.out)
       replace HXX := Lib.hid ((hb.block _ (heap_lt HXX.out)).trans HXX.out)
       replace HXN := Lib.hid ((hb.block _ (heap_lt HXN.out)).trans HXN.out)
       replace HI := Lib.hid (HI.out.below hb (Nat.le_refl _) (Nat.le_refl _) hb.size)
       replace HA := Lib.hid (HA.out.below hb (Nat.le_refl _) (Nat.le_refl _) hb.size)
       replace HY := Lib.hid (HY.out.below hb (Nat.le_refl _) (Nat.le_refl _) hb.size)
       have HS := Lib.hid (hs.carry (Nat.zero_le _) (Nat.le_refl _) (fun _ _ _ => rfl))
       clear hs hb HAC HRA HK
       obtain ⟨bB, hbB⟩ : ∃ bB, bB = w23.heap.size := ⟨_, rfl⟩
       obtain ⟨w24, hw24⟩ : ∃ w24, w24 = w23.alloc (.cells #[.int .i64 tt, .slice ja al.length jc] 30) := ⟨_, rfl⟩
       have hbx : Below w23.heap.size w23 w24 := by rw [hw24]; exact (Below.refl _ _).alloc (Nat.le_refl _) _
       have HXB := Lib.hid (heap_new_at hw24 hbB)
       replace HB := Lib.hid (HB.out.trans (hbx.mono HB.out.size))
       replace HXR := Lib.hid ((hbx.block _ (heap_lt HXR.out)).trans HXR.out)
       replace HXA := Lib.hid ((hbx.block _ (heap_lt HXA.out)).trans HXA.out)
       replace HXX := Lib.hid ((hbx.block _ (heap_lt HXX.out)).trans HXX.out)
       replace HXN := Lib.hid ((hbx.block _ (heap_lt HXN.out)).trans HXN.out)
       replace HI := Lib.hid (HI.out.below hbx (Nat.le_refl _) (Nat.le_refl _) hbx.size)
       replace HA := Lib.hid (HA.out.below hbx (Nat.le_refl _) (Nat.le_refl _) hbx.size)
       replace HY := Lib.hid (HY.out.below hbx (Nat.le_refl _) (Nat.le_refl _) hbx.size)
       replace HS := Lib.hid (HS.out.below hbx (Nat.le_refl _) (Nat.le_refl _) hbx.size)
       have Hw24 := Lib.hid (And.intro hw24 hbB)
       clear hbx hw24 hbB
       go_upto_region 20 with fail
       rw [← Hw24.out.1, ← Hw24.out.2]
       clear Hw24
       have HSC := Lib.hid (ref22Same v e l tt t2 t3 al d2 d3 kb h1 h2 h3 kd g1 g2 g3 v e l tt t2 t3 al d2 d3 ka aa i2 i3 kc ac c2 c3 w24 HY.out ⟨HI.out.keys, HA.out, HI.out.b, HI.out.c⟩ (rootFits_may HMP.out) (rootFits_may HMP.out))
       rw [sameRoot_self] at HSC
       obtain ⟨xX0, xX1, xX2, xX3, xX4, xX5, xX6, xX7, xX8⟩ := boxc9 HXX.out
       obtain ⟨xN0, xN1, xN2, xN3, xN4, xN5, xN6, xN7, xN8⟩ := boxc9 HXN.out
       go_wp2_with fail
       refine (HSC.out).mono ?_
       clear xX0 xX1 xX2 xX3 xX4 xX5 xX6 xX7 xX8
       clear xN0 xN1 xN2 xN3 xN4 xN5 xN6 xN7 xN8
       rintro ee w25 ⟨rfl, hb⟩
       replace HB := Lib.hid (HB.out.trans (hb.mono HB.out.size))
       replace HXR := Lib.hid ((hb.block _ (heap_lt HXR.out)).trans HXR.out)
       replace HXA := Lib.hid ((hb.block _ (heap_lt HXA.out)).trans HXA.out)
       replace HXX := Lib.hid ((hb.block _ (heap_lt HXX.out)).trans HXX.out)
       replace HXN := Lib.hid ((hb.block _ (heap_lt HXN.out)).trans HXN.out)
       replace HXB := Lib.hid ((hb.block _ (heap_lt HXB.out)).trans HXB.out)
       replace HI := Lib.hid (HI.out.below hb (Nat.le_refl _) (Nat.le_refl _) hb.size)
       replace HA := Lib.hid (HA.out.below hb (Nat.le_refl _) (Nat.le_refl _) hb.size)
       replace HY := Lib.hid (HY.out.below hb (Nat.le_refl _) (Nat.le_refl _) hb.size)
       replace HS := Lib.hid (HS.out.below hb (Nat.le_refl _) (Nat.le_refl _) hb.size)
       clear hb HSC
       have HSC := Lib.hid (ref15Same tt tt al al ja aa jc ac w25 HS.out HA.out (authFits_may HMA2.out).2.1 (authFits_may HMA2.out).2.1)
       rw [decide_eq_true rfl] at HSC
       obtain ⟨xB0, xB1⟩ := boxc2 HXB.out
       obtain ⟨xA0, xA1⟩ := boxc2 HXA.out
       go_wp2_with fail
       refine (HSC.out).mono ?_
       clear xB0 xB1
       clear xA0 xA1
       rintro ee w26 ⟨rfl, hb⟩
       replace HB := Lib.hid (HB.out.trans (hb.mono HB.out.size))
       replace HXR := Lib.hid ((hb.block _ (heap_lt HXR.out)).trans HXR.out)
       replace HXA := Lib.hid ((hb.block _ (heap_lt HXA.out)).trans HXA.out)
       replace HXX := Lib.hid ((hb.block _ (heap_lt HXX.out)).trans HXX.out)
       replace HXN := Lib.hid ((hb.block _ (heap_lt HXN.out)).trans HXN.out)
       replace HXB := Lib.hid ((hb.block _ (heap_lt HXB.out)).trans HXB.out)
       replace HI := Lib.hid (HI.out.below hb (Nat.le_refl _) (Nat.le_refl _) hb.size)
       replace HA := Lib.hid (HA.out.below hb (Nat.le_refl _) (Nat.le_refl _) hb.size)
       replace HY := Lib.hid (HY.out.below hb (Nat.le_refl _) (Nat.le_refl _) hb.size)
       replace HS := Lib.hid (HS.out.below hb (Nat.le_refl _) (Nat.le_refl _) hb.size)
       clear hb HSC
       have HBZ := Lib.hid (HB.out)
       go_wp2
       go_ret
       exact ⟨rfl, HBZ.out⟩
      ·
       obtain ⟨⟨y1, z1⟩, ⟨y2, z2⟩, ⟨y3, z3⟩⟩ : ((p1 = t1 ∧ f1 = d1) ∧ (p2 = tt ∧ f2 = al) ∧ (p3 = t3 ∧ f3 = d3)) := by
        have h := HPP.out
        simp only [Auth3.put] at h
        simpa using h
       subst p1 f1 p2 f2 p3 f3
       have hu1 : which % 3 = 1 := hkk
       rw [hu1] at hu0
       have s5 : w21.frozen? ⟨bN, 5, none⟩ = false := by simp [World.frozen?, HXN.out]
       have s6 : w21.frozen? ⟨bN, 6, none⟩ = false := by simp [World.frozen?, HXN.out]
       obtain ⟨xA0, xA1⟩ := boxc2 HXA.out
       obtain ⟨xN0, xN1, xN2, xN3, xN4, xN5, xN6, xN7, xN8⟩ := boxc9 HXN.out
       go_upto_region 19 with fail
       clear xA0 xA1
       clear xN0 xN1 xN2 xN3 xN4 xN5 xN6 xN7 xN8
       clear s5 s6 hu0 hu1 hkk
       obtain ⟨w22, hw22⟩ : ∃ w22, w22 = (w21.setCell ⟨bN, 5, none⟩ (.int .i64 tt)).setCell ⟨bN, 6, none⟩ (.slice aa al.length ac) := ⟨_, rfl⟩
       rw [← hw22]
       have hxn : w22.heap[bN]? = some (.cells #[.int .i64 v, .int .i64 e, .slice ka l.length kc, .int .i64 t1, .slice i1 d1.length c1, .int .i64 tt, .slice aa al.length ac, .int .i64 t3, .slice i3 d3.length c3] 32 (0, 0)) := by
         rw [hw22]
         exact row9_heap ((((row9_of HXN.out).set 5 (.int .i64 tt)).set 6 (.slice aa al.length ac)).congr fun j hj => by rcases j with _ | _ | _ | _ | _ | _ | _ | _ | _ | j <;> first | rfl | omega)
       replace HL := Lib.hid (show Below w20.heap.size w20 w22 by rw [hw22]; exact (HL.out.setCell (Nat.le_of_eq HBN.out.symm) _).setCell (Nat.le_of_eq HBN.out.symm) _)
       clear HXN hw22
       obtain ⟨hb, qR, qA, qX, rHI, rHA, rHY⟩ := HK.out w22 HL.out
       replace HB := Lib.hid hb
       replace HXR := Lib.hid qR
       replace HXA := Lib.hid qA
       replace HXX := Lib.hid qX
       replace HI := Lib.hid rHI
       replace HA := Lib.hid rHA
       replace HY := Lib.hid rHY
       clear hb qR qA qX rHI rHA rHY
       have HXN := Lib.hid hxn
       clear hxn
       have HAC := Lib.hid (rootAuthF v e l t1 tt t3 d1 al d3 kb h1 h2 h3 kd g1 g2 g3 (roleN 1) w22 HY.out (rootFits_may HMP.out) (HTB.out w22 HB.out).2.2.2)
       rw [HRA.out] at HAC
       obtain ⟨xX0, xX1, xX2, xX3, xX4, xX5, xX6, xX7, xX8⟩ := boxc9 HXX.out
       go_wp2_with fail
       refine (HAC.out).mono ?_
       clear xX0 xX1 xX2 xX3 xX4 xX5 xX6 xX7 xX8
       rintro ee w23 ⟨ja, jc, h4, hs, hb⟩
       dsimp only at h4 hs
       subst h4
       replace HB := Lib.hid (HB.out.trans (hb.mono HB.out.size))
       replace HXR := Lib.hid ((hb.block _ (heap_lt HXR.out)).trans HXR.out)
       replace HXA := Lib.hid ((hb.block _ (heap_lt HXA.out)).trans HXA.out)
       replace HXX := Lib.hid ((hb.block _ (heap_lt HXX.out)).trans HXX.out)
       replace HXN := Lib.hid ((hb.block _ (heap_lt HXN.out)).trans HXN.out)
       replace HI := Lib.hid (HI.out.below hb (Nat.le_refl _) (Nat.le_refl _) hb.size)
       replace HA := Lib.hid (HA.out.below hb (Nat.le_refl _) (Nat.le_refl _) hb.size)
       replace HY := Lib.hid (HY.out.below hb (Nat.le_refl _) (Nat.le_refl _) hb.size)
       have HS := Lib.hid (hs.carry (Nat.zero_le _) (Nat.le_refl _) (fun _ _ _ => rfl))
       clear hs hb HAC HRA HK
       obtain ⟨bB, hbB⟩ : ∃ bB, bB = w23.heap.size := ⟨_, rfl⟩
       obtain ⟨w24, hw24⟩ : ∃ w24, w24 = w23.alloc (.cells #[.int .i64 tt, .slice ja al.length jc] 30) := ⟨_, rfl⟩
       have hbx : Below w23.heap.size w23 w24 := by rw [hw24]; exact (Below.refl _ _).alloc (Nat.le_refl _) _
       have HXB := Lib.hid (heap_new_at hw24 hbB)
       replace HB := Lib.hid (HB.out.trans (hbx.mono HB.out.size))
       replace HXR := Lib.hid ((hbx.block _ (heap_lt HXR.out)).trans HXR.out)
       replace HXA := Lib.hid ((hbx.block _ (heap_lt HXA.out)).trans HXA.out)
       replace HXX := Lib.hid ((hbx.block _ (heap_lt HXX.out)).trans HXX.out)
       replace HXN := Lib.hid ((hbx.block _ (heap_lt HXN.out)).trans HXN.out)
       replace HI := Lib.hid (HI.out.below hbx (Nat.le_refl _) (Nat.le_refl _) hbx.size)
       replace HA := Lib.hid (HA.out.below hbx (Nat.le_refl _) (Nat.le_refl _) hbx.size)
       replace HY := Lib.hid (HY.out.below hbx (Nat.le_refl _) (Nat.le_refl _) hbx.size)
       replace HS := Lib.hid (HS.out.below hbx (Nat.le_refl _) (Nat.le_refl _) hbx.size)
       have Hw24 := Lib.hid (And.intro hw24 hbB)
       clear hbx hw24 hbB
       go_upto_region 20 with fail
       rw [← Hw24.out.1, ← Hw24.out.2]
       clear Hw24
       have HSC := Lib.hid (ref22Same v e l t1 tt t3 d1 al d3 kb h1 h2 h3 kd g1 g2 g3 v e l t1 tt t3 d1 al d3 ka i1 aa i3 kc c1 ac c3 w24 HY.out ⟨HI.out.keys, HI.out.a, HA.out, HI.out.c⟩ (rootFits_may HMP.out) (rootFits_may HMP.out))
       rw [sameRoot_self] at HSC
       obtain ⟨xX0, xX1, xX2, xX3, xX4, xX5, xX6, xX7, xX8⟩ := boxc9 HXX.out
       obtain ⟨xN0, xN1, xN2, xN3, xN4, xN5, xN6, xN7, xN8⟩ := boxc9 HXN.out
       go_wp2_with fail
       refine (HSC.out).mono ?_
       clear xX0 xX1 xX2 xX3 xX4 xX5 xX6 xX7 xX8
       clear xN0 xN1 xN2 xN3 xN4 xN5 xN6 xN7 xN8
       rintro ee w25 ⟨rfl, hb⟩
       replace HB := Lib.hid (HB.out.trans (hb.mono HB.out.size))
       replace HXR := Lib.hid ((hb.block _ (heap_lt HXR.out)).trans HXR.out)
       replace HXA := Lib.hid ((hb.block _ (heap_lt HXA.out)).trans HXA.out)
       replace HXX := Lib.hid ((hb.block _ (heap_lt HXX.out)).trans HXX.out)
       replace HXN := Lib.hid ((hb.block _ (heap_lt HXN.out)).trans HXN.out)
       replace HXB := Lib.hid ((hb.block _ (heap_lt HXB.out)).trans HXB.out)
       replace HI := Lib.hid (HI.out.below hb (Nat.le_refl _) (Nat.le_refl _) hb.size)
       replace HA := Lib.hid (HA.out.below hb (Nat.le_refl _) (Nat.le_refl _) hb.size)
       replace HY := Lib.hid (HY.out.below hb (Nat.le_refl _) (Nat.le_refl _) hb.size)
       replace HS := Lib.hid (HS.out.below hb (Nat.le_refl _) (Nat.le_refl _) hb.size)
       clear hb HSC
       have HSC := Lib.hid (ref15Same tt tt al al ja aa jc ac w25 HS.out HA.out (authFits_may HMA2.out).2.1 (authFits_may HMA2.out).2.1)
       rw [decide_eq_true rfl] at HSC
       obtain ⟨xB0, xB1⟩ := boxc2 HXB.out
       obtain ⟨xA0, xA1⟩ := boxc2 HXA.out
       go_wp2_with fail
       refine (HSC.out).mono ?_
       clear xB0 xB1
       clear xA0 xA1
       rintro ee w26 ⟨rfl, hb⟩
       replace HB := Lib.hid (HB.out.trans (hb.mono HB.out.size))
       replace HXR := Lib.hid ((hb.block _ (heap_lt HXR.out)).trans HXR.out)
       replace HXA := Lib.hid ((hb.block _ (heap_lt HXA.out)).trans HXA.out)
       replace HXX := Lib.hid ((hb.block _ (heap_lt HXX.out)).trans HXX.out)
       replace HXN := Lib.hid ((hb.block _ (heap_lt HXN.out)).trans HXN.out)
       replace HXB := Lib.hid ((hb.block _ (heap_lt HXB.out)).trans HXB.out)
       replace HI := Lib.hid (HI.out.below hb (Nat.le_refl _) (Nat.le_refl _) hb.size)
       replace HA := Lib.hid (HA.out.below hb (Nat.le_refl _) (Nat.le_refl _) hb.size)
       replace HY := Lib.hid (HY.out.below hb (Nat.le_refl _) (Nat.le_refl _) hb.size)
       replace HS := Lib.hid (HS.out.below hb (Nat.le_refl _) (Nat.le_refl _) hb.size)
       clear hb HSC
       have HBZ := Lib.hid (HB.out)
       go_wp2
       go_ret
       exact ⟨rfl, HBZ.out⟩
      ·
       obtain ⟨⟨y1, z1⟩, ⟨y2, z2⟩, ⟨y3, z3⟩⟩ : ((p1 = t1 ∧ f1 = d1) ∧ (p2 = t2 ∧ f2 = d2) ∧ (p3 = tt ∧ f3 = al)) := by
        have h := HPP.out
        simp only [Auth3.put] at h
        simpa using h
       subst p1 f1 p2 f2 p3 f3
       have hu1 : which % 3 = 2 := hkk
       rw [hu1] at hu0
       have s7 : w21.frozen? ⟨bN, 7, none⟩ = false := by simp [World.frozen?, HXN.out]
       have s8 : w21.frozen? ⟨bN, 8, none⟩ = false := by simp [World.frozen?, HXN.out]
       obtain ⟨xA0, xA1⟩ := boxc2 HXA.out
       obtain ⟨xN0, xN1, xN2, xN3, xN4, xN5, xN6, xN7, xN8⟩ := boxc9 HXN.out
       go_upto_region 19 with fail
       clear xA0 xA1
       clear xN0 xN1 xN2 xN3 xN4 xN5 xN6 xN7 xN8
       clear s7 s8 hu0 hu1 hkk
       obtain ⟨w22, hw22⟩ : ∃ w22, w22 = (w21.setCell ⟨bN, 7, none⟩ (.int .i64 tt)).setCell ⟨bN, 8, none⟩ (.slice aa al.length ac) := ⟨_, rfl⟩
       rw [← hw22]
       have hxn : w22.heap[bN]? = some (.cells #[.int .i64 v, .int .i64 e, .slice ka l.length kc, .int .i64 t1, .slice i1 d1.length c1, .int .i64 t2, .slice i2 d2.length c2, .int .i64 tt, .slice aa al.length ac] 32 (0, 0)) := by
         rw [hw22]
         exact row9_heap ((((row9_of HXN.out).set 7 (.int .i64 tt)).set 8 (.slice aa al.length ac)).congr fun j hj => by rcases j with _ | _ | _ | _ | _ | _ | _ | _ | _ | j <;> first | rfl | omega)
       replace HL := Lib.hid (show Below w20.heap.size w20 w22 by rw [hw22]; exact (HL.out.setCell (Nat.le_of_eq HBN.out.symm) _).setCell (Nat.le_of_eq HBN.out.symm) _)
       clear HXN hw22
       obtain ⟨hb, qR, qA, qX, rHI, rHA, rHY⟩ := HK.out w22 HL.out
       replace HB := Lib.hid hb
       replace HXR := Lib.hid qR
       replace HXA := Lib.hid qA
       replace HXX := Lib.hid qX
       replace HI := Lib.hid rHI
       replace HA := Lib.hid rHA
       replace HY := Lib.hid rHY
       clear hb qR qA qX rHI rHA rHY
       have HXN := Lib.hid hxn
       clear hxn
       have HAC := Lib.hid (rootAuthF v e l t1 t2 tt d1 d2 al kb h1 h2 h3 kd g1 g2 g3 (roleN 2) w22 HY.out (rootFits_may HMP.out) (HTB.out w22 HB.out).2.2.2)
       rw [HRA.out] at HAC
       obtain ⟨xX0, xX1, xX2, xX3, xX4, xX5, xX6, xX7, xX8⟩ := boxc9 HXX.out
       go_wp2_with fail
       refine (HAC.out).mono ?_
       clear xX0 xX1 xX2 xX3 xX4 xX5 xX6 xX7 xX8
       rintro ee w23 ⟨ja, jc, h4, hs, hb⟩
       dsimp only at h4 hs
       subst h4
       replace HB := Lib.hid (HB.out.trans (hb.mono HB.out.size))
       replace HXR := Lib.hid ((hb.block _ (heap_lt HXR.out)).trans HXR.out)
       replace HXA := Lib.hid ((hb.block _ (heap_lt HXA.out)).trans HXA.out)
       replace HXX := Lib.hid ((hb.block _ (heap_lt HXX.out)).trans HXX.out)
       replace HXN := Lib.hid ((hb.block _ (heap_lt HXN.out)).trans HXN.out)
       replace HI := Lib.hid (HI.out.below hb (Nat.le_refl _) (Nat.le_refl _) hb.size)
       replace HA := Lib.hid (HA.out.below hb (Nat.le_refl _) (Nat.le_refl _) hb.size)
       replace HY := Lib.hid (HY.out.below hb (Nat.le_refl _) (Nat.le_refl _) hb.size)
       have HS := Lib.hid (hs.carry (Nat.zero_le _) (Nat.le_refl _) (fun _ _ _ => rfl))
       clear hs hb HAC HRA HK
       obtain ⟨bB, hbB⟩ : ∃ bB, bB = w23.heap.size := ⟨_, rfl⟩
       obtain ⟨w24, hw24⟩ : ∃ w24, w24 = w23.alloc (.cells #[.int .i64 tt, .slice ja al.length jc] 30) := ⟨_, rfl⟩
       have hbx : Below w23.heap.size w23 w24 := by rw [hw24]; exact (Below.refl _ _).alloc (Nat.le_refl _) _
       have HXB := Lib.hid (heap_new_at hw24 hbB)
       replace HB := Lib.hid (HB.out.trans (hbx.mono HB.out.size))
       replace HXR := Lib.hid ((hbx.block _ (heap_lt HXR.out)).trans HXR.out)
       replace HXA := Lib.hid ((hbx.block _ (heap_lt HXA.out)).trans HXA.out)
       replace HXX := Lib.hid ((hbx.block _ (heap_lt HXX.out)).trans HXX.out)
       replace HXN := Lib.hid ((hbx.block _ (heap_lt HXN.out)).trans HXN.out)
       replace HI := Lib.hid (HI.out.below hbx (Nat.le_refl _) (Nat.le_refl _) hbx.size)
       replace HA := Lib.hid (HA.out.below hbx (Nat.le_refl _) (Nat.le_refl _) hbx.size)
       replace HY := Lib.hid (HY.out.below hbx (Nat.le_refl _) (Nat.le_refl _) hbx.size)
       replace HS := Lib.hid (HS.out.below hbx (Nat.le_refl _) (Nat.le_refl _) hbx.size)
       have Hw24 := Lib.hid (And.intro hw24 hbB)
       clear hbx hw24 hbB
       go_upto_region 20 with fail
       rw [← Hw24.out.1, ← Hw24.out.2]
       clear Hw24
       have HSC := Lib.hid (ref22Same v e l t1 t2 tt d1 d2 al kb h1 h2 h3 kd g1 g2 g3 v e l t1 t2 tt d1 d2 al ka i1 i2 aa kc c1 c2 ac w24 HY.out ⟨HI.out.keys, HI.out.a, HI.out.b, HA.out⟩ (rootFits_may HMP.out) (rootFits_may HMP.out))
       rw [sameRoot_self] at HSC
       obtain ⟨xX0, xX1, xX2, xX3, xX4, xX5, xX6, xX7, xX8⟩ := boxc9 HXX.out
       obtain ⟨xN0, xN1, xN2, xN3, xN4, xN5, xN6, xN7, xN8⟩ := boxc9 HXN.out
       go_wp2_with fail
       refine (HSC.out).mono ?_
       clear xX0 xX1 xX2 xX3 xX4 xX5 xX6 xX7 xX8
       clear xN0 xN1 xN2 xN3 xN4 xN5 xN6 xN7 xN8
       rintro ee w25 ⟨rfl, hb⟩
       replace HB := Lib.hid (HB.out.trans (hb.mono HB.out.size))
       replace HXR := Lib.hid ((hb.block _ (heap_lt HXR.out)).trans HXR.out)
       replace HXA := Lib.hid ((hb.block _ (heap_lt HXA.out)).trans HXA.out)
       replace HXX := Lib.hid ((hb.block _ (heap_lt HXX.out)).trans HXX.out)
       replace HXN := Lib.hid ((hb.block _ (heap_lt HXN.out)).trans HXN.out)
       replace HXB := Lib.hid ((hb.block _ (heap_lt HXB.out)).trans HXB.out)
       replace HI := Lib.hid (HI.out.below hb (Nat.le_refl _) (Nat.le_refl _) hb.size)
       replace HA := Lib.hid (HA.out.below hb (Nat.le_refl _) (Nat.le_refl _) hb.size)
       replace HY := Lib.hid (HY.out.below hb (Nat.le_refl _) (Nat.le_refl _) hb.size)
       replace HS := Lib.hid (HS.out.below hb (Nat.le_refl _) (Nat.le_refl _) hb.size)
       clear hb HSC
       have HSC := Lib.hid (ref15Same tt tt al al ja aa jc ac w25 HS.out HA.out (authFits_may HMA2.out).2.1 (authFits_may HMA2.out).2.1)
       rw [decide_eq_true rfl] at HSC
       obtain ⟨xB0, xB1⟩ := boxc2 HXB.out
       obtain ⟨xA0, xA1⟩ := boxc2 HXA.out
       go_wp2_with fail
       refine (HSC.out).mono ?_
       clear xB0 xB1
       clear xA0 xA1
       rintro ee w26 ⟨rfl, hb⟩
       replace HB := Lib.hid (HB.out.trans (hb.mono HB.out.size))
       replace HXR := Lib.hid ((hb.block _ (heap_lt HXR.out)).trans HXR.out)
       replace HXA := Lib.hid ((hb.block _ (heap_lt HXA.out)).trans HXA.out)
       replace HXX := Lib.hid ((hb.block _ (heap_lt HXX.out)).trans HXX.out)
       replace HXN := Lib.hid ((hb.block _ (heap_lt HXN.out)).trans HXN.out)
       replace HXB := Lib.hid ((hb.block _ (heap_lt HXB.out)).trans HXB.out)
       replace HI := Lib.hid (HI.out.below hb (Nat.le_refl _) (Nat.le_refl _) hb.size)
       replace HA := Lib.hid (HA.out.below hb (Nat.le_refl _) (Nat.le_refl _) hb.size)
       replace HY := Lib.hid (HY.out.below hb (Nat.le_refl _) (Nat.le_refl _) hb.size)
       replace HS := Lib.hid (HS.out.below hb (Nat.le_refl _) (Nat.le_refl _) hb.size)
       clear hb HSC
       have HBZ := Lib.hid (HB.out)
       go_wp2
       go_ret
       exact ⟨rfl, HBZ.out⟩
end Go.Proofs.YtnlgmcapbbgelaaGreatDoor
