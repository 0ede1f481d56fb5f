/- The law RootKeys: the call returns true. Printed by genrootkeys.py. -/
import Derived.Test.YtnlgmcapbbgelaaGreatDoorRk42
import Derived.Test.YtnlgmcapbbgelaaGreatDoorRk21
import Derived.Test.YtnlgmcapbbgelaaGreatDoorRk36
import Derived.Test.YtnlgmcapbbgelaaGreatDoorRk33
import Derived.Test.YtnlgmcapbbgelaaGreatDoorRk25
import Derived.Test.YtnlgmcapbbgelaaGreatDoorRk20
import Derived.Test.YtnlgmcapbbgelaaGreatDoorRk35
import Derived.Test.YtnlgmcapbbgelaaGreatDoorRk03
import Derived.Test.YtnlgmcapbbgelaaGreatDoorRk02
import Derived.Test.YtnlgmcapbbgelaaGreatDoorRk00

namespace Go.Proofs.YtnlgmcapbbgelaaGreatDoor
open Go.RowKit Go.Shelf Go.Sort
theorem flatK_len2 (L : List Key2) : (L.flatMap encK).length = L.length * 2 := by
 induction L with
 | nil => rfl
 | cons v r ih => rw [List.flatMap_cons, List.length_append, ih]; show 2 + r.length * 2 = (r.length + 1) * 2; omega
theorem encK_one2 (L : List Key2) : ∀ v ∈ L.flatMap encK, v.oneCell' = true := by
 intro v hv
 obtain ⟨q, _, hq⟩ := List.mem_flatMap.1 hv
 simp only [encK, List.mem_cons, List.not_mem_nil, or_false] at hq
 rcases hq with rfl | rfl <;> rfl
theorem root_find {r : RootV} (hm : mayRoot r = true) (j : Nat) (hj : j < r.keys.length) : ok2 r.keys[j] = true ∧ findK (id2 r.keys[j]) r.keys = (r.keys[j], true) := by
 obtain ⟨_, _, hk, _⟩ := mayRoot_parts.1 hm
 obtain ⟨_, h2, h3⟩ := mayKeys_parts.1 hk
 exact ⟨h2 _ (List.getElem_mem hj), findK_mem (List.getElem_mem hj) h2 (rises_nodup h3)⟩
set_option maxHeartbeats 8000000 in
set_option maxRecDepth 100000 in
theorem lawRootKeys (v e : Int) (l : List Key2) (t1 t2 t3 : Int) (d1 d2 d3 : List ByteArray) (ka i1 i2 i3 : Option Addr) (kc c1 c2 c3 : Nat) (which : Int) (w : World) (hw0 : 0 ≤ which) (hw1 : which ≤ 255) (hI : RootIn w 0 w.heap.size ⟨v, e, l, ⟨⟨t1, d1⟩, ⟨t2, d2⟩, ⟨t3, d3⟩⟩⟩ ka i1 i2 i3) (hkc : l.length ≤ kc) (hl : l.length ≤ 9223372036854775807) (l1 : d1.length ≤ 9223372036854775807) (l2 : d2.length ≤ 9223372036854775807) (l3 : d3.length ≤ 9223372036854775807)
   (hbv : -9223372036854775808 ≤ v ∧ v ≤ 9223372036854775807) (hbe : -9223372036854775808 ≤ e ∧ e ≤ 9223372036854775807) (hb1 : -9223372036854775808 ≤ t1 ∧ t1 ≤ 9223372036854775807) (hb2 : -9223372036854775808 ≤ t2 ∧ t2 ≤ 9223372036854775807) (hb3 : -9223372036854775808 ≤ t3 ∧ t3 ≤ 9223372036854775807)
   (hT : Tabs w) (hTW : TabW w) (hP : Pow10 w) (hTP : TopsW w) :
   Calls Tryz.prog 9 #[.agg #[.int .i64 v, .int .i64 e, .slice ka l.length kc, .int .i64 t1, .slice i1 d1.length c1, .int .i64 t2, .slice i2 d2.length c2, .int .i64 t3, .slice i3 d3.length c3], .int .u8 which] w fun e w' => e = .returned (.bool true) ∧ Below w.heap.size w w' := by
 have HTB := Lib.hid (show ∀ w' : World, Below w.heap.size w w' → Tabs w' ∧ TabW w' ∧ Pow10 w' ∧ TopsW w' from fun w' h => ⟨hT.below h, hTW.below h, hP.below h, hTP.below h⟩)
 have HB := Lib.hid (Below.refl w.heap.size w)
 have HI := Lib.hid hI
 have HWW := Lib.hid (And.intro hw0 hw1)
 have HKC := Lib.hid hkc
 have HBD := Lib.hid (And.intro hbv (And.intro hbe (And.intro hb1 (And.intro hb2 hb3))))
 clear hT hTW hP hTP hI hw0 hw1 hkc hbv hbe hb1 hb2 hb3
 go_enter Tryz.func9, Tryz.ntmps9
 obtain ⟨g0, hg0⟩ : ∃ g0, g0 = w.heap.size := ⟨_, rfl⟩
 obtain ⟨w1, hw1⟩ : ∃ w1, w1 = w.alloc (.cells #[.int .i64 v, .int .i64 e, .slice ka l.length kc, .int .i64 t1, .slice i1 d1.length c1, .int .i64 t2, .slice i2 d2.length c2, .int .i64 t3, .slice i3 d3.length c3] 32) := ⟨_, rfl⟩
 have hbx : Below w.heap.size w w1 := by rw [hw1]; exact (Below.refl _ _).alloc (Nat.le_refl _) _
 have HXR := Lib.hid (show w1.heap[g0]? = some (.cells #[.int .i64 v, .int .i64 e, .slice ka l.length kc, .int .i64 t1, .slice i1 d1.length c1, .int .i64 t2, .slice i2 d2.length c2, .int .i64 t3, .slice i3 d3.length c3] 32 (0, 0)) by rw [hw1, hg0]; exact heap_alloc_new w _)
 replace HB := Lib.hid (HB.out.trans (hbx.mono HB.out.size))
 replace HI := Lib.hid (HI.out.below hbx (Nat.le_refl _) (Nat.le_refl _) hbx.size)
 have Hw1 := Lib.hid (And.intro hw1 hg0)
 clear hbx hw1 hg0
 go_upto_region 1 with fail
 rw [← Hw1.out.1, ← Hw1.out.2]
 clear Hw1
 have xR0 := box_cell HXR.out (j := 0) rfl; have xR1 := box_cell HXR.out (j := 1) rfl; have xR2 := box_cell HXR.out (j := 2) rfl; have xR3 := box_cell HXR.out (j := 3) rfl; have xR4 := box_cell HXR.out (j := 4) rfl; have xR5 := box_cell HXR.out (j := 5) rfl; have xR6 := box_cell HXR.out (j := 6) rfl; have xR7 := box_cell HXR.out (j := 7) rfl; have xR8 := box_cell HXR.out (j := 8) rfl
 go_wp2_with fail
 refine (lawLong22 v e l t1 t2 t3 d1 d2 d3 ka i1 i2 i3 kc c1 c2 c3 w1 HI.out hl l1 l2 l3).mono ?_
 clear xR0 xR1 xR2 xR3 xR4 xR5 xR6 xR7 xR8
 rintro e w2 ⟨b, rfl, hn, hb⟩
 replace HB := Lib.hid (HB.out.trans (hb.mono HB.out.size))
 replace HXR := Lib.hid ((hb.block _ (heap_lt HXR.out)).trans HXR.out)
 replace HI := Lib.hid (HI.out.below hb (Nat.le_refl _) (Nat.le_refl _) hb.size)
 have HN := Lib.hid hn
 clear hn hb
 cases b
 case true =>
   go_wp2_with fail
   refine (lawAwake22 w2 (HTB.out w2 HB.out).1 (HTB.out w2 HB.out).2.1 (HTB.out w2 HB.out).2.2.1 (HTB.out w2 HB.out).2.2.2).mono ?_
   rintro r wz ⟨rfl, hz⟩
   have HBZ := Lib.hid (HB.out.trans (hz.mono HB.out.size))
   clear hz
   go_wp2
   go_ret
   exact ⟨rfl, HBZ.out⟩
 case false =>
   have HF := Lib.hid (rootFits_long (HN.out rfl) HBD.out.1 HBD.out.2.1 HBD.out.2.2.1 HBD.out.2.2.2.1 HBD.out.2.2.2.2)
   clear HN
   obtain ⟨mb, hmb⟩ : ∃ mb, mb = mayRoot ⟨v, e, l, ⟨⟨t1, d1⟩, ⟨t2, d2⟩, ⟨t3, d3⟩⟩⟩ := ⟨_, rfl⟩
   have HM := Lib.hid (rootMay v e l t1 t2 t3 d1 d2 d3 ka i1 i2 i3 kc c1 c2 c3 w2 HI.out HF.out (HTB.out w2 HB.out).1 (HTB.out w2 HB.out).2.1 (HTB.out w2 HB.out).2.2.1)
   rw [← hmb] at HM
   have HMB := Lib.hid hmb
   clear hmb
   have xR0 := box_cell HXR.out (j := 0) rfl; have xR1 := box_cell HXR.out (j := 1) rfl; have xR2 := box_cell HXR.out (j := 2) rfl; have xR3 := box_cell HXR.out (j := 3) rfl; have xR4 := box_cell HXR.out (j := 4) rfl; have xR5 := box_cell HXR.out (j := 5) rfl; have xR6 := box_cell HXR.out (j := 6) rfl; have xR7 := box_cell HXR.out (j := 7) rfl; have xR8 := box_cell HXR.out (j := 8) rfl
   go_wp2_with fail
   refine (HM.out).mono ?_
   clear xR0 xR1 xR2 xR3 xR4 xR5 xR6 xR7 xR8
   rintro e w3 ⟨rfl, hb⟩
   clear HM
   replace HB := Lib.hid (HB.out.trans (hb.mono HB.out.size))
   replace HXR := Lib.hid ((hb.block _ (heap_lt HXR.out)).trans HXR.out)
   replace HI := Lib.hid (HI.out.below hb (Nat.le_refl _) (Nat.le_refl _) hb.size)
   clear hb
   cases mb
   case false =>
     go_wp2_with fail
     refine (lawAwake22 w3 (HTB.out w3 HB.out).1 (HTB.out w3 HB.out).2.1 (HTB.out w3 HB.out).2.2.1 (HTB.out w3 HB.out).2.2.2).mono ?_
     rintro r wz ⟨rfl, hz⟩
     have HBZ := Lib.hid (HB.out.trans (hz.mono HB.out.size))
     clear hz
     go_wp2
     go_ret
     exact ⟨rfl, HBZ.out⟩
   case true =>
     go_wp2_with fail
     refine (lawAwake22 w3 (HTB.out w3 HB.out).1 (HTB.out w3 HB.out).2.1 (HTB.out w3 HB.out).2.2.1 (HTB.out w3 HB.out).2.2.2).mono ?_
     rintro e w4 ⟨rfl, hb⟩
     replace HB := Lib.hid (HB.out.trans (hb.mono HB.out.size))
     replace HXR := Lib.hid ((hb.block _ (heap_lt HXR.out)).trans HXR.out)
     replace HI := Lib.hid (HI.out.below hb (Nat.le_refl _) (Nat.le_refl _) hb.size)
     clear hb
     have HI4 := Lib.hid (show ∀ w' : World, Below w4.heap.size w4 w' → RootIn w' 0 w'.heap.size ⟨v, e, l, ⟨⟨t1, d1⟩, ⟨t2, d2⟩, ⟨t3, d3⟩⟩⟩ ka i1 i2 i3 from fun w' h => HI.out.below h (Nat.le_refl _) (Nat.le_refl _) h.size)
     have HX4 := Lib.hid (show ∀ w' : World, Below w4.heap.size w4 w' → w'.heap[g0]? = some (.cells #[.int .i64 v, .int .i64 e, .slice ka l.length kc, .int .i64 t1, .slice i1 d1.length c1, .int .i64 t2, .slice i2 d2.length c2, .int .i64 t3, .slice i3 d3.length c3] 32 (0, 0)) from fun w' h => (h.block _ (heap_lt HXR.out)).trans HXR.out)
     have HT4 := Lib.hid (show ∀ w' : World, Below w4.heap.size w4 w' → Tabs w' ∧ TabW w' ∧ Pow10 w' ∧ TopsW w' from fun w' h => HTB.out w' (HB.out.trans (h.mono HB.out.size)))
     go_wp2
     go_loopw [5, 6, 7, 8, 9] (fun i _ _ _ _ wr => ∃ j : Nat, j ≤ l.length ∧ i = .int .i64 j ∧ Below w4.heap.size w4 wr) (fun i _ _ _ _ _ => l.length - (intOf i).toNat)
     case atStart => exact ⟨0, by omega, rfl, Below.refl _ _⟩
     case round =>
       obtain ⟨j, hj, rfl, hb⟩ := hrel
       have HBJ := Lib.hid hb
       clear hb
       have h40 := HF.out.len
       dsimp only at h40
       have x2 := box_cell (HX4.out wr HBJ.out) (j := 2) rfl
       by_cases hlt : j < l.length
       case pos =>
         obtain ⟨b1, o1, ha1, _, hbl1, e0, e1⟩ := (HI4.out wr HBJ.out).keys.at j hlt
         subst ha1
         dsimp only at e0 e1
         have HFK := Lib.hid (root_find HMB.out.symm j hlt)
         dsimp only at HFK
         have HKS := Lib.hid (HF.out.keys l[j] (List.getElem_mem hlt))
         have HCK := Lib.hid (show ∀ w' : World, Below wr.heap.size wr w' → w'.cell? ⟨b1, o1 + j * 2, none⟩ = some (.string l[j].1) ∧ w'.cell? ⟨b1, o1 + j * 2 + 1, none⟩ = some (.string l[j].2) from fun w' h => ⟨by rw [h.cell hbl1]; exact e0, by rw [h.cell hbl1]; exact e1⟩)
         obtain ⟨p, hp⟩ : ∃ p, p = l[j] := ⟨_, rfl⟩
         rw [← hp] at HFK HKS HCK e0 e1
         obtain ⟨ks, kp⟩ := p
         dsimp only at HFK HKS HCK e0 e1
         obtain ⟨id, hid⟩ : ∃ id, id = id2 (ks, kp) := ⟨_, rfl⟩
         have HKI := Lib.hid (keyID ks kp wr (by have := HKS.out.1; omega) (by have := HKS.out.2; omega) (HT4.out wr HBJ.out).1)
         have HKI2 := Lib.hid (show Calls Tryz.prog 39 #[.agg #[.string ks, .string kp]] wr (fun e w' => e = .returned (.tuple #[.string id, .int .i64 0]) ∧ Below wr.heap.size wr w') from HKI.out.mono fun e w' h => by
           obtain ⟨h1, h2⟩ := h
           have ho : keyOk ks.data.toList kp.data.toList = true := HFK.out.1
           rw [if_pos ho] at h1
           exact ⟨by rw [hid]; exact h1, h2⟩)
         rw [← hid] at HFK
         clear hp hid HKI
         go_wp2_with fail
         refine HKI2.out.mono ?_
         clear HKI2
         rintro r w5 ⟨rfl, hb5⟩
         have HB5 := Lib.hid hb5
         have HBJ5 := Lib.hid (HBJ.out.trans (hb5.mono HBJ.out.size))
         clear hb5 x2 e0 e1
         have x2 := box_cell (HX4.out w5 HBJ5.out) (j := 2) rfl
         have HFC := Lib.hid (keyFind l id (some ⟨b1, o1, none⟩) kc w5 (HI4.out w5 HBJ5.out).keys (by omega) HF.out.keys (HT4.out w5 HBJ5.out).1)
         unfold KFindPost at HFC
         rw [HFK.out.2] at HFC
         dsimp only at HFC
         go_wp2_with fail
         refine HFC.out.mono ?_
         clear HFC
         rintro r w6 ⟨rfl, hb6⟩
         have HB6 := Lib.hid (HB5.out.trans (hb6.mono HB5.out.size))
         obtain ⟨W7, hW7⟩ : ∃ W7, W7 = w6.alloc (.cells #[.string ks, .string kp] 38) := ⟨_, rfl⟩
         have hx7 : W7.heap[w6.heap.size]? = some (.cells #[.string ks, .string kp] 38 (0, 0)) := by rw [hW7]; exact heap_alloc_new w6 _
         have HB7 := Lib.hid (show Below wr.heap.size wr W7 by rw [hW7]; exact HB6.out.alloc HB6.out.size _)
         have HBJ7 := Lib.hid (HBJ.out.trans (HB7.out.mono HBJ.out.size))
         clear hb6 x2
         have x2 := box_cell (HX4.out W7 HBJ7.out) (j := 2) rfl
         have k0 := box_cell hx7 (j := 0) rfl
         have k1 := box_cell hx7 (j := 1) rfl
         obtain ⟨e0, e1⟩ := HCK.out W7 HB7.out
         clear hx7
         go_upto_region 8 with fail
         rw [← hW7]
         clear hW7
         go_quiet (fail)
         go_wp2
         exact ⟨⟨j + 1, by omega, by go_num, Below.drewN HBJ7.out _⟩, by simp [intOf]; omega⟩
       case neg =>
         obtain rfl : j = l.length := by omega
         clear hlt hj
         by_cases h0 : l.length = 0
         case pos =>
           have hd : ((l.length : Int) == 0) = true := by simp [h0]
           go_wp2
           go_ret
           exact ⟨rfl, HB.out.trans (HBJ.out.mono HB.out.size)⟩
         case neg =>
           have hd : ((l.length : Int) == 0) = false := beq_eq_false_iff_ne.2 (by omega)
           obtain ⟨k, hk, hm1, hm2⟩ : ∃ k : Nat, k < l.length ∧ which.tmod (l.length : Int) = (k : Int) ∧ which % (l.length : Int) = (k : Int) := by
             have h1 : which.tmod (l.length : Int) = which % (l.length : Int) := Int.tmod_eq_emod_of_nonneg HWW.out.1
             have h2 := Int.emod_nonneg which (show (l.length : Int) ≠ 0 by omega)
             have h3 := Int.emod_lt_of_pos which (show (0 : Int) < l.length by omega)
             rw [h1]
             generalize which % (l.length : Int) = q at *
             exact ⟨q.toNat, by omega, by omega, by omega⟩
           have hm3 : IntKind.i64.wrap (k : Int) = (k : Int) := IntWalk.i64_in _ (by omega)
           have hm0 : IntKind.i64.wrap which = which := IntWalk.i64_in _ (by have := HWW.out; omega)
           have HB4 := Lib.hid (HB.out.trans (HBJ.out.mono HB.out.size))
           obtain ⟨W6, hW6⟩ : ∃ W6, W6 = wr.alloc (.cells #[.int .i64 v, .int .i64 e, .slice ka l.length kc, .int .i64 t1, .slice i1 d1.length c1, .int .i64 t2, .slice i2 d2.length c2, .int .i64 t3, .slice i3 d3.length c3] 32) := ⟨_, rfl⟩
           have hx7 : W6.heap[wr.heap.size]? = some (.cells #[.int .i64 v, .int .i64 e, .slice ka l.length kc, .int .i64 t1, .slice i1 d1.length c1, .int .i64 t2, .slice i2 d2.length c2, .int .i64 t3, .slice i3 d3.length c3] 32 (0, 0)) := by rw [hW6]; exact heap_alloc_new wr _
           have hb7 : Below wr.heap.size wr W6 := by rw [hW6]; exact (Below.refl _ _).alloc (Nat.le_refl _) _
           have HX6 := Lib.hid hx7
           have HR6 := Lib.hid (show W6.rowIs wr.heap.size 32 9 (pick9 (.int .i64 v) (.int .i64 e) (.slice ka l.length kc) (.int .i64 t1) (.slice i1 d1.length c1) (.int .i64 t2) (.slice i2 d2.length c2) (.int .i64 t3) (.slice i3 d3.length c3)) by rw [hW6]; exact rowIs_box9 _ _ _ _ _ _ _ _ _ _ _)
           have HB6 := Lib.hid hb7
           have HW6 := Lib.hid hW6
           clear hx7 hb7 hW6 x2
           obtain ⟨hy, hY⟩ : ∃ hy, hy = HX4.out wr HBJ.out := ⟨_, rfl⟩
           clear hY
           have x0 := box_cell hy (j := 0) rfl; have x1 := box_cell hy (j := 1) rfl; have x2 := box_cell hy (j := 2) rfl; have x3 := box_cell hy (j := 3) rfl; have x4 := box_cell hy (j := 4) rfl; have x5 := box_cell hy (j := 5) rfl; have x6 := box_cell hy (j := 6) rfl; have x7 := box_cell hy (j := 7) rfl; have x8 := box_cell hy (j := 8) rfl
           clear hy
           go_upto_region 14 with fail
           rw [← HW6.out]
           clear HW6 x0 x1 x2 x3 x4 x5 x6 x7 x8
           have HC6 := Lib.hid (show ∀ w' : World, Below W6.heap.size W6 w' → w'.cell? ⟨g0, 2, none⟩ = some (.slice ka l.length kc) from fun w' h => box_cell (HX4.out w' (HBJ.out.trans ((HB6.out.trans (h.mono HB6.out.size)).mono HBJ.out.size))) rfl)
           obtain ⟨a2, k2, hs2, hq2⟩ := keys_behind (HI4.out W6 (HBJ.out.trans (HB6.out.mono HBJ.out.size))).keys (k + 1) kc HKC.out (by exact hk)
           have HSL := Lib.hid hs2
           have HKQ := Lib.hid (show ∀ w' : World, Below W6.heap.size W6 w' → KeysAt w' 0 w'.heap.size ka (l.take k) ∧ KeysAt w' 0 w'.heap.size a2 (l.drop (k + 1)) from fun w' h => ⟨(keys_first (HI4.out W6 (HBJ.out.trans (HB6.out.mono HBJ.out.size))).keys k).below h (Nat.le_refl _) (Nat.le_refl _) h.size, hq2.below h (Nat.le_refl _) (Nat.le_refl _) h.size⟩)
           obtain ⟨j1, hj1, hy0, hy1, hy2⟩ := info_parts infoKey
           have hkc : l.length ≤ kc := HKC.out
           have hkc2 : k ≤ kc := by omega
           have hw49 : IntKind.i64.wrap ((k : Int) + 1) = (k : Int) + 1 := IntWalk.i64_in _ (by omega)
           clear hs2 hq2 hm0 hm1 hm2 hm3
           obtain ⟨V, hV⟩ : ∃ V : List (Option Value), V = [none, some (.pointer (some ⟨g0, 2, none⟩)), some (.slice ka l.length kc), some (.int .i64 (k : Int)), some (.slice ka k kc), none, some (.pointer (some ⟨g0, 2, none⟩)), some (.slice ka l.length kc), some (.int .i64 (k : Int)), some (.int .i64 ((k : Int) + 1)), some (.slice a2 (l.length - (k + 1)) k2), none, some (.pointer (some ⟨wr.heap.size, 2, none⟩))] := ⟨_, rfl⟩
           have HV := Lib.hid hV
           clear hV
           refine wp_region_inv 13 (fun d a' w' => ∃ x73 x74 x75 x76 x77 x78 x79 x80 x81 x82 x83 x84 x85, a' = ⟨#[Value.agg #[Value.int IntKind.i64 v, Value.int IntKind.i64 e, Value.slice ka l.length kc, Value.int IntKind.i64 t1, Value.slice i1 d1.length c1, Value.int IntKind.i64 t2, Value.slice i2 d2.length c2, Value.int IntKind.i64 t3, Value.slice i3 d3.length c3], Value.int IntKind.u8 which, Value.pointer (some { block := g0, off := 0 }), undef, u4, Value.int IntKind.i64 (l.length : Int), u6, u7, u8, u9, Value.int IntKind.i64 (k : Int), Value.pointer (some { block := wr.heap.size, off := 0 }), Value.agg #[Value.int IntKind.i64 v, Value.int IntKind.i64 e, Value.slice ka l.length kc, Value.int IntKind.i64 t1, Value.slice i1 d1.length c1, Value.int IntKind.i64 t2, Value.slice i2 d2.length c2, Value.int IntKind.i64 t3, Value.slice i3 d3.length c3], Value.bool false, Value.bool false, Value.agg #[Value.int IntKind.i64 v, Value.int IntKind.i64 e, Value.slice ka l.length kc, Value.int IntKind.i64 t1, Value.slice i1 d1.length c1, Value.int IntKind.i64 t2, Value.slice i2 d2.length c2, Value.int IntKind.i64 t3, Value.slice i3 d3.length c3], Value.bool true, Value.bool false, Value.bool false, Value.bool false, Value.bool true, Value.bool false, Value.bool false, undef, Value.int IntKind.i64 (l.length : Int), Value.pointer (some { block := g0, off := 2 }), Value.slice ka l.length kc, Value.int IntKind.i64 (l.length : Int), Value.bool false, u29, u30, u31, u32, u33, u34, u35, u36, u37, u38, u39, u40, u41, u42, u43, u44, u45, u46, u47, u48, u49, u50, u51, u52, u53, u54, u55, u56, u57, u58, u59, u60, u61, Value.pointer (some { block := g0, off := 2 }), Value.slice ka l.length kc, Value.int IntKind.i64 (l.length : Int), Value.bool false, Value.int IntKind.u8 which, Value.int IntKind.i64 which, Value.pointer (some { block := g0, off := 2 }), Value.slice ka l.length kc, Value.int IntKind.i64 (l.length : Int), Value.int IntKind.i64 (k : Int), Value.agg #[Value.int IntKind.i64 v, Value.int IntKind.i64 e, Value.slice ka l.length kc, Value.int IntKind.i64 t1, Value.slice i1 d1.length c1, Value.int IntKind.i64 t2, Value.slice i2 d2.length c2, Value.int IntKind.i64 t3, Value.slice i3 d3.length c3], x73, x74, x75, x76, x77, x78, x79, x80, x81, x82, x83, x84, x85, undef, undef, undef, undef, undef, undef, undef, undef], []⟩ ∧ ConQ W6 V d w' [x73, x74, x75, x76, x77, x78, x79, x80, x81, x82, x83, x84, x85] ∧ Two W6.heap.size 38 2 0 5 11 k (l.length - (k + 1)) ((l.take k).flatMap encK) ((l.drop (k + 1)).flatMap encK) d w' x73 x78 x84) (by kernel_rfl) (by kernel_rfl) ?first ?step ?last
           case first => exact ⟨_, _, _, _, _, _, _, _, _, _, _, _, _, rfl, ConQ.first _ _ _ (by rw [HV.out]; rfl), Two.first _ _ _ _⟩
           case step =>
             rintro d a' w' ⟨x73, x74, x75, x76, x77, x78, x79, x80, x81, x82, x83, x84, x85, rfl, h, ht⟩ q hq hn hw
             have hsz := h.1.size
             rcases q with _ | _ | _ | _ | _ | _ | _ | _ | _ | _ | _ | _ | _ | q
             · refine wpOp_step rfl fun K hK => ?_
               go_simp
               exact hK _ _ ⟨_, x74, x75, x76, x77, x78, x79, x80, x81, x82, x83, x84, x85, rfl, h.did (h.1.alloc h.1.size _) 0 _ none (by rw [HV.out]; rfl) (fun _ e => by cases e), ht.s0 (by decide) (by decide) h.1.size hn⟩
             · refine wpOp_step rfl fun K hK => ?_
               go_simp
               exact hK _ _ ⟨x73, _, x75, x76, x77, x78, x79, x80, x81, x82, x83, x84, x85, rfl, h.same 1 _ _ (by rw [HV.out]; rfl) rfl, ht.same 1 (by decide) (by decide) (by decide)⟩
             · obtain rfl : x74 = .pointer (some ⟨g0, 2, none⟩) := h.get 1 (hw _ rfl ⟨1, .data⟩ (by simp) rfl) (.pointer (some ⟨g0, 2, none⟩)) (by rw [HV.out]; rfl) _ rfl
               have q2 := HC6.out w' h.1
               refine wpOp_step rfl fun K hK => ?_
               go_simp
               exact hK _ _ ⟨x73, _, _, x76, x77, x78, x79, x80, x81, x82, x83, x84, x85, rfl, h.same 2 _ _ (by rw [HV.out]; rfl) rfl, ht.same 2 (by decide) (by decide) (by decide)⟩
             · refine wpOp_step rfl fun K hK => ?_
               go_simp
               exact hK _ _ ⟨x73, x74, x75, _, x77, x78, x79, x80, x81, x82, x83, x84, x85, rfl, h.same 3 _ _ (by rw [HV.out]; rfl) rfl, ht.same 3 (by decide) (by decide) (by decide)⟩
             · obtain rfl : x75 = .slice ka l.length kc := h.get 2 (hw _ rfl ⟨2, .data⟩ (by simp) rfl) (.slice ka l.length kc) (by rw [HV.out]; rfl) _ rfl
               obtain rfl : x76 = .int .i64 (k : Int) := h.get 3 (hw _ rfl ⟨3, .data⟩ (by simp) rfl) (.int .i64 (k : Int)) (by rw [HV.out]; rfl) _ rfl
               refine wpOp_step rfl fun K hK => ?_
               go_simp
               exact hK _ _ ⟨x73, x74, _, _, _, x78, x79, x80, x81, x82, x83, x84, x85, rfl, h.same 4 _ _ (by rw [HV.out]; rfl) rfl, ht.same 4 (by decide) (by decide) (by decide)⟩
             · obtain rfl : x77 = .slice ka k kc := h.get 4 (hw _ rfl ⟨4, .data⟩ (by simp) rfl) (.slice ka k kc) (by rw [HV.out]; rfl) _ rfl
               have hd73 : d 0 := hw _ rfl ⟨0, .data⟩ (by simp) rfl
               refine wpOp_step rfl fun K hK => ?_
               have ho := ht.own0 hd73 hn
               refine wp_append_any (.tmp 73) (.tmp 77) 28 rfl W6.heap.size 38 j1 _ 2 32 Tryz.underlying28 hj1 hy0 hy1 hy2 rfl (by omega) x73 0 [] rfl ho ka k kc ((l.take k).flatMap encK) rfl (by rw [flatK_len2]; simp only [List.length_take]; omega) (fun h0 => news_keysW (HKQ.out w' h.1).1 (by simp only [List.length_take]; omega)) (fun u hu => encK_one2 _ u hu) (by unfold maxLen; omega) (by omega) hsz _ rfl ?_
               intro a5 c5 w5 ho5 hg5 hat5
               simp only [Nat.zero_add, List.nil_append] at ho5 ⊢
               exact hK _ _ ⟨x73, x74, x75, x76, _, _, x79, x80, x81, x82, x83, x84, x85, rfl, h.did (below_grown h.1 hsz hg5 (fun b hb => (ho.lt b hb).1)) 5 _ none (by rw [HV.out]; rfl) (fun _ e => by cases e), ht.s1 (by decide) hd73 hn ho5⟩
             · refine wpOp_step rfl fun K hK => ?_
               go_simp
               exact hK _ _ ⟨x73, x74, x75, x76, x77, x78, _, x80, x81, x82, x83, x84, x85, rfl, h.same 6 _ _ (by rw [HV.out]; rfl) rfl, ht.same 6 (by decide) (by decide) (by decide)⟩
             · obtain rfl : x79 = .pointer (some ⟨g0, 2, none⟩) := h.get 6 (hw _ rfl ⟨6, .data⟩ (by simp) rfl) (.pointer (some ⟨g0, 2, none⟩)) (by rw [HV.out]; rfl) _ rfl
               have q2 := HC6.out w' h.1
               refine wpOp_step rfl fun K hK => ?_
               go_simp
               exact hK _ _ ⟨x73, x74, x75, x76, x77, x78, _, _, x81, x82, x83, x84, x85, rfl, h.same 7 _ _ (by rw [HV.out]; rfl) rfl, ht.same 7 (by decide) (by decide) (by decide)⟩
             · refine wpOp_step rfl fun K hK => ?_
               go_simp
               exact hK _ _ ⟨x73, x74, x75, x76, x77, x78, x79, x80, _, x82, x83, x84, x85, rfl, h.same 8 _ _ (by rw [HV.out]; rfl) rfl, ht.same 8 (by decide) (by decide) (by decide)⟩
             · obtain rfl : x81 = .int .i64 (k : Int) := h.get 8 (hw _ rfl ⟨8, .data⟩ (by simp) rfl) (.int .i64 (k : Int)) (by rw [HV.out]; rfl) _ rfl
               refine wpOp_step rfl fun K hK => ?_
               go_simp
               exact hK _ _ ⟨x73, x74, x75, x76, x77, x78, x79, x80, _, _, x83, x84, x85, rfl, h.same 9 _ _ (by rw [HV.out]; rfl) rfl, ht.same 9 (by decide) (by decide) (by decide)⟩
             · obtain rfl : x80 = .slice ka l.length kc := h.get 7 (hw _ rfl ⟨7, .data⟩ (by simp) rfl) (.slice ka l.length kc) (by rw [HV.out]; rfl) _ rfl
               obtain rfl : x82 = .int .i64 ((k : Int) + 1) := h.get 9 (hw _ rfl ⟨9, .data⟩ (by simp) rfl) (.int .i64 ((k : Int) + 1)) (by rw [HV.out]; rfl) _ rfl
               refine wpOp_step rfl fun K hK => ?_
               go_simp
               rw [if_pos (by omega)]
               rw [show Value.slice (if kc = k + 1 then ka else Option.map (fun x => x.add ((k + 1) * 2)) ka) (l.length - (k + 1)) (kc - (k + 1)) = .slice a2 (l.length - (k + 1)) k2 from HSL.out]
               exact hK _ _ ⟨x73, x74, x75, x76, x77, x78, x79, _, x81, _, _, x84, x85, rfl, h.same 10 _ _ (by rw [HV.out]; rfl) rfl, ht.same 10 (by decide) (by decide) (by decide)⟩
             · obtain rfl : x83 = .slice a2 (l.length - (k + 1)) k2 := h.get 10 (hw _ rfl ⟨10, .data⟩ (by simp) rfl) (.slice a2 (l.length - (k + 1)) k2) (by rw [HV.out]; rfl) _ rfl
               have hd78 : d 5 := hw _ rfl ⟨5, .data⟩ (by simp) rfl
               refine wpOp_step rfl fun K hK => ?_
               have ho := ht.own1 hd78 hn
               refine wp_append_any (.tmp 78) (.tmp 83) 28 rfl W6.heap.size 38 j1 _ 2 32 Tryz.underlying28 hj1 hy0 hy1 hy2 rfl (by omega) x78 k ((l.take k).flatMap encK) rfl ho a2 (l.length - (k + 1)) k2 ((l.drop (k + 1)).flatMap encK) rfl (by rw [flatK_len2, List.length_drop]) (fun h0 => news_keysW (HKQ.out w' h.1).2 (by simp only [List.length_drop]; omega)) (fun u hu => encK_one2 _ u hu) (by unfold maxLen; omega) (by omega) hsz _ rfl ?_
               intro a5 c5 w5 ho5 hg5 hat5
               exact hK _ _ ⟨x73, x74, x75, x76, x77, x78, x79, x80, x81, x82, _, _, x85, rfl, h.did (below_grown h.1 hsz hg5 (fun b hb => (ho.lt b hb).1)) 11 _ none (by rw [HV.out]; rfl) (fun _ e => by cases e), ht.s2 hd78 ho5⟩
             · refine wpOp_step rfl fun K hK => ?_
               go_simp
               exact hK _ _ ⟨x73, x74, x75, x76, x77, x78, x79, x80, x81, x82, x83, x84, _, rfl, h.same 12 _ _ (by rw [HV.out]; rfl) rfl, ht.same 12 (by decide) (by decide) (by decide)⟩
             · omega
           case last =>
             rintro d a' w' hall ⟨x73, x74, x75, x76, x77, x78, x79, x80, x81, x82, x83, x84, x85, rfl, h, ht⟩
             obtain rfl : x85 = .pointer (some ⟨wr.heap.size, 2, none⟩) := h.get 12 (hall _ (by omega)) (.pointer (some ⟨wr.heap.size, 2, none⟩)) (by rw [HV.out]; rfl) _ rfl
             have ho9 := ht.own2 (hall _ (by omega))
             have HB79 := Lib.hid h.1
             clear h ht hall HV
             rw [← List.flatMap_append, show l.take k ++ l.drop (k + 1) = l.eraseIdx k from (List.eraseIdx_eq_take_drop_succ l k).symm] at ho9
             obtain ⟨M, hM⟩ : ∃ M, M = l.eraseIdx k := ⟨_, rfl⟩
             rw [← hM] at ho9
             have hnM : k + (l.length - (k + 1)) = M.length := by rw [hM, List.length_eraseIdx, if_pos hk]; omega
             obtain ⟨a9, c9, rfl, hk9⟩ := owns_keys ho9 hnM
             have hres : w'.rowIs wr.heap.size 32 9 (pick9 (.int .i64 v) (.int .i64 e) (.slice ka l.length kc) (.int .i64 t1) (.slice i1 d1.length c1) (.int .i64 t2) (.slice i2 d2.length c2) (.int .i64 t3) (.slice i3 d3.length c3)) := below_row HB79.out HR6.out (heap_lt HX6.out)
             obtain ⟨W10, hW10⟩ : ∃ W10, W10 = w'.setCell ⟨wr.heap.size, 2, none⟩ (.slice a9 M.length c9) := ⟨_, rfl⟩
             have hx10 : W10.heap[wr.heap.size]? = some (.cells #[.int .i64 v, .int .i64 e, .slice a9 M.length c9, .int .i64 t1, .slice i1 d1.length c1, .int .i64 t2, .slice i2 d2.length c2, .int .i64 t3, .slice i3 d3.length c3] 32 (0, 0)) := by
               rw [hW10]
               exact row9_heap ((hres.set 2 (.slice a9 M.length c9)).congr fun j hj => by rcases j with _ | _ | _ | _ | _ | _ | _ | _ | _ | j <;> first | rfl | omega)
             have hlt6 : wr.heap.size < W6.heap.size := heap_lt HX6.out
             have hb10 : Below wr.heap.size wr W10 := by rw [hW10]; exact (HB6.out.trans (HB79.out.mono HB6.out.size)).setCell (Nat.le_refl _) _
             have hk10 : KeysAt W10 0 W10.heap.size a9 M := hk9.carry (Nat.zero_le _) (by rw [hW10]; simp [World.setCell]) (fun b h1 _ => by rw [hW10]; exact Below.heap_setCell _ _ _ _ (show b ≠ wr.heap.size by omega))
             have HBW := Lib.hid (HBJ.out.trans (hb10.mono HBJ.out.size))
             have HI10 := Lib.hid (show ∀ w' : World, Below W10.heap.size W10 w' → RootIn w' 0 w'.heap.size ⟨v, e, M, ⟨⟨t1, d1⟩, ⟨t2, d2⟩, ⟨t3, d3⟩⟩⟩ a9 i1 i2 i3 from fun w' h => by
               obtain ⟨_, h2, h3, h4⟩ := HI4.out w' (HBW.out.trans (h.mono HBW.out.size))
               exact ⟨hk10.below h (Nat.le_refl _) (Nat.zero_le _) h.size, h2, h3, h4⟩)
             have HX10 := Lib.hid (show ∀ w' : World, Below W10.heap.size W10 w' → w'.heap[wr.heap.size]? = some (.cells #[.int .i64 v, .int .i64 e, .slice a9 M.length c9, .int .i64 t1, .slice i1 d1.length c1, .int .i64 t2, .slice i2 d2.length c2, .int .i64 t3, .slice i3 d3.length c3] 32 (0, 0)) from fun w' h => (h.block _ (heap_lt hx10)).trans hx10)
             have HI40 := Lib.hid (show ∀ w' : World, Below W10.heap.size W10 w' → RootIn w' 0 w'.heap.size ⟨v, e, l, ⟨⟨t1, d1⟩, ⟨t2, d2⟩, ⟨t3, d3⟩⟩⟩ ka i1 i2 i3 from fun w' h => HI4.out w' (HBW.out.trans (h.mono HBW.out.size)))
             have HX40 := Lib.hid (show ∀ w' : World, Below W10.heap.size W10 w' → w'.heap[g0]? = some (.cells #[.int .i64 v, .int .i64 e, .slice ka l.length kc, .int .i64 t1, .slice i1 d1.length c1, .int .i64 t2, .slice i2 d2.length c2, .int .i64 t3, .slice i3 d3.length c3] 32 (0, 0)) from fun w' h => HX4.out w' (HBW.out.trans (h.mono HBW.out.size)))
             have HT10 := Lib.hid (show ∀ w' : World, Below W10.heap.size W10 w' → Tabs w' ∧ TabW w' ∧ Pow10 w' ∧ TopsW w' from fun w' h => HT4.out w' (HBW.out.trans (h.mono HBW.out.size)))
             have HFM := Lib.hid (show RootFits ⟨v, e, M, ⟨⟨t1, d1⟩, ⟨t2, d2⟩, ⟨t3, d3⟩⟩⟩ from ⟨HF.out.ver, HF.out.exp, by have h := HF.out.len; dsimp only at h ⊢; omega, fun q hq => HF.out.keys q (by dsimp only at hq ⊢; rw [hM] at hq; exact List.mem_of_mem_eraseIdx hq), HF.out.a, HF.out.b, HF.out.c⟩)
             have HMM := Lib.hid (show mayRoot ⟨v, e, M, ⟨⟨t1, d1⟩, ⟨t2, d2⟩, ⟨t3, d3⟩⟩⟩ = true by rw [hM]; exact root_erase HMB.out.symm k)
             have HNS := Lib.hid (show sameRoot ⟨v, e, M, ⟨⟨t1, d1⟩, ⟨t2, d2⟩, ⟨t3, d3⟩⟩⟩ ⟨v, e, l, ⟨⟨t1, d1⟩, ⟨t2, d2⟩, ⟨t3, d3⟩⟩⟩ = false by rw [hM]; exact erase_other (r := ⟨v, e, l, ⟨⟨t1, d1⟩, ⟨t2, d2⟩, ⟨t3, d3⟩⟩⟩) hk)
             have HBT := Lib.hid (HB.out.trans (HBW.out.mono HB.out.size))
             have t2' := hres.cell (i := 2) (by decide)
             have s2 := hres.frozen 2
             simp only [pick9] at t2'
             clear hres ho9 hx10 hk10 hk9 hM hb10 hlt6
             go_upto_region 15 with fail
             rw [← hW10]
             clear hW10 t2' s2
             have HMC := Lib.hid (rootMay v e M t1 t2 t3 d1 d2 d3 a9 i1 i2 i3 c9 c1 c2 c3 W10 (HI10.out W10 (Below.refl _ _)) HFM.out (HT10.out W10 (Below.refl _ _)).1 (HT10.out W10 (Below.refl _ _)).2.1 (HT10.out W10 (Below.refl _ _)).2.2.1)
             rw [HMM.out] at HMC
             have y0 := box_cell (HX10.out W10 (Below.refl _ _)) (j := 0) rfl; have y1 := box_cell (HX10.out W10 (Below.refl _ _)) (j := 1) rfl; have y2 := box_cell (HX10.out W10 (Below.refl _ _)) (j := 2) rfl; have y3 := box_cell (HX10.out W10 (Below.refl _ _)) (j := 3) rfl; have y4 := box_cell (HX10.out W10 (Below.refl _ _)) (j := 4) rfl; have y5 := box_cell (HX10.out W10 (Below.refl _ _)) (j := 5) rfl; have y6 := box_cell (HX10.out W10 (Below.refl _ _)) (j := 6) rfl; have y7 := box_cell (HX10.out W10 (Below.refl _ _)) (j := 7) rfl; have y8 := box_cell (HX10.out W10 (Below.refl _ _)) (j := 8) rfl
             go_wp2_with fail
             refine HMC.out.mono ?_
             clear HMC y0 y1 y2 y3 y4 y5 y6 y7 y8
             rintro r w11 ⟨rfl, hb11⟩
             have HB11 := Lib.hid hb11
             clear hb11
             have HSC := Lib.hid (rootSame v e M t1 t2 t3 d1 d2 d3 a9 i1 i2 i3 c9 c1 c2 c3 v e l t1 t2 t3 d1 d2 d3 ka i1 i2 i3 kc c1 c2 c3 w11 (HI10.out w11 HB11.out) (HI40.out w11 HB11.out) HFM.out HF.out)
             rw [HNS.out] at HSC
             have y0 := box_cell (HX10.out w11 HB11.out) (j := 0) rfl; have y1 := box_cell (HX10.out w11 HB11.out) (j := 1) rfl; have y2 := box_cell (HX10.out w11 HB11.out) (j := 2) rfl; have y3 := box_cell (HX10.out w11 HB11.out) (j := 3) rfl; have y4 := box_cell (HX10.out w11 HB11.out) (j := 4) rfl; have y5 := box_cell (HX10.out w11 HB11.out) (j := 5) rfl; have y6 := box_cell (HX10.out w11 HB11.out) (j := 6) rfl; have y7 := box_cell (HX10.out w11 HB11.out) (j := 7) rfl; have y8 := box_cell (HX10.out w11 HB11.out) (j := 8) rfl
             have z0 := box_cell (HX40.out w11 HB11.out) (j := 0) rfl; have z1 := box_cell (HX40.out w11 HB11.out) (j := 1) rfl; have z2 := box_cell (HX40.out w11 HB11.out) (j := 2) rfl; have z3 := box_cell (HX40.out w11 HB11.out) (j := 3) rfl; have z4 := box_cell (HX40.out w11 HB11.out) (j := 4) rfl; have z5 := box_cell (HX40.out w11 HB11.out) (j := 5) rfl; have z6 := box_cell (HX40.out w11 HB11.out) (j := 6) rfl; have z7 := box_cell (HX40.out w11 HB11.out) (j := 7) rfl; have z8 := box_cell (HX40.out w11 HB11.out) (j := 8) rfl
             go_wp2_with fail
             refine HSC.out.mono ?_
             clear HSC y0 y1 y2 y3 y4 y5 y6 y7 y8 z0 z1 z2 z3 z4 z5 z6 z7 z8
             rintro r w12 ⟨rfl, hb12⟩
             have HB12 := Lib.hid (HB11.out.trans (hb12.mono HB11.out.size))
             clear hb12
             go_wp2
             go_ret
             exact ⟨rfl, HBT.out.trans (HB12.out.mono HBT.out.size)⟩
end Go.Proofs.YtnlgmcapbbgelaaGreatDoor
