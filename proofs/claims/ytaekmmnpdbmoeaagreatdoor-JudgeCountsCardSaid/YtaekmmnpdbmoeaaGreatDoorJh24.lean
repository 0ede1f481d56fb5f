/- The contracts of the deciding by verdicts, of (*judge.Verifier).Good and of judge.Make. -/
import Derived.Test.YtaekmmnpdbmoeaaGreatDoorJh23
import Derived.Outline

namespace Go.Proofs.YtaekmmnpdbmoeaaGreatDoor
open Go.RowKit

set_option maxHeartbeats 1000000 in
set_option maxRecDepth 100000 in
theorem byTableGood (l : List Ver3) (k : Key2) (s : Sig2) (m : ByteArray) (a : Option Addr) (c : Nat) (w : World) (hR : TrisAt w 0 w.heap.size a l) (hl : l.length ≤ 60) (hm : m.size ≤ 1099511620000) (hT : Tabs w) :
    Calls Tryz.prog 197 #[.agg #[.slice a l.length c], .agg #[.string k.1, .string k.2], .agg #[.string s.1, .string s.2], .string m] w fun e w' => e = .returned (.bool ((Ver.tab l).by k s m.data.toList)) ∧ Below w.heap.size w w' := by
  obtain ⟨ks, kp⟩ := k
  obtain ⟨si, sg⟩ := s
  have HT := Lib.hid hT
  have HR := Lib.hid hR
  clear hT hR
  obtain ⟨D, hD⟩ : ∃ D : ByteArray, D = ⟨(shaHex m.data.toList).toArray⟩ := ⟨_, rfl⟩
  have HBV := Lib.hid (show (Ver.tab l).by (ks, kp) (si, sg) m.data.toList = l.any fun v => decide (v.1 = si ∧ v.2.1 = sg ∧ v.2.2 = D) by rw [hD]; rfl)
  have HDD := Lib.hid hD
  clear hD
  obtain ⟨W, hW⟩ : ∃ W, W = ((w.alloc (.cells #[.slice a l.length c] 97)).alloc (.cells #[.string ks, .string kp] 24)).alloc (.cells #[.string si, .string sg] 26) := ⟨_, rfl⟩
  have HBW := Lib.hid (show Below w.heap.size w W by rw [hW]; exact below_n3 w _ _ _)
  have hx0 : W.heap[w.heap.size]? = some (.cells #[.slice a l.length c] 97 (0, 0)) := by
    rw [hW, Below.heap_alloc _ _ _ (by simp; omega), Below.heap_alloc _ _ _ (by simp)]; exact heap_alloc_new w _
  have hx2 : W.heap[w.heap.size + 1 + 1]? = some (.cells #[.string si, .string sg] 26 (0, 0)) := by
    rw [hW]
    have := heap_alloc_new ((w.alloc (.cells #[.slice a l.length c] 97)).alloc (.cells #[.string ks, .string kp] 24)) (.cells #[.string si, .string sg] 26)
    simpa using this
  have HS := Lib.hid (show ∀ w' : World, Below W.heap.size W w' → w'.cell? ⟨w.heap.size, 0, none⟩ = some (.slice a l.length c) ∧ w'.cell? ⟨w.heap.size + 1 + 1, 0, none⟩ = some (.string si) ∧ w'.cell? ⟨w.heap.size + 1 + 1, 1, none⟩ = some (.string sg) from fun w' h =>
    ⟨box_cell (by rw [h.block _ (heap_lt hx0)]; exact hx0) rfl, box_cell (by rw [h.block _ (heap_lt hx2)]; exact hx2) rfl, box_cell (by rw [h.block _ (heap_lt hx2)]; exact hx2) rfl⟩)
  have HDG := Lib.hid (show ∀ w' : World, Below W.heap.size W w' → Calls Tryz.prog 35 #[.string m] w' (fun e w'' => e = .returned (.string D) ∧ Below W.heap.size W w'') from fun w' h => by
    refine (digest m w' (by omega) ((HT.out.below HBW.out).below h)).mono ?_
    rintro e w'' ⟨rfl, hb⟩
    exact ⟨by rw [HDD.out], h.trans (hb.mono h.size)⟩)
  have HCO := Lib.hid (show ∀ w' : World, Below W.heap.size W w' → Calls Tryz.prog 198 #[.slice a l.length c, .agg #[.string si, .string sg, .string D]] w' (fun e w'' => e = .returned (.bool (l.any fun v => decide (v.1 = si ∧ v.2.1 = sg ∧ v.2.2 = D))) ∧ Below W.heap.size W w'') from fun w' h => by
    have hb := HBW.out.trans (h.mono HBW.out.size)
    refine (containsVerdict l (si, sg, D) a c w' (HR.out.below hb (Nat.le_refl _) (Nat.le_refl _) hb.size) hl).mono ?_
    rintro e w'' ⟨rfl, hb2⟩
    exact ⟨rfl, h.trans (hb2.mono h.size)⟩)
  generalize (l.any fun v => decide (v.1 = si ∧ v.2.1 = sg ∧ v.2.2 = D)) = r at HCO HBV
  have hbz : Below W.heap.size W W.drew := (Below.refl _ _).drew
  have hq := HS.out W.drew hbz
  have HW := Lib.hid hW
  clear hx0 hx2 hW
  go_enter Tryz.func197, Tryz.ntmps197
  go_wp2_with fail
  rw [← HW.out]
  go_region_held3 (fun w' => w'.cell? ⟨w.heap.size, 0, none⟩ = some (.slice a l.length c) ∧ w'.cell? ⟨w.heap.size + 1 + 1, 0, none⟩ = some (.string si) ∧ w'.cell? ⟨w.heap.size + 1 + 1, 1, none⟩ = some (.string sg)) (first | (with_reducible exact hq) | (go_keep; done)) (first | ((go_at_call 35; (with_reducible refine (HDG.out _ hbz).mono ?_); rintro e w10 ⟨rfl, hbz⟩; have hq := HS.out w10 hbz)) | ((go_at_call 198; (with_reducible refine (HCO.out _ hbz).mono ?_); rintro e w10 ⟨rfl, hbz⟩; have hq := HS.out w10 hbz)))
  all_goals (go_wp2; go_ret; exact ⟨ret_bool HBV.out.symm, HBW.out.trans (hbz.mono HBW.out.size)⟩)

theorem methodMAC (w : World) : (method 329 94 (.agg #[]) "legate/judge.good").run Tryz.prog w = .ok (195, .agg #[]) w := by kernel_rfl
theorem methodTable (x : Value) (w : World) : (method 329 97 (.agg #[x]) "legate/judge.good").run Tryz.prog w = .ok (197, .agg #[x]) w := by kernel_rfl
theorem ok2_parts {k : Key2} (h : ok2 k = true) : pubOk k.2.data.toList = true := by
  unfold ok2 keyOk at h; rw [Bool.and_eq_true] at h; exact h.2
theorem keyId2 (k : Key2) (w : World) (h1 : k.1.size ≤ 300) (h2 : k.2.size ≤ 300) (hT : Tabs w) :
    Calls Tryz.prog 37 #[.agg #[.string k.1, .string k.2]] w fun e w' => e = .returned (.tuple #[.string (id2 k), .int .i64 (if ok2 k = true then 0 else 3)]) ∧ Below w.heap.size w w' := keyID k.1 k.2 w (by omega) (by omega) hT

set_option maxHeartbeats 1000000 in
set_option maxRecDepth 100000 in
theorem judgeGood_nil (k : Key2) (s : Sig2) (m : ByteArray) (w : World) :
    Calls Tryz.prog 16 #[.pointer none, .agg #[.string k.1, .string k.2], .agg #[.string s.1, .string s.2], .string m] w fun e w' => e = .returned (.bool false) ∧ Below w.heap.size w w' := by
  go_enter Tryz.func16, Tryz.ntmps16
  go_wp2
  go_ret
  exact ⟨rfl, below_n2 _ _ _⟩

set_option maxHeartbeats 1000000 in
set_option maxRecDepth 100000 in
theorem judgeGood_no (p : Nat) (k : Key2) (s : Sig2) (m : ByteArray) (w : World) (hp : w.heap[p]? = some (.cells #[.nilIface] 64 (0, 0))) :
    Calls Tryz.prog 16 #[.pointer (some ⟨p, 0, none⟩), .agg #[.string k.1, .string k.2], .agg #[.string s.1, .string s.2], .string m] w fun e w' => e = .returned (.bool false) ∧ Below w.heap.size w w' := by
  have hpl := heap_lt hp
  have c0 : w.cell? ⟨p, 0, none⟩ = some .nilIface := box_cell hp rfl
  clear hp
  go_enter Tryz.func16, Tryz.ntmps16
  go_wp2
  go_ret
  exact ⟨rfl, below_n2 _ _ _⟩

set_option maxHeartbeats 1000000 in
set_option maxRecDepth 100000 in
theorem judgeGood_mac (p : Nat) (k : Key2) (s : Sig2) (m : ByteArray) (w : World) (hp : w.heap[p]? = some (.cells #[.iface 94 (.agg #[])] 64 (0, 0))) (h1 : k.1.size ≤ 300) (h2 : k.2.size ≤ 300) (h3 : s.2.size ≤ 1000000) (hm : m.size ≤ 1099511620000) (hT : Tabs w) :
    Calls Tryz.prog 16 #[.pointer (some ⟨p, 0, none⟩), .agg #[.string k.1, .string k.2], .agg #[.string s.1, .string s.2], .string m] w fun e w' => e = .returned (.bool (Ver.mac.good k s m.data.toList)) ∧ Below w.heap.size w w' := by
  have hpl := heap_lt hp
  have HT := Lib.hid hT
  clear hT
  have HKI := Lib.hid (fun w hT => keyId2 k w h1 h2 hT)
  have HBG := Lib.hid (fun (w : World) (hk : ok2 k = true) (hs : pubOk s.2.data.toList = true) (hT : Tabs w) => byMACgood k s m w (ok2_parts hk) hs hm hT)
  have HSM := Lib.hid (fun w => judgeSigMay s.2 w (by omega))
  have HGD := Lib.hid (show Ver.mac.good k s m.data.toList = (pubOk s.2.data.toList && (ok2 k && (decide (s.1 = id2 k) && Ver.mac.by k s m.data.toList))) from rfl)
  obtain ⟨ks, kp⟩ := k
  obtain ⟨si, sg⟩ := s
  obtain ⟨W, hW⟩ : ∃ W, W = (w.alloc (.cells #[.string ks, .string kp] 24)).alloc (.cells #[.string si, .string sg] 26) := ⟨_, rfl⟩
  have HBW := Lib.hid (show Below w.heap.size w W by rw [hW]; exact below_n2 w _ _)
  have hx0 : W.heap[w.heap.size]? = some (.cells #[.string ks, .string kp] 24 (0, 0)) := by
    rw [hW, Below.heap_alloc _ _ _ (by simp)]; exact heap_alloc_new w _
  have hx1 : W.heap[w.heap.size + 1]? = some (.cells #[.string si, .string sg] 26 (0, 0)) := by
    rw [hW]
    have := heap_alloc_new (w.alloc (.cells #[.string ks, .string kp] 24)) (.cells #[.string si, .string sg] 26)
    simpa using this
  have HX0 := Lib.hid hx0
  have HX1 := Lib.hid hx1
  have HP := Lib.hid hp
  have c0 : w.cell? ⟨p, 0, none⟩ = some (.iface 94 (.agg #[])) := box_cell hp rfl
  have HW := Lib.hid hW
  clear hx0 hx1 hp hW
  obtain ⟨pb, hpb⟩ : ∃ pb, pb = pubOk sg.data.toList := ⟨_, rfl⟩
  have HSM' := Lib.hid (show ∀ w, Calls Tryz.prog 40 #[.string sg] w fun e w' => e = .returned (.bool pb) ∧ w = w' from by rw [hpb]; exact HSM.out)
  have HGD' := Lib.hid (show Ver.mac.good (ks, kp) (si, sg) m.data.toList = (pb && (ok2 (ks, kp) && (decide (si = id2 (ks, kp)) && Ver.mac.by (ks, kp) (si, sg) m.data.toList))) by rw [hpb]; exact HGD.out)
  have HPB := Lib.hid hpb
  obtain ⟨ID, hID⟩ : ∃ ID, ID = id2 (ks, kp) := ⟨_, rfl⟩
  obtain ⟨ok, hok⟩ : ∃ ok, ok = ok2 (ks, kp) := ⟨_, rfl⟩
  have HGD2 := Lib.hid HGD'.out
  have HKI' := Lib.hid HKI.out
  rw [← hID, ← hok] at HGD2 HKI'
  have HOK := Lib.hid hok
  clear HSM HGD hpb hID hok HKI
  cases pb
  · go_enter Tryz.func16, Tryz.ntmps16
    go_wp2_with fail
    refine (HSM'.out _).mono ?_
    rintro e w1 ⟨rfl, rfl⟩
    go_wp2
    go_ret
    exact ⟨ret_bool (by rw [HGD'.out]; rfl), by rw [← HW.out]; exact HBW.out⟩
  · go_enter Tryz.func16, Tryz.ntmps16
    go_wp2_with fail
    refine (HSM'.out _).mono ?_
    rintro e w1 ⟨rfl, rfl⟩
    go_wp2_with fail
    rw [← HW.out]
    refine (HKI'.out W (HT.out.below HBW.out)).mono ?_
    clear HKI'
    rintro e w1 ⟨rfl, hb1⟩
    have hx1 : w1.heap[w.heap.size + 1]? = some (.cells #[.string si, .string sg] 26 (0, 0)) := by rw [hb1.block _ (heap_lt HX1.out)]; exact HX1.out
    have hx0 : w1.heap[w.heap.size]? = some (.cells #[.string ks, .string kp] 24 (0, 0)) := by rw [hb1.block _ (heap_lt HX0.out)]; exact HX0.out
    have HB1 := Lib.hid (HBW.out.trans (hb1.mono HBW.out.size))
    have hxp : w1.heap[p]? = some (.cells #[.iface 94 (.agg #[])] 64 (0, 0)) := by rw [HB1.out.block _ hpl]; exact HP.out
    have k0 : w1.cell? ⟨w.heap.size, 0, none⟩ = some (.string ks) := box_cell hx0 rfl
    have k1 : w1.cell? ⟨w.heap.size, 1, none⟩ = some (.string kp) := box_cell hx0 rfl
    have g0 : w1.cell? ⟨w.heap.size + 1, 0, none⟩ = some (.string si) := box_cell hx1 rfl
    have g1 : w1.cell? ⟨w.heap.size + 1, 1, none⟩ = some (.string sg) := box_cell hx1 rfl
    have v0 : w1.cell? ⟨p, 0, none⟩ = some (.iface 94 (.agg #[])) := box_cell hxp rfl
    clear hb1 hx0 hx1 hxp c0
    cases ok
    · rw [if_neg (by simp)]
      go_wp2
      go_ret
      exact ⟨ret_bool (by rw [HGD2.out]; rfl), HB1.out⟩
    · rw [if_pos rfl]
      by_cases hid : si = ID
      · have hd : (si.toList == ID.toList) = true := by rw [hid]; exact beq_self_eq_true _
        have HD := Lib.hid hid
        clear hid
        have HS5 := Lib.hid (show ∀ w' : World, Below w1.drew.heap.size w1.drew w' → w'.cell? ⟨p, 0, none⟩ = some (.iface 94 (.agg #[])) ∧ w'.cell? ⟨w.heap.size, 0, none⟩ = some (.string ks) ∧ w'.cell? ⟨w.heap.size, 1, none⟩ = some (.string kp) ∧ w'.cell? ⟨w.heap.size + 1, 0, none⟩ = some (.string si) ∧ w'.cell? ⟨w.heap.size + 1, 1, none⟩ = some (.string sg) from fun w' h =>
          ⟨by rw [h.cell (World.block_lt_of_cell? w1 _ v0)]; exact v0, by rw [h.cell (World.block_lt_of_cell? w1 _ k0)]; exact k0, by rw [h.cell (World.block_lt_of_cell? w1 _ k1)]; exact k1, by rw [h.cell (World.block_lt_of_cell? w1 _ g0)]; exact g0, by rw [h.cell (World.block_lt_of_cell? w1 _ g1)]; exact g1⟩)
        have HBG2 := Lib.hid (fun hT : Tabs w1.drew => HBG.out w1.drew HOK.out.symm HPB.out.symm hT)
        have hTz := HT.out.below HB1.out.drew
        have hme := methodMAC
        have q0 : w1.drew.cell? ⟨p, 0, none⟩ = some (.iface 94 (.agg #[])) := v0
        have q1 : w1.drew.cell? ⟨w.heap.size, 0, none⟩ = some (.string ks) := k0
        have q2 : w1.drew.cell? ⟨w.heap.size, 1, none⟩ = some (.string kp) := k1
        have q3 : w1.drew.cell? ⟨w.heap.size + 1, 0, none⟩ = some (.string si) := g0
        have q4 : w1.drew.cell? ⟨w.heap.size + 1, 1, none⟩ = some (.string sg) := g1
        go_wp2_with fail
        have hq : w1.drew.cell? ⟨p, 0, none⟩ = some (.iface 94 (.agg #[])) ∧ w1.drew.cell? ⟨w.heap.size, 0, none⟩ = some (.string ks) ∧ w1.drew.cell? ⟨w.heap.size, 1, none⟩ = some (.string kp) ∧ w1.drew.cell? ⟨w.heap.size + 1, 0, none⟩ = some (.string si) ∧ w1.drew.cell? ⟨w.heap.size + 1, 1, none⟩ = some (.string sg) := ⟨q0, q1, q2, q3, q4⟩
        go_region_held3 (fun w' => w'.cell? ⟨p, 0, none⟩ = some (.iface 94 (.agg #[])) ∧ w'.cell? ⟨w.heap.size, 0, none⟩ = some (.string ks) ∧ w'.cell? ⟨w.heap.size, 1, none⟩ = some (.string kp) ∧ w'.cell? ⟨w.heap.size + 1, 0, none⟩ = some (.string si) ∧ w'.cell? ⟨w.heap.size + 1, 1, none⟩ = some (.string sg)) (first | (with_reducible exact hq) | (go_keep; done)) (first | (go_at_call 195; (with_reducible refine (HBG2.out hTz).mono ?_); rintro e w2 ⟨rfl, hb2⟩; have hq := HS5.out w2 hb2))
        have HB2 := Lib.hid (HB1.out.drew.trans (hb2.mono HB1.out.drew.size))
        clear hb2
        go_wp2
        go_ret
        exact ⟨ret_bool (by rw [HGD2.out, decide_eq_true HD.out]; simp), HB2.out⟩
      · have hd : (si.toList == ID.toList) = false := by rw [beq_eq_false_iff_ne]; exact fun e => hid (ba_ext e)
        have HD := Lib.hid hid
        clear hid
        go_wp2
        go_ret
        exact ⟨ret_bool (by rw [HGD2.out, decide_eq_false HD.out]; rfl), HB1.out⟩

set_option maxHeartbeats 1000000 in
set_option maxRecDepth 100000 in
theorem judgeGood_tab (l : List Ver3) (a : Option Addr) (c p : Nat) (k : Key2) (s : Sig2) (m : ByteArray) (w : World) (hp : w.heap[p]? = some (.cells #[.iface 97 (.agg #[.slice a l.length c])] 64 (0, 0))) (h1 : k.1.size ≤ 300) (h2 : k.2.size ≤ 300) (h3 : s.2.size ≤ 1000000) (hm : m.size ≤ 1099511620000) (hT : Tabs w) (hl : l.length ≤ 60) (hR : TrisAt w 0 w.heap.size a l) :
    Calls Tryz.prog 16 #[.pointer (some ⟨p, 0, none⟩), .agg #[.string k.1, .string k.2], .agg #[.string s.1, .string s.2], .string m] w fun e w' => e = .returned (.bool ((Ver.tab l).good k s m.data.toList)) ∧ Below w.heap.size w w' := by
  have hpl := heap_lt hp
  have HT := Lib.hid hT
  have HRT := Lib.hid hR
  clear hT hR
  have HKI := Lib.hid (fun w hT => keyId2 k w h1 h2 hT)
  have HBG := Lib.hid (fun (w : World) (hR : TrisAt w 0 w.heap.size a l) (hT : Tabs w) => byTableGood l k s m a c w hR hl hm hT)
  have HSM := Lib.hid (fun w => judgeSigMay s.2 w (by omega))
  have HGD := Lib.hid (show (Ver.tab l).good k s m.data.toList = (pubOk s.2.data.toList && (ok2 k && (decide (s.1 = id2 k) && (Ver.tab l).by k s m.data.toList))) from rfl)
  obtain ⟨ks, kp⟩ := k
  obtain ⟨si, sg⟩ := s
  obtain ⟨W, hW⟩ : ∃ W, W = (w.alloc (.cells #[.string ks, .string kp] 24)).alloc (.cells #[.string si, .string sg] 26) := ⟨_, rfl⟩
  have HBW := Lib.hid (show Below w.heap.size w W by rw [hW]; exact below_n2 w _ _)
  have hx0 : W.heap[w.heap.size]? = some (.cells #[.string ks, .string kp] 24 (0, 0)) := by
    rw [hW, Below.heap_alloc _ _ _ (by simp)]; exact heap_alloc_new w _
  have hx1 : W.heap[w.heap.size + 1]? = some (.cells #[.string si, .string sg] 26 (0, 0)) := by
    rw [hW]
    have := heap_alloc_new (w.alloc (.cells #[.string ks, .string kp] 24)) (.cells #[.string si, .string sg] 26)
    simpa using this
  have HX0 := Lib.hid hx0
  have HX1 := Lib.hid hx1
  have HP := Lib.hid hp
  have c0 : w.cell? ⟨p, 0, none⟩ = some (.iface 97 (.agg #[.slice a l.length c])) := box_cell hp rfl
  have HW := Lib.hid hW
  clear hx0 hx1 hp hW
  obtain ⟨pb, hpb⟩ : ∃ pb, pb = pubOk sg.data.toList := ⟨_, rfl⟩
  have HSM' := Lib.hid (show ∀ w, Calls Tryz.prog 40 #[.string sg] w fun e w' => e = .returned (.bool pb) ∧ w = w' from by rw [hpb]; exact HSM.out)
  have HGD' := Lib.hid (show (Ver.tab l).good (ks, kp) (si, sg) m.data.toList = (pb && (ok2 (ks, kp) && (decide (si = id2 (ks, kp)) && (Ver.tab l).by (ks, kp) (si, sg) m.data.toList))) by rw [hpb]; exact HGD.out)
  have HPB := Lib.hid hpb
  obtain ⟨ID, hID⟩ : ∃ ID, ID = id2 (ks, kp) := ⟨_, rfl⟩
  obtain ⟨ok, hok⟩ : ∃ ok, ok = ok2 (ks, kp) := ⟨_, rfl⟩
  have HGD2 := Lib.hid HGD'.out
  have HKI' := Lib.hid HKI.out
  rw [← hID, ← hok] at HGD2 HKI'
  have HOK := Lib.hid hok
  clear HSM HGD hpb hID hok HKI
  cases pb
  · go_enter Tryz.func16, Tryz.ntmps16
    go_wp2_with fail
    refine (HSM'.out _).mono ?_
    rintro e w1 ⟨rfl, rfl⟩
    go_wp2
    go_ret
    exact ⟨ret_bool (by rw [HGD'.out]; rfl), by rw [← HW.out]; exact HBW.out⟩
  · go_enter Tryz.func16, Tryz.ntmps16
    go_wp2_with fail
    refine (HSM'.out _).mono ?_
    rintro e w1 ⟨rfl, rfl⟩
    go_wp2_with fail
    rw [← HW.out]
    refine (HKI'.out W (HT.out.below HBW.out)).mono ?_
    clear HKI'
    rintro e w1 ⟨rfl, hb1⟩
    have hx1 : w1.heap[w.heap.size + 1]? = some (.cells #[.string si, .string sg] 26 (0, 0)) := by rw [hb1.block _ (heap_lt HX1.out)]; exact HX1.out
    have hx0 : w1.heap[w.heap.size]? = some (.cells #[.string ks, .string kp] 24 (0, 0)) := by rw [hb1.block _ (heap_lt HX0.out)]; exact HX0.out
    have HB1 := Lib.hid (HBW.out.trans (hb1.mono HBW.out.size))
    have hxp : w1.heap[p]? = some (.cells #[.iface 97 (.agg #[.slice a l.length c])] 64 (0, 0)) := by rw [HB1.out.block _ hpl]; exact HP.out
    have k0 : w1.cell? ⟨w.heap.size, 0, none⟩ = some (.string ks) := box_cell hx0 rfl
    have k1 : w1.cell? ⟨w.heap.size, 1, none⟩ = some (.string kp) := box_cell hx0 rfl
    have g0 : w1.cell? ⟨w.heap.size + 1, 0, none⟩ = some (.string si) := box_cell hx1 rfl
    have g1 : w1.cell? ⟨w.heap.size + 1, 1, none⟩ = some (.string sg) := box_cell hx1 rfl
    have v0 : w1.cell? ⟨p, 0, none⟩ = some (.iface 97 (.agg #[.slice a l.length c])) := box_cell hxp rfl
    clear hb1 hx0 hx1 hxp c0
    cases ok
    · rw [if_neg (by simp)]
      go_wp2
      go_ret
      exact ⟨ret_bool (by rw [HGD2.out]; rfl), HB1.out⟩
    · rw [if_pos rfl]
      by_cases hid : si = ID
      · have hd : (si.toList == ID.toList) = true := by rw [hid]; exact beq_self_eq_true _
        have HD := Lib.hid hid
        clear hid
        have HS5 := Lib.hid (show ∀ w' : World, Below w1.drew.heap.size w1.drew w' → w'.cell? ⟨p, 0, none⟩ = some (.iface 97 (.agg #[.slice a l.length c])) ∧ w'.cell? ⟨w.heap.size, 0, none⟩ = some (.string ks) ∧ w'.cell? ⟨w.heap.size, 1, none⟩ = some (.string kp) ∧ w'.cell? ⟨w.heap.size + 1, 0, none⟩ = some (.string si) ∧ w'.cell? ⟨w.heap.size + 1, 1, none⟩ = some (.string sg) from fun w' h =>
          ⟨by rw [h.cell (World.block_lt_of_cell? w1 _ v0)]; exact v0, by rw [h.cell (World.block_lt_of_cell? w1 _ k0)]; exact k0, by rw [h.cell (World.block_lt_of_cell? w1 _ k1)]; exact k1, by rw [h.cell (World.block_lt_of_cell? w1 _ g0)]; exact g0, by rw [h.cell (World.block_lt_of_cell? w1 _ g1)]; exact g1⟩)
        have HBG2 := Lib.hid (fun hT : Tabs w1.drew => HBG.out w1.drew (HRT.out.below HB1.out.drew (Nat.le_refl _) (Nat.le_refl _) HB1.out.drew.size) hT)
        have hTz := HT.out.below HB1.out.drew
        have hme := methodTable
        have q0 : w1.drew.cell? ⟨p, 0, none⟩ = some (.iface 97 (.agg #[.slice a l.length c])) := v0
        have q1 : w1.drew.cell? ⟨w.heap.size, 0, none⟩ = some (.string ks) := k0
        have q2 : w1.drew.cell? ⟨w.heap.size, 1, none⟩ = some (.string kp) := k1
        have q3 : w1.drew.cell? ⟨w.heap.size + 1, 0, none⟩ = some (.string si) := g0
        have q4 : w1.drew.cell? ⟨w.heap.size + 1, 1, none⟩ = some (.string sg) := g1
        go_wp2_with fail
        have hq : w1.drew.cell? ⟨p, 0, none⟩ = some (.iface 97 (.agg #[.slice a l.length c])) ∧ w1.drew.cell? ⟨w.heap.size, 0, none⟩ = some (.string ks) ∧ w1.drew.cell? ⟨w.heap.size, 1, none⟩ = some (.string kp) ∧ w1.drew.cell? ⟨w.heap.size + 1, 0, none⟩ = some (.string si) ∧ w1.drew.cell? ⟨w.heap.size + 1, 1, none⟩ = some (.string sg) := ⟨q0, q1, q2, q3, q4⟩
        go_region_held3 (fun w' => w'.cell? ⟨p, 0, none⟩ = some (.iface 97 (.agg #[.slice a l.length c])) ∧ w'.cell? ⟨w.heap.size, 0, none⟩ = some (.string ks) ∧ w'.cell? ⟨w.heap.size, 1, none⟩ = some (.string kp) ∧ w'.cell? ⟨w.heap.size + 1, 0, none⟩ = some (.string si) ∧ w'.cell? ⟨w.heap.size + 1, 1, none⟩ = some (.string sg)) (first | (with_reducible exact hq) | (go_keep; done)) (first | (go_at_call 197; (with_reducible refine (HBG2.out hTz).mono ?_); rintro e w2 ⟨rfl, hb2⟩; have hq := HS5.out w2 hb2))
        have HB2 := Lib.hid (HB1.out.drew.trans (hb2.mono HB1.out.drew.size))
        clear hb2
        go_wp2
        go_ret
        exact ⟨ret_bool (by rw [HGD2.out, decide_eq_true HD.out]; simp), HB2.out⟩
      · have hd : (si.toList == ID.toList) = false := by rw [beq_eq_false_iff_ne]; exact fun e => hid (ba_ext e)
        have HD := Lib.hid hid
        clear hid
        go_wp2
        go_ret
        exact ⟨ret_bool (by rw [HGD2.out, decide_eq_false HD.out]; rfl), HB1.out⟩

/-- Whether a signature is good, by whatever verifier. -/
theorem judgeGood (v : Ver) (x : Value) (k : Key2) (s : Sig2) (m : ByteArray) (w : World) (hV : VerIs w x v) (h1 : k.1.size ≤ 300) (h2 : k.2.size ≤ 300) (h3 : s.2.size ≤ 1000000) (hm : m.size ≤ 1099511620000) (hT : Tabs w) :
    Calls Tryz.prog 16 #[x, .agg #[.string k.1, .string k.2], .agg #[.string s.1, .string s.2], .string m] w fun e w' => e = .returned (.bool (v.good k s m.data.toList)) ∧ Below w.heap.size w w' := by
  cases v with
  | mac => obtain ⟨p, rfl, hp⟩ := hV; exact judgeGood_mac p k s m w hp h1 h2 h3 hm hT
  | tab l =>
    rcases hV with ⟨p, a, c, rfl, hp, hl, hR⟩ | ⟨rfl, hx⟩
    · exact judgeGood_tab l a c p k s m w hp h1 h2 h3 hm hT hl hR
    · have e : (Ver.tab []).good k s m.data.toList = false := by unfold Ver.good Ver.by; simp
      rw [e]
      rcases hx with rfl | ⟨p, rfl, hp⟩
      · exact judgeGood_nil k s m w
      · exact judgeGood_no p k s m w hp

end Go.Proofs.YtaekmmnpdbmoeaaGreatDoor
