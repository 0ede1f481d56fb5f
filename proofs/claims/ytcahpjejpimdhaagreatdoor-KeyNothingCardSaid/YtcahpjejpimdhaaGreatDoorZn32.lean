/- The contract of key.Keys. Plain: a value of which the key is told is that key's object; a table of which the keys are told is their table; and back. No program in sight. Plain: a key's object with a name more, or less, is none; a table of one key by another name is none. No program in sight. -/
import Derived.Test.YtcahpjejpimdhaaGreatDoorZn31
import Derived.Test.YtcahpjejpimdhaaGreatDoorZn16
import Derived.Test.YtcahpjejpimdhaaGreatDoorZn13
import Derived.Test.YtcahpjejpimdhaaGreatDoorZn22
import Derived.Test.YtcahpjejpimdhaaGreatDoorZn15
import Derived.Test.YtcahpjejpimdhaaGreatDoorZn20

namespace Go.Proofs.YtcahpjejpimdhaaGreatDoor
open Go.RowKit

theorem keyOfJ_ok {v : JV} (h : (keyOfJ v).2 = 0) : keyOk (keyOfJ v).1.1.data.toList (keyOfJ v).1.2.data.toList = true ∧ (keyOfJ v).1.1.size ≤ 64 ∧ (keyOfJ v).1.2.size ≤ 128 := by
  have h2 : keyOk (keyOfJ v).1.1.data.toList (keyOfJ v).1.2.data.toList = true := by
    unfold keyOfJ at h ⊢
    split at h
    · cases h
    next c1 =>
    rw [if_neg c1]
    split at h
    · cases h
    next c2 =>
    rw [if_neg c2]
    split at h
    · next c3 => exact absurd h c3
    next c3 =>
    rw [if_neg c3]
    split at h
    · next c4 => rw [if_pos c4]; exact c4
    · cases h
  obtain ⟨_, _, a, b⟩ := key_txt h2
  exact ⟨h2, a, b⟩
/-- The keys of a table's entries; or why there are none. -/
def keysL : List ByteArray → List JV → List Key2 → List Key2 × Int
  | id :: ns, it :: its, acc => if (keyOfJ it).2 ≠ 0 then ([], (keyOfJ it).2) else if (idOf (keyOfJ it).1.1 (keyOfJ it).1.2).toList == id.toList then keysL ns its (acc ++ [(keyOfJ it).1]) else ([], 3)
  | _, _, acc => (acc, 0)
def stepL (r : Key2 × Int) (id : ByteArray) (ns : List ByteArray) (its : List JV) (acc : List Key2) : List Key2 × Int :=
  if r.2 ≠ 0 then ([], r.2) else if (idOf r.1.1 r.1.2).toList == id.toList then keysL ns its (acc ++ [r.1]) else ([], 3)
theorem keysL_nil (its : List JV) (acc : List Key2) : keysL [] its acc = (acc, 0) := by
  unfold keysL; rfl
theorem keysL_step (ns : List ByteArray) (its : List JV) (k : Nat) (acc : List Key2) (h : k < ns.length) (h' : k < its.length) : keysL (ns.drop k) (its.drop k) acc = stepL (keyOfJ its[k]) ns[k] (ns.drop (k + 1)) (its.drop (k + 1)) acc := by
  rw [List.drop_eq_getElem_cons h, List.drop_eq_getElem_cons h', keysL, stepL]
def keysJ (v : JV) : List Key2 × Int := if v.mayB = false then ([], 3) else if v.kind ≠ 5 then ([], 10) else if 32 < v.names.length then ([], 5) else keysL v.names v.items []
def KeysPost (v : JV) (w : World) (e : Ending) (w' : World) : Prop :=
  ∃ val, e = .returned (.tuple #[val, .int .i64 (keysJ v).2]) ∧ w'.ownsRow w.heap.size 23 2 val (keysJ v).1.length ((keysJ v).1.flatMap encK) ∧ Below w.heap.size w w'

set_option maxHeartbeats 2000000 in
set_option maxRecDepth 100000 in
theorem keyKeys (v : JV) (x : Value) (w : World) (hN : v.wt ≤ 4294967296) (hR : Rep w 0 w.heap.size v x) (hT : Tabs w) :
    Calls Tryz.prog 35 #[x] w (KeysPost v w) := by
  obtain ⟨an, cn, ai, ci, hx, h1, h2, h3, h4⟩ := hR.parts
  have HR := Lib.hid hR
  have H3 := Lib.hid h3
  have H4 := Lib.hid h4
  obtain ⟨b1, b2, b3, b4⟩ := v.wt_bd
  clear h1 h2 h3 h4 hR
  subst hx
  have HT := Lib.hid hT
  clear hT
  have HB0 := Lib.hid (show Below w.heap.size w (w.alloc (.cells #[.int .u8 v.kind, .int .i64 v.n, .string v.t, .slice an v.names.length cn, .slice ai v.items.length ci] 29)) from (Below.refl _ _).alloc (Nat.le_refl _) _)
  have HX0 := Lib.hid (heap_alloc_new w (.cells #[.int .u8 v.kind, .int .i64 v.n, .string v.t, .slice an v.names.length cn, .slice ai v.items.length ci] 29))
  have HM := Lib.hid (valueMay v _ (w.alloc (.cells #[.int .u8 v.kind, .int .i64 v.n, .string v.t, .slice an v.names.length cn, .slice ai v.items.length ci] 29)) hN (HR.out.below HB0.out (Nat.le_refl _) (Nat.le_refl _) (by simp)))
  cases hm : v.mayB
  · have HK := Lib.hid (show keysJ v = ([], 3) by unfold keysJ; rw [if_pos hm])
    rw [hm] at HM
    clear hm
    go_enter Tryz.func35, Tryz.ntmps35
    go_wp2_with fail
    refine HM.out.mono ?_
    rintro e w1 ⟨rfl, hb1⟩
    have HB1 := Lib.hid (HB0.out.trans (hb1.mono (by simp)))
    clear hb1
    go_wp2
    go_ret2
    exact ⟨.slice none 0 0, by rw [HK.out] <;> rfl, by rw [HK.out]; exact World.ownsRow_nil _ _ _ _, HB1.out⟩
  rw [hm] at HM
  have HMB := Lib.hid hm
  clear hm
  by_cases hk5 : v.kind = 5
  case neg =>
    have HK := Lib.hid (show keysJ v = ([], 10) by unfold keysJ; rw [if_neg (by simp [HMB.out]), if_pos hk5])
    have t1 : (v.kind != 5) = true := by simpa using hk5
    clear hk5
    go_enter Tryz.func35, Tryz.ntmps35
    go_wp2_with fail
    refine HM.out.mono ?_
    rintro e w1 ⟨rfl, hb1⟩
    have hx1 : w1.heap[w.heap.size]? = some (.cells #[.int .u8 v.kind, .int .i64 v.n, .string v.t, .slice an v.names.length cn, .slice ai v.items.length ci] 29 (0, 0)) := by rw [hb1.block _ (by simp)]; exact HX0.out
    have HB1 := Lib.hid (HB0.out.trans (hb1.mono (by simp)))
    have c0 : w1.cell? ⟨w.heap.size, 0, none⟩ = some (.int .u8 v.kind) := box_cell hx1 rfl
    clear hb1 hx1
    go_wp2
    go_ret2
    exact ⟨.slice none 0 0, by rw [HK.out] <;> rfl, by rw [HK.out]; exact World.ownsRow_nil _ _ _ _, HB1.out⟩
  have t1 : (v.kind != 5) = false := by simpa using hk5
  obtain ⟨_, hll, _⟩ := may_obj HMB.out hk5
  have HK5 := Lib.hid hk5
  clear hk5
  obtain ⟨nn, hnn⟩ : ∃ nn, nn = v.names.length := ⟨_, rfl⟩
  rw [← hll, ← hnn] at HM HX0 HB0
  rw [← hll, ← hnn]
  have HNN := Lib.hid hnn
  have HNI := Lib.hid (show v.items.length = nn by rw [hnn, hll])
  clear hnn hll
  by_cases h32 : nn ≤ 32
  case neg =>
    have HK := Lib.hid (show keysJ v = ([], 5) by unfold keysJ; rw [if_neg (by simp [HMB.out]), if_neg (by simp [HK5.out]), if_pos (by rw [← HNN.out]; omega)])
    have t2 : decide (32 < (nn : Int)) = true := by simp; omega
    go_enter Tryz.func35, Tryz.ntmps35
    go_wp2_with fail
    refine HM.out.mono ?_
    rintro e w1 ⟨rfl, hb1⟩
    have hx1 : w1.heap[w.heap.size]? = some (.cells #[.int .u8 v.kind, .int .i64 v.n, .string v.t, .slice an nn cn, .slice ai nn ci] 29 (0, 0)) := by rw [hb1.block _ (by simp)]; exact HX0.out
    have HB1 := Lib.hid (HB0.out.trans (hb1.mono (by simp)))
    have c0 : w1.cell? ⟨w.heap.size, 0, none⟩ = some (.int .u8 v.kind) := box_cell hx1 rfl
    have c3 : w1.cell? ⟨w.heap.size, 3, none⟩ = some (.slice an nn cn) := box_cell hx1 rfl
    clear hb1 hx1
    go_wp2
    go_ret2
    exact ⟨.slice none 0 0, by rw [HK.out] <;> rfl, by rw [HK.out]; exact World.ownsRow_nil _ _ _ _, HB1.out⟩
  have t2 : decide (32 < (nn : Int)) = false := by simp; omega
  have HKJ := Lib.hid (show keysJ v = keysL v.names v.items [] by unfold keysJ; rw [if_neg (by simp [HMB.out]), if_neg (by simp [HK5.out]), if_neg (by rw [← HNN.out]; omega)])
  obtain ⟨i3, hi3, iz0, iz1, iz2⟩ := info_parts infoKey
  go_enter Tryz.func35, Tryz.ntmps35
  go_wp2_with fail
  refine HM.out.mono ?_
  clear HM
  rintro e w1 ⟨rfl, hb1⟩
  have hx1 : w1.heap[w.heap.size]? = some (.cells #[.int .u8 v.kind, .int .i64 v.n, .string v.t, .slice an nn cn, .slice ai nn ci] 29 (0, 0)) := by rw [hb1.block _ (by simp)]; exact HX0.out
  have HX1 := Lib.hid hx1
  have HB1 := Lib.hid (HB0.out.trans (hb1.mono (by simp)))
  have hz1 : w.heap.size < w1.heap.size := heap_lt hx1
  have c0 : w1.cell? ⟨w.heap.size, 0, none⟩ = some (.int .u8 v.kind) := box_cell hx1 rfl
  have c3 : w1.cell? ⟨w.heap.size, 3, none⟩ = some (.slice an nn cn) := box_cell hx1 rfl
  clear hb1 hx1 HB0 HX0
  go_wp2_with fail
  clear c0 c3
  go_loopw [4, 5, 6, 7, 8, 9, 23] (fun ks _ _ _ _ _ i wr => ∃ (k : Nat) (acc : List Key2), k ≤ nn ∧ i = .int .i64 k ∧ acc.length = k ∧ keysJ v = keysL (v.names.drop k) (v.items.drop k) acc ∧ wr.ownsRow w1.heap.size 23 2 ks k (acc.flatMap encK) ∧ Below w1.heap.size w1 wr) (fun ks _ _ _ _ _ i _ => nn - (intOf i).toNat)
  case atStart => exact ⟨0, [], by omega, rfl, rfl, HKJ.out, World.ownsRow_nil _ _ _ _, Below.refl _ _⟩
  case round =>
    obtain ⟨k, acc, hk, rfl, hac, hkj, hown, hbel⟩ := hrel
    obtain ⟨am, cm, hv0, _⟩ := owns_keys hown hac.symm
    rw [hac] at hv0
    subst hv0
    have HKK := Lib.hid hkj
    have HO := Lib.hid hown
    have HB := Lib.hid hbel
    have HBT := Lib.hid (HB1.out.trans (hbel.mono HB1.out.size))
    have hzw : w1.heap.size ≤ wr.heap.size := hbel.size
    have hxw : wr.heap[w.heap.size]? = some (.cells #[.int .u8 v.kind, .int .i64 v.n, .string v.t, .slice an nn cn, .slice ai nn ci] 29 (0, 0)) := by rw [hbel.block _ hz1]; exact HX1.out
    have HXW := Lib.hid hxw
    have c3 : wr.cell? ⟨w.heap.size, 3, none⟩ = some (.slice an nn cn) := box_cell hxw rfl
    have c4 : wr.cell? ⟨w.heap.size, 4, none⟩ = some (.slice ai nn ci) := box_cell hxw rfl
    clear hkj hown hbel hxw
    by_cases hlt : k < nn
    · have hlv : k < v.names.length := by rw [← HNN.out]; exact hlt
      have hli : k < v.items.length := by rw [HNI.out]; exact hlt
      have HST := Lib.hid (keysL_step v.names v.items k acc hlv hli)
      obtain ⟨p, f, ha, _, hpb, y1⟩ := (H3.out.below HBT.out (Nat.le_refl _) (Nat.le_refl _) (Nat.le_refl _)).at k hlv
      subst ha
      obtain ⟨p', f', e0, e1, e2, e3, e4, ha, _, hpb', g0, g1, g2, g3, g4, hr⟩ := (H4.out.below HBT.out (Nat.le_refl _) (Nat.le_refl _) (Nat.le_refl _)).at k hli
      subst ha
      have hw1 := JV.wts_get v.items k hli
      have HOF := Lib.hid (keyOfW v.items[k] _ wr w.heap.size (by omega) (by have := HBT.out.size; omega) hr)
      unfold KeyOfPost at HOF
      have HKO := Lib.hid (@keyOfJ_ok v.items[k])
      obtain ⟨K, hK⟩ : ∃ K, K = keyOfJ v.items[k] := ⟨_, rfl⟩
      obtain ⟨nk, hnk⟩ : ∃ nk, nk = v.names[k] := ⟨_, rfl⟩
      rw [← hK] at HOF HKO
      replace HST := Lib.hid (HST.out.trans (congrArg (fun z => stepL z v.names[k] (v.names.drop (k + 1)) (v.items.drop (k + 1)) acc) hK.symm))
      replace HST := Lib.hid (HST.out.trans (congrArg (fun z => stepL K z (v.names.drop (k + 1)) (v.items.drop (k + 1)) acc) hnk.symm))
      replace y1 := y1.trans (congrArg (fun z => some (Value.string z)) hnk.symm)
      clear hK hnk hr hw1 hlv hli
      obtain ⟨⟨sch, kp⟩, ke⟩ := K
      have q0 : (0 : Int) ≤ (k : Int) := by omega
      have q1 : (k : Int) < (nn : Int) := by omega
      by_cases hke : ke = 0
      case neg =>
        have t3 : (ke != 0) = true := by simpa using hke
        have HKE := Lib.hid (show keysJ v = ([], ke) by rw [HKK.out, HST.out]; unfold stepL; rw [if_pos hke])
        clear hke
        go_wp2_with fail
        refine HOF.out.mono ?_
        rintro e w2 ⟨rfl, hb2⟩
        have HB2 := Lib.hid ((HBT.out.trans (hb2.mono HBT.out.size)).alloc (by have := HBT.out.size; have := hb2.size; omega) (.cells #[.string sch, .string kp] 23))
        clear hb2
        go_wp2
        go_ret2
        exact ⟨.slice none 0 0, by rw [HKE.out] <;> rfl, by rw [HKE.out]; exact World.ownsRow_nil _ _ _ _, HB2.out⟩
      subst hke
      obtain ⟨hok, hsz1, hsz2⟩ := HKO.out rfl
      replace hok : keyOk sch.data.toList kp.data.toList = true := hok
      replace hsz1 : sch.size ≤ 64 := hsz1
      replace hsz2 : kp.size ≤ 128 := hsz2
      go_wp2_with fail
      refine HOF.out.mono ?_
      clear HOF
      rintro e w2 ⟨rfl, hb2⟩
      have hz2 : wr.heap.size ≤ w2.heap.size := hb2.size
      obtain ⟨W2, hW2⟩ : ∃ W2, W2 = w2.alloc (.cells #[.string sch, .string kp] 23) := ⟨_, rfl⟩
      have hb22 : Below wr.heap.size wr W2 := by rw [hW2]; exact hb2.alloc hb2.size _
      have HB2 := Lib.hid (HB.out.trans (hb22.mono hzw))
      have HBT2 := Lib.hid (HBT.out.trans (hb22.mono HBT.out.size))
      have HO2 := Lib.hid (owns_below HO.out hb22)
      have HX2 := Lib.hid (show W2.heap[w2.heap.size]? = some (.cells #[.string sch, .string kp] 23 (0, 0)) by rw [hW2]; exact heap_alloc_new w2 _)
      have HID := Lib.hid (keyID sch kp W2 (by omega) (by omega) (HT.out.below HBT2.out))
      unfold KeyIdPost at HID
      rw [hok, if_pos rfl] at HID
      obtain ⟨ID, hID⟩ : ∃ ID : ByteArray, ID = ⟨(keyId sch.data.toList kp.data.toList).toArray⟩ := ⟨_, rfl⟩
      rw [← hID] at HID
      replace HST := Lib.hid (show keysL (v.names.drop k) (v.items.drop k) acc = if (ID.toList == nk.toList) = true then keysL (v.names.drop (k + 1)) (v.items.drop (k + 1)) (acc ++ [(sch, kp)]) else ([], 3) by rw [HST.out]; unfold stepL; rw [if_neg (by simp)]; rw [hID]; rfl)
      have hzW : W2.heap.size = w2.heap.size + 1 := by rw [hW2]; simp
      have HW2 := Lib.hid hW2
      clear hID hok hb2 hb22 hW2
      go_wp2_with fail
      rw [← HW2.out]
      refine HID.out.mono ?_
      clear HID HW2
      rintro e w3 ⟨rfl, hb3⟩
      have hz3 : W2.heap.size ≤ w3.heap.size := hb3.size
      have HB3 := Lib.hid (HB2.out.trans (hb3.mono (by omega)))
      have HBT3 := Lib.hid (HBT2.out.trans (hb3.mono (HBT2.out.size)))
      have HO3 := Lib.hid (owns_below HO2.out hb3)
      have hx3 : w3.heap[w2.heap.size]? = some (.cells #[.string sch, .string kp] 23 (0, 0)) := by rw [hb3.block _ (heap_lt HX2.out)]; exact HX2.out
      have x0 : w3.cell? ⟨w2.heap.size, 0, none⟩ = some (.string sch) := box_cell hx3 rfl
      have x1 : w3.cell? ⟨w2.heap.size, 1, none⟩ = some (.string kp) := box_cell hx3 rfl
      clear hb3 hx3 g0 g1 g2 g3 g4 c3 c4 y1
      cases hq : (ID.toList == nk.toList)
      · have t4 : (ID.toList != nk.toList) = true := by simpa [bne] using hq
        have HKE := Lib.hid (show keysJ v = ([], 3) by rw [HKK.out, HST.out, hq]; rfl)
        go_wp2_with fail
        skip
        go_ret2
        exact ⟨.slice none 0 0, by rw [HKE.out] <;> rfl, by rw [HKE.out]; exact World.ownsRow_nil _ _ _ _, HBT3.out⟩
      · have t4 : (ID.toList != nk.toList) = false := by simpa [bne] using hq
        have HKE := Lib.hid (show keysJ v = keysL (v.names.drop (k + 1)) (v.items.drop (k + 1)) (acc ++ [(sch, kp)]) by rw [HKK.out, HST.out, hq]; rfl)
        go_wp2_with (at_builtin; refine wpList_append_lies _ rfl (.tmp 51) (.tmp 53) 43 rfl w1.heap.size 23 i3 _ 2 32 Tryz.underlying43 hi3 iz0 iz1 iz2 rfl (by decide) (.slice am k cm) k (acc.flatMap encK) rfl (HO3.out.alloc _) ⟨w3.heap.size, 0, none⟩ 1 1 [.string sch, .string kp] rfl rfl (World.news_of_block (cs := #[.string sch, .string kp]) (t := 23) (fr := (0, 0)) (heap_alloc_new w3 _)) (by simp [Value.oneCell']) (by omega) (by unfold maxLen; omega) (by omega) (by simp; omega) (w3.heap.size + 1) (by simp) ?_; intro g1 cap2 w6 hown6 hgrow6 hat6 hlt6; have HO6 := Lib.hid hown6; have HG6 := Lib.hid hgrow6; clear hown6 hgrow6 hat6)
        go_roundw
        case rel =>
          refine ⟨k + 1, acc ++ [(sch, kp)], by omega, by go_num, by simp [hac], HKE.out, ?_, below_grown (HB3.out.alloc (by omega) _) (by simp; omega) HG6.out (fun b hb => (HO3.out.lt b hb).1)⟩
          rw [List.flatMap_append]
          simpa [encK] using HO6.out
        case measure => simp [intOf]; omega
    · obtain rfl : k = nn := by omega
      have HKE := Lib.hid (show keysJ v = (acc, 0) by
        rw [HKK.out, List.drop_of_length_le (by rw [← HNN.out]; exact Nat.le_refl _), keysL_nil])
      go_wp2
      go_ret2
      exact ⟨_, by rw [HKE.out] <;> rfl, by rw [HKE.out]; have := owns_mono (base' := w.heap.size) HO.out (Nat.le_of_lt hz1); show wr.ownsRow _ _ _ _ acc.length _; rw [hac]; exact this, HBT.out⟩

end Go.Proofs.YtcahpjejpimdhaaGreatDoor

namespace Go.Proofs.YtcahpjejpimdhaaGreatDoor
open Go.RowKit

theorem ba_nil {t : ByteArray} (h : t.toList = []) : t = { data := #[] } := ba_ext (by rw [h, ByteArray.toList_eq])
theorem proper5 {n : Int} {t : ByteArray} {ns : List ByteArray} {li : Nat} (h : properB 5 n t ns li = true) : n = 0 ∧ t = { data := #[] } ∧ ns.length = li ∧ rises ns = true ∧ ns.all txtOk = true := by
  have e : properB 5 n t ns li = (decide (n = 0 ∧ t.toList = [] ∧ ns.length = li) && rises ns && ns.all txtOk) := rfl
  rw [e] at h
  simp only [Bool.and_eq_true, decide_eq_true_eq] at h
  exact ⟨h.1.1.1, ba_nil h.1.1.2.1, h.1.1.2.2, h.1.2, h.2⟩
theorem proper3 {n : Int} {t : ByteArray} {ns : List ByteArray} {li : Nat} (h : properB 3 n t ns li = true) : n = 0 ∧ ns = [] ∧ li = 0 := by
  have e : properB 3 n t ns li = (decide (n = 0 ∧ ns.length = 0 ∧ li = 0) && txtOk t) := rfl
  rw [e] at h
  simp only [Bool.and_eq_true, decide_eq_true_eq] at h
  exact ⟨h.1.1, List.eq_nil_of_length_eq_zero h.1.2.1, h.1.2.2⟩
theorem partsB_mem : ∀ {l : List JV}, JV.partsB l = true → ∀ x ∈ l, JV.partB x = true
  | [], _, x, hx => by simp at hx
  | y :: r, h, x, hx => by
    rw [JV.partsB, Bool.and_eq_true] at h
    rcases List.mem_cons.1 hx with rfl | hx
    · exact h.1
    · exact partsB_mem h.2 x hx
theorem may_part {v : JV} (h : v.mayB = true) : v.partB = true := by
  rw [JV.mayB_iff] at h
  simp only [Bool.and_eq_true] at h
  exact h.1.1
theorem part_txt {x : JV} (h : x.partB = true) (h3 : x.kind = 3) : x = txtJ x.t := by
  obtain ⟨k, n, t, ns, xs⟩ := x
  obtain rfl : k = 3 := h3
  rw [JV.partB, Bool.and_eq_true] at h
  obtain ⟨rfl, rfl, hx⟩ := proper3 h.1
  obtain rfl : xs = [] := List.eq_nil_of_length_eq_zero hx
  rfl
theorem lookL_mem : ∀ {ns : List ByteArray} {xs : List JV} {y : ByteArray} {x : JV}, lookL ns xs y = some x → y ∈ ns ∧ x ∈ xs
  | [], _, _, _, h => by simp [lookL] at h
  | _ :: _, [], _, _, h => by simp [lookL] at h
  | n :: ns, z :: xs, y, x, h => by
    rw [lookL] at h
    split at h
    · next e => cases h; exact ⟨by simp [e], by simp⟩
    · have := lookL_mem h; exact ⟨by simp [this.1], by simp [this.2]⟩
/-- Names that rise, and are public and scheme, are these two. -/
theorem names_two {ns : List ByteArray} (hr : rises ns = true) (hp : pubN ∈ ns) (hs : schN ∈ ns) (ho : ∀ n ∈ ns, n = pubN ∨ n = schN) : ns = [pubN, schN] := by
  have hlt : bl schN pubN = false := by
    have := names_ok.2.2
    unfold rises at this
    rw [Bool.and_eq_true] at this
    exact bl_asymm this.1
  have hnd := rises_nodup hr
  match ns, hr, hp, hs, ho, hnd with
  | [], _, hp, _, _, _ => simp at hp
  | [a], _, hp, hs, _, _ =>
    simp at hp hs
    exact absurd (hp.trans hs.symm) pub_ne
  | [a, b], hr, hp, hs, ho, hnd =>
    rcases ho a (by simp) with rfl | rfl <;> rcases ho b (by simp) with rfl | rfl
    · simp at hnd
    · rfl
    · unfold rises at hr
      rw [Bool.and_eq_true] at hr
      have := hr.1
      rw [show Op.bytesLess schN.toList pubN.toList = bl schN pubN from rfl, hlt] at this
      cases this
    · simp at hnd
  | a :: b :: c :: r, _, _, _, ho, hnd =>
    rcases ho a (by simp) with rfl | rfl <;> rcases ho b (by simp) with rfl | rfl <;> rcases ho c (by simp) with rfl | rfl <;> simp at hnd
theorem keyOf_back {v : JV} (h : (keyOfJ v).2 = 0) : v.mayB = true ∧ v = keyJ (keyOfJ v).1.1 (keyOfJ v).1.2 := by
  unfold keyOfJ at h ⊢
  split at h
  · cases h
  next c1 =>
  rw [if_neg c1]
  split at h
  · cases h
  next c2 =>
  rw [if_neg c2]
  split at h
  · next c3 => exact absurd h c3
  next c3 =>
  rw [if_neg c3]
  split at h
  case isFalse => cases h
  next c4 =>
  rw [if_pos c4]
  have hm : v.mayB = true := by simpa using c1
  have hk : v.kind = 5 := by simpa using c2
  refine ⟨hm, ?_⟩
  have hpt := may_part hm
  replace c3 : pickDone v (pickText v schN (pickText v pubN ⟨[], 0⟩).2).2 = 0 := by simpa using c3
  clear c4 c1 c2
  cases h1 : v.look pubN with
  | none =>
    have e1 : pickText v pubN ⟨[], 0⟩ = ({ data := #[] }, ⟨[], 6⟩) := by unfold pickText; rw [if_neg (by simp), h1]
    have e2 : pickText v schN ⟨[], 6⟩ = ({ data := #[] }, ⟨[], 6⟩) := by unfold pickText; rw [if_pos (by simp)]
    rw [e1] at c3; simp only at c3; rw [e2] at c3; unfold pickDone at c3; rw [if_pos (by simp)] at c3; cases c3
  | some a =>
    by_cases ka : a.kind = 3
    case neg =>
      have e1 : pickText v pubN ⟨[], 0⟩ = ({ data := #[] }, ⟨[], 10⟩) := by unfold pickText; rw [if_neg (by simp), h1]; simp only; rw [if_neg ka]
      have e2 : pickText v schN ⟨[], 10⟩ = ({ data := #[] }, ⟨[], 10⟩) := by unfold pickText; rw [if_pos (by simp)]
      rw [e1] at c3; simp only at c3; rw [e2] at c3; unfold pickDone at c3; rw [if_pos (by simp)] at c3; cases c3
    have e1 : pickText v pubN ⟨[], 0⟩ = (a.t, ⟨[pubN], 0⟩) := by unfold pickText; rw [if_neg (by simp), h1]; simp only; rw [if_pos ka]
    rw [e1] at c3 ⊢
    simp only at c3 ⊢
    cases h2 : v.look schN with
    | none =>
      have e2 : pickText v schN ⟨[pubN], 0⟩ = ({ data := #[] }, ⟨[pubN], 6⟩) := by unfold pickText; rw [if_neg (by simp), h2]
      rw [e2] at c3; unfold pickDone at c3; rw [if_pos (by simp)] at c3; cases c3
    | some b =>
      by_cases kb : b.kind = 3
      case neg =>
        have e2 : pickText v schN ⟨[pubN], 0⟩ = ({ data := #[] }, ⟨[pubN], 10⟩) := by unfold pickText; rw [if_neg (by simp), h2]; simp only; rw [if_neg kb]
        rw [e2] at c3; unfold pickDone at c3; rw [if_pos (by simp)] at c3; cases c3
      have e2 : pickText v schN ⟨[pubN], 0⟩ = (b.t, ⟨[schN, pubN], 0⟩) := by unfold pickText; rw [if_neg (by simp), h2]; simp only; rw [if_pos kb]
      rw [e2] at c3 ⊢
      simp only at c3 ⊢
      unfold pickDone at c3
      rw [if_neg (by simp)] at c3
      have hall : v.names.all (fun n => [schN, pubN].any fun a => decide (a = n)) = true := by
        split at c3
        · assumption
        · cases c3
      obtain ⟨k, n, t, ns, xs⟩ := v
      obtain rfl : k = 5 := hk
      rw [JV.partB, Bool.and_eq_true] at hpt
      obtain ⟨rfl, rfl, hlen, hris, _⟩ := proper5 hpt.1
      have hal2 : ∀ x ∈ ns, x = pubN ∨ x = schN := fun x hx => by
        have := List.all_eq_true.1 hall x hx
        simp at this
        rcases this with e | e
        · exact .inr e.symm
        · exact .inl e.symm
      obtain rfl := names_two hris (lookL_mem h1).1 (lookL_mem h2).1 hal2
      match xs, hlen with
      | [p, q], _ =>
        have w1 : lookL [pubN, schN] [p, q] pubN = some p := by simp [lookL]
        have w2 : lookL [pubN, schN] [p, q] schN = some q := by simp [lookL, pub_ne]
        obtain rfl : p = a := Option.some.inj (w1.symm.trans h1)
        obtain rfl : q = b := Option.some.inj (w2.symm.trans h2)
        have p1 := part_txt (partsB_mem hpt.2 p (by simp)) ka
        have p2 := part_txt (partsB_mem hpt.2 q (by simp)) kb
        unfold keyJ
        rw [← p1, ← p2]

theorem txt_id {k : Key2} (h : ok2 k = true) : txtOk (id2 k) = true := by
  have e : (id2 k).data.toList = shaHex (keyForm k.1.data.toList k.2.data.toList) := by
    show (keyId _ _) = _
    unfold keyId
    rw [if_pos (show keyOk k.1.data.toList k.2.data.toList = true from h)]
  refine txtOk_plain ?_ (Nat.le_trans id2_size (by decide))
  rw [e]
  have := allHex_sha (keyForm k.1.data.toList k.2.data.toList)
  unfold allHex at this
  exact fun c hc => plain_hex (List.all_eq_true.1 this c hc)
theorem tabJ_may {m : List Key2} (hok : ∀ k ∈ m, ok2 k = true) (hr : rises (ids m) = true) (hl : m.length ≤ 32) : (tabJ m).mayB = true := by
  rw [JV.mayB_iff]
  have hp : ∀ m : List Key2, (∀ k ∈ m, ok2 k = true) → JV.partsB (m.map obj2) = true := fun m => by
    induction m with
    | nil => intro _; rfl
    | cons k r ih =>
      intro h
      rw [List.map_cons, JV.partsB, Bool.and_eq_true]
      exact ⟨may_part (keyJ_may (h k (by simp))), ih fun x hx => h x (List.mem_cons_of_mem _ hx)⟩
  have hc : ∀ m : List Key2, JV.counts (m.map obj2) = 3 * m.length := fun m => by
    induction m with
    | nil => rfl
    | cons k r ih =>
      have : JV.count (obj2 k) = 3 := rfl
      rw [List.map_cons, JV.counts, ih, this, List.length_cons]; omega
  have hd : ∀ m : List Key2, JV.depths (m.map obj2) ≤ 1 := fun m => by
    induction m with
    | nil => exact Nat.zero_le _
    | cons k r ih =>
      have : JV.depth (obj2 k) = 1 := rfl
      rw [List.map_cons, JV.depths, this]; omega
  have h1 : (tabJ m).partB = true := by
    unfold tabJ
    rw [JV.partB, hp m hok]
    have : properB 5 0 { data := #[] } (m.map id2) (m.map obj2).length = (decide ((0 : Int) = 0 ∧ ({ data := #[] } : ByteArray).toList = [] ∧ (m.map id2).length = (m.map obj2).length) && rises (m.map id2) && (m.map id2).all txtOk) := rfl
    rw [this, show rises (m.map id2) = true from hr, ByteArray.toList_eq]
    have h2 : (m.map id2).all txtOk = true := by
      rw [List.all_eq_true]
      intro x hx
      obtain ⟨k, hk, rfl⟩ := List.mem_map.1 hx
      exact txt_id (hok k hk)
    rw [h2]
    simp
  have h2 : (tabJ m).count ≤ 8192 := by unfold tabJ; rw [JV.count, hc]; omega
  have h3 : (tabJ m).depth ≤ 12 := by
    unfold tabJ; rw [JV.depth, if_neg (by simp)]; have := hd m; omega
  rw [h1]
  simp [h2, h3]
theorem keysL_tab : ∀ (m : List Key2) (acc : List Key2), (∀ k ∈ m, ok2 k = true) → keysL (m.map id2) (m.map obj2) acc = (acc ++ m, 0)
  | [], acc, _ => by simp [keysL]
  | k :: r, acc, h => by
    have e := keyOf_keyJ (s := k.1) (t := k.2) (h k (by simp))
    rw [List.map_cons, List.map_cons, keysL, show obj2 k = keyJ k.1 k.2 from rfl, e]
    simp only
    rw [if_neg (by simp), if_pos (by simp [id2]), keysL_tab r _ fun x hx => h x (List.mem_cons_of_mem _ hx)]
    simp
theorem keysJ_tab {m : List Key2} (hok : ∀ k ∈ m, ok2 k = true) (hr : rises (ids m) = true) (hl : m.length ≤ 32) : keysJ (tabJ m) = (m, 0) := by
  unfold keysJ
  rw [if_neg (by rw [tabJ_may hok hr hl]; simp), if_neg (by show ¬ (5 : Int) ≠ 5; simp), if_neg (by show ¬ 32 < (m.map id2).length; simp; omega)]
  show keysL (m.map id2) (m.map obj2) [] = _
  rw [keysL_tab m [] hok, List.nil_append]
theorem keysL_back : ∀ (ns : List ByteArray) (its : List JV) (acc : List Key2), ns.length = its.length → (keysL ns its acc).2 = 0 → ∃ m : List Key2, (keysL ns its acc).1 = acc ++ m ∧ ns = m.map id2 ∧ its = m.map obj2 ∧ ∀ k ∈ m, ok2 k = true
  | [], [], acc, _, _ => ⟨[], by simp [keysL]⟩
  | id :: ns, it :: its, acc, hl, h => by
    rw [keysL] at h ⊢
    split at h
    · next c => exact absurd h c
    next c =>
    rw [if_neg c]
    split at h
    case isFalse => cases h
    next c2 =>
    rw [if_pos c2]
    obtain ⟨m, e1, e2, e3, e4⟩ := keysL_back ns its _ (by simpa using hl) h
    have c' : (keyOfJ it).2 = 0 := by simpa using c
    obtain ⟨_, hb⟩ := keyOf_back c'
    obtain ⟨hok, _, _⟩ := keyOfJ_ok c'
    refine ⟨(keyOfJ it).1 :: m, by rw [e1]; simp, ?_, ?_, ?_⟩
    · rw [List.map_cons, ← e2]
      congr 1
      exact (ba_ext (eq_of_beq c2)).symm
    · rw [List.map_cons, ← e3]
      congr 1
    · intro k hk
      rcases List.mem_cons.1 hk with rfl | hk
      · exact hok
      · exact e4 k hk
theorem keysL_none : ∀ (ns : List ByteArray) (its : List JV) (acc : List Key2), (keysL ns its acc).2 ≠ 0 → (keysL ns its acc).1 = []
  | [], _, acc, h => by simp [keysL] at h
  | _ :: _, [], acc, h => by simp [keysL] at h
  | id :: ns, it :: its, acc, h => by
    rw [keysL] at h ⊢
    split
    · rfl
    · split
      · next c1 c2 => rw [if_neg c1, if_pos c2] at h; exact keysL_none ns its _ h
      · rfl
theorem keysJ_none {v : JV} (h : (keysJ v).2 ≠ 0) : (keysJ v).1 = [] := by
  unfold keysJ at h ⊢
  split
  · rfl
  next c1 =>
  rw [if_neg c1] at h
  split
  · rfl
  next c2 =>
  rw [if_neg c2] at h
  split
  · rfl
  next c3 =>
  rw [if_neg c3] at h
  exact keysL_none _ _ _ h
theorem keysJ_back {v : JV} (h : (keysJ v).2 = 0) : v = tabJ (keysJ v).1 ∧ (∀ k ∈ (keysJ v).1, ok2 k = true) ∧ rises (ids (keysJ v).1) = true ∧ (keysJ v).1.length ≤ 32 := by
  unfold keysJ at h ⊢
  split at h
  · cases h
  next c1 =>
  rw [if_neg c1]
  split at h
  · cases h
  next c2 =>
  rw [if_neg c2]
  split at h
  · cases h
  next c3 =>
  rw [if_neg c3]
  have hm : v.mayB = true := by simpa using c1
  have hk : v.kind = 5 := by simpa using c2
  have hpt := may_part hm
  obtain ⟨k, n, t, ns, xs⟩ := v
  obtain rfl : k = 5 := hk
  rw [JV.partB, Bool.and_eq_true] at hpt
  obtain ⟨rfl, rfl, hlen, hris, _⟩ := proper5 hpt.1
  obtain ⟨m, e1, e2, e3, e4⟩ := keysL_back ns xs [] hlen h
  have e1' : (keysL (JV.names (.mk 5 0 { data := #[] } ns xs)) (JV.items (.mk 5 0 { data := #[] } ns xs)) []).1 = m := by
    show (keysL ns xs []).1 = m
    rw [e1, List.nil_append]
  rw [e1']
  refine ⟨by unfold tabJ; rw [← e2, ← e3], e4, by unfold ids; rw [← e2]; exact hris, ?_⟩
  have : ns.length = m.length := by rw [e2, List.length_map]
  have c3' : ¬ 32 < ns.length := c3
  omega
theorem tabE_ok {m : List Key2} (hok : ∀ k ∈ m, ok2 k = true) (hr : rises (ids m) = true) (hl : m.length ≤ 32) : tabE m = 0 := by
  unfold tabE
  rw [if_neg (by omega)]
  exact (tabErr_zero m []).2 ⟨hok, by simp, rises_nodup hr⟩
theorem ok2_size {k : Key2} (h : ok2 k = true) : k.1.size ≤ 300 ∧ k.2.size ≤ 300 := by
  obtain ⟨_, _, a, b⟩ := key_txt h
  omega

end Go.Proofs.YtcahpjejpimdhaaGreatDoor

namespace Go.Proofs.YtcahpjejpimdhaaGreatDoor
open Go.RowKit

theorem key_names (s t : ByteArray) : (keyJ s t).names = [pubN, schN] := rfl
theorem key_items (s t : ByteArray) : (keyJ s t).items = [txtJ t, txtJ s] := rfl
/-- What Of tells of an object that has public and scheme as texts, and another name. -/
theorem keyOf_more {u : JV} {a b : ByteArray} {n : ByteArray} (hk : u.kind = 5) (hp : u.look pubN = some (txtJ a)) (hs : u.look schN = some (txtJ b)) (hn : n ∈ u.names) (h1 : n ≠ pubN) (h2 : n ≠ schN) :
    (keyOfJ u).2 = if u.mayB then 11 else 3 := by
  unfold keyOfJ
  cases hm : u.mayB
  · rw [if_pos rfl]; rfl
  · have e1 : pickText u pubN ⟨[], 0⟩ = (a, ⟨[pubN], 0⟩) := by unfold pickText; rw [if_neg (by simp), hp]; rfl
    have e2 : pickText u schN ⟨[pubN], 0⟩ = (b, ⟨[schN, pubN], 0⟩) := by unfold pickText; rw [if_neg (by simp), hs]; rfl
    have e3 : pickDone u ⟨[schN, pubN], 0⟩ = 11 := by
      unfold pickDone
      rw [if_neg (by simp), if_neg]
      intro h
      have := List.all_eq_true.1 h n hn
      simp at this
      rcases this with e | e
      · exact h2 e.symm
      · exact h1 e.symm
    rw [if_neg (by simp), if_neg (by simp [hk]), e1]
    simp only
    rw [e2]
    simp only
    rw [e3, if_pos (by simp)]
    rfl
theorem keyOf_with {s t n : ByteArray} {r : Nat} {f : Bool} {x : JV} (hr : r ≤ 2) (h1 : n ≠ pubN) (h2 : n ≠ schN) (hf : f = true → ∃ h : r < (keyJ s t).names.length, (keyJ s t).names[r] = n) :
    (keyOfJ (withJ (keyJ s t) r f n x)).2 = if (withJ (keyJ s t) r f n x).mayB then 11 else 3 := by
  have ff : f = false := by
    cases f
    · rfl
    · obtain ⟨h, e⟩ := hf rfl
      match r, h, e with
      | 0, _, e => exact absurd e.symm h1
      | 1, _, e => exact absurd e.symm h2
  subst ff
  match r, hr with
  | 0, _ => exact keyOf_more (a := t) (b := s) (n := n) rfl (by simp [JV.look, withJ, withN, withI, JV.names, JV.items, keyJ, lookL, h1]) (by simp [JV.look, withJ, withN, withI, JV.names, JV.items, keyJ, lookL, h2, pub_ne]) (by simp [withJ, withN, JV.names, keyJ]) h1 h2
  | 1, _ => exact keyOf_more (a := t) (b := s) (n := n) rfl (by simp [JV.look, withJ, withN, withI, JV.names, JV.items, keyJ, lookL]) (by simp [JV.look, withJ, withN, withI, JV.names, JV.items, keyJ, lookL, h2, pub_ne]) (by simp [withJ, withN, JV.names, keyJ]) h1 h2
  | 2, _ => exact keyOf_more (a := t) (b := s) (n := n) rfl (by simp [JV.look, withJ, withN, withI, JV.names, JV.items, keyJ, lookL]) (by simp [JV.look, withJ, withN, withI, JV.names, JV.items, keyJ, lookL, pub_ne]) (by simp [withJ, withN, JV.names, keyJ]) h1 h2

/-- An object of a scheme alone. -/
def oneS (s : ByteArray) : JV := .mk 5 0 { data := #[] } [schN] [txtJ s]
theorem oneS_may {t : ByteArray} (h2 : txtOk t = true) : (oneS t).mayB = true := by
  obtain ⟨n1, n2, n3⟩ := names_ok
  unfold JV.mayB oneS
  have hp : properB 5 0 { data := #[] } [schN] 1 = true := by
    unfold properB
    rw [ByteArray.toList_eq]
    simp [n2, rises]
  have hm : JV.mays [txtJ t] (12 - 1) (8192 - 1) = (true, 8192 - 1 - 1) := by
    rw [JV.mays, txtJ_may t h2 _ _ (by omega), if_pos rfl, JV.mays]
  rw [JV.may, if_neg (by omega), show ([txtJ t] : List JV).length = 1 from rfl, hp, if_neg (by decide), if_neg (by decide), if_neg (by decide), hm]
theorem keyOf_oneS {t : ByteArray} (h : txtOk t = true) : (keyOfJ (oneS t)).2 = 6 := by
  have l1 : (oneS t).look pubN = none := by unfold JV.look oneS JV.names JV.items; simp [lookL]; exact fun e => pub_ne e.symm
  have h1 : pickText (oneS t) pubN ⟨[], 0⟩ = ({ data := #[] }, ⟨[], 6⟩) := by unfold pickText; rw [if_neg (by simp), l1]
  have h2 : pickText (oneS t) schN ⟨[], 6⟩ = ({ data := #[] }, ⟨[], 6⟩) := by unfold pickText; rw [if_pos (by simp)]
  have h3 : pickDone (oneS t) ⟨[], 6⟩ = 6 := by unfold pickDone; rw [if_pos (by simp)]
  unfold keyOfJ
  rw [if_neg (by rw [oneS_may h]; simp), if_neg (by show ¬ (5 : Int) ≠ 5; simp), h1]
  simp only
  rw [h2]
  simp only
  rw [h3, if_pos (by simp)]

/-- An object of one name, with a key's object. -/
def tabOne (n s t : ByteArray) : JV := .mk 5 0 { data := #[] } [n] [keyJ s t]
theorem keys_one {n s t : ByteArray} (h : keyOk s.data.toList t.data.toList = true) : ((keysJ (tabOne n s t)).2 == 0) = (n.toList == (idOf s t).toList) := by
  cases hq : (n.toList == (idOf s t).toList)
  · rw [beq_eq_false_iff_ne]
    intro h0
    obtain ⟨ht, _, _, _⟩ := keysJ_back h0
    generalize (keysJ (tabOne n s t)).1 = m at ht
    unfold tabOne tabJ at ht
    injection ht with _ _ _ e4 e5
    match m, e4, e5 with
    | [k], e4, e5 =>
      simp only [List.map_cons, List.map_nil, List.cons.injEq, and_true] at e4 e5
      obtain ⟨ks, kt⟩ := k
      have e6 : keyJ s t = keyJ ks kt := e5
      unfold keyJ txtJ at e6
      injection e6 with _ _ _ _ e7
      simp only [List.cons.injEq, JV.mk.injEq, true_and, and_true] at e7
      obtain ⟨rfl, rfl⟩ := e7
      rw [e4] at hq
      simp [id2] at hq
  · have e : n = idOf s t := ba_ext (eq_of_beq hq)
    have e2 : tabOne n s t = tabJ [(s, t)] := by rw [e]; rfl
    rw [e2, keysJ_tab (m := [(s, t)]) (by intro k hk; simp at hk; subst hk; exact h) rfl (by simp)]
    rfl
theorem idOf_no {s t : ByteArray} (h : keyOk s.data.toList t.data.toList = false) : idOf s t = { data := #[] } := by
  unfold idOf keyId; rw [h]; rfl
theorem tabOne_wt {n s t : ByteArray} (hn : n.size ≤ 300) (hs : s.size ≤ 300) (ht : t.size ≤ 300) : (tabOne n s t).wt ≤ 4294967296 := by
  unfold tabOne keyJ txtJ
  have e1 : pubN.size = 6 := rfl
  have e2 : schN.size = 6 := rfl
  have e3 : ({ data := #[] } : ByteArray).size = 0 := rfl
  simp only [JV.wt, JV.wts, bytesSum]
  omega

end Go.Proofs.YtcahpjejpimdhaaGreatDoor
