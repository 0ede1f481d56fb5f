/- Plain: the reference's words for layer 17 say the same. No program in sight. The contracts of legateref03.Block, combined and Of. The contracts of legateref15.Digest, ids, May and of legateref16.sig. Plain: what legateref04.begins tells of bytes, and that it is UTF-8's rule. No program in sight. Plain: the reference's rule at a place of a text, and Go's decoder. The contracts of legateref04.begins, legateref04.Next, legateref04.Len, legateref08.Text. The contracts of legateref04.Next, legateref04.Len, legateref08.Text. -/
import Derived.Test.YtaekmmnpdbmoeaaGreatDoorJh16
import Derived.Test.YtaekmmnpdbmoeaaGreatDoorJh23
import Derived.Test.YtaekmmnpdbmoeaaGreatDoorJh22
import Derived.Laws.IdiomStrings
import Derived.Test.YtaekmmnpdbmoeaaGreatDoorJh05
import Derived.BigQuiet
import Derived.Test.YtaekmmnpdbmoeaaGreatDoorJh00
import GoSem.Core.Utf8
import Derived.Test.YtaekmmnpdbmoeaaGreatDoorJh14
import Derived.IntWalk

namespace Go.Proofs.YtaekmmnpdbmoeaaGreatDoor
open Go.RowKit

theorem ba_list {a : ByteArray} {l : List UInt8} : a = ⟨l.toArray⟩ ↔ a.data.toList = l := by
  constructor
  · intro h; rw [h]
  · intro h; rw [← h]
theorem good_mac_ref (k : Key2) (s : Sig2) (m : List UInt8) : Ver.mac.good k s m = (ok2 k && (decide (id2 k = s.1) && (pubOk s.2.data.toList && (decide (k.1 = schemeH) && decide (s.2 = (⟨(macHex k.2.data.toList m).toArray⟩ : ByteArray)))))) := by
  unfold Ver.good Ver.by
  cases hp : pubOk s.2.data.toList
  · simp
  · have e : decide (hexDec s.2.data.toList = macL (hexDec k.2.data.toList) m) = decide (s.2 = (⟨(macHex k.2.data.toList m).toArray⟩ : ByteArray)) := by
      rw [Bool.eq_iff_iff, decide_eq_true_eq, decide_eq_true_eq, dec_iff hp, ba_list]
      rfl
    simp only [e, eq_comm (a := s.1), Bool.true_and]
theorem good_tab_ref (L : List Ver3) (k : Key2) (s : Sig2) (m : List UInt8) : (Ver.tab L).good k s m = (ok2 k && (decide (id2 k = s.1) && (pubOk s.2.data.toList && L.any fun v => decide (v.1 = s.1 ∧ v.2.1 = s.2 ∧ v.2.2 = (⟨(shaHex m).toArray⟩ : ByteArray))))) := by
  unfold Ver.good Ver.by
  cases pubOk s.2.data.toList
  · simp
  · simp only [eq_comm (a := s.1), Bool.true_and]
/-- The counting by the reference: a key that is found has the ID that is asked for. -/
theorem hasV_find {v : Ver} {keys : List Key2} {id : ByteArray} {l : List Sig2} {m : List UInt8} (hid : id2 (findK id keys).1 = id) : hasV v (findK id keys).1 id l m = l.any fun s => v.good (findK id keys).1 s m := by
  unfold hasV
  congr 1
  funext s
  cases hg : v.good (findK id keys).1 s m
  · simp
  · unfold Ver.good at hg
    simp only [Bool.and_eq_true, decide_eq_true_eq] at hg
    rw [decide_eq_true (hg.2.2.1.trans hid)]
    rfl

end Go.Proofs.YtaekmmnpdbmoeaaGreatDoor

namespace Go.Proofs.YtaekmmnpdbmoeaaGreatDoor
open Go.RowKit

/-- A row that bears the mark of a conversion behind its end. -/
def MarkRow (w : World) (g T n : Nat) (f : Nat → Value) : Prop := ∃ (C : Array Value) (m : Nat), w.heap[g]? = some (.cells C T (m, m + 1)) ∧ n ≤ m ∧ n ≤ C.size ∧ ∀ j, j < n → C[j]? = some (f j)
section
variable {w w' : World} {g T n : Nat} {f : Nat → Value}
theorem MarkRow.cell (h : MarkRow w g T n f) {j : Nat} (hj : j < n) : w.cell? ⟨g, j, none⟩ = some (f j) := by
  obtain ⟨C, m, h1, _, h2, h3⟩ := h
  simp only [World.cell?, h1]
  exact h3 j hj
theorem MarkRow.frozen (h : MarkRow w g T n f) {j : Nat} (hj : j < n) : w.frozen? ⟨g, j, none⟩ = false := by
  obtain ⟨C, m, h1, h2, _, h3⟩ := h
  simp only [World.frozen?, h1]
  simp; omega
theorem MarkRow.set (h : MarkRow w g T n f) {k : Nat} (hk : k < n) (v : Value) : MarkRow (w.setCell ⟨g, k, none⟩ v) g T n (fun j => if j = k then v else f j) := by
  obtain ⟨C, m, h1, h2, h2', h3⟩ := h
  refine ⟨C.setIfInBounds k v, m, by simp [World.setCell, Array.getElem?_modify, h1], h2, by rw [Array.size_setIfInBounds]; exact h2', fun j hj => ?_⟩
  rw [Array.getElem?_setIfInBounds]
  by_cases e : k = j
  · subst e; rw [if_pos rfl, if_pos (by omega)]; show some v = some (if k = k then v else f k); rw [if_pos rfl]
  · rw [if_neg e, h3 j hj]; show some (f j) = some (if j = k then v else f j); rw [if_neg (Ne.symm e)]
theorem MarkRow.congr {f' : Nat → Value} (h : MarkRow w g T n f) (e : ∀ j, j < n → f j = f' j) : MarkRow w g T n f' := by
  obtain ⟨C, m, h1, h2, h2', h3⟩ := h
  exact ⟨C, m, h1, h2, h2', fun j hj => by rw [h3 j hj, e j hj]⟩
theorem MarkRow.made (w : World) (s : ByteArray) (cap T : Nat) : MarkRow (w.drew.alloc (.cells (bytesRow s cap) T ((bytesRow s cap).size, (bytesRow s cap).size + 1))) w.heap.size T s.size (fun j => .int .u8 (byteI s.data.toList j)) := by
  have hz : s.size ≤ (bytesRow s cap).size := by
    unfold bytesRow
    rw [Array.size_append, Array.size_map]
    show s.data.size ≤ _; omega
  refine ⟨bytesRow s cap, _, ?_, hz, hz, fun j hj => ?_⟩
  · show (w.heap.push _)[w.heap.size]? = _
    rw [Array.getElem?_push_size]
  · unfold bytesRow
    have hj' : j < s.data.size := hj
    rw [Array.getElem?_append_left (by rw [Array.size_map]; exact hj')]
    show _ = some (Value.int .u8 (byteI s.data.toList j))
    rw [byteI_lt _ _ (by rw [Array.length_toList]; exact hj'), Array.getElem?_map, Array.getElem?_eq_getElem hj']
    simp
end

set_option maxHeartbeats 1000000 in
theorem ref03Block (key : ByteArray) (w : World) (hs : key.size ≤ 1099511627000) :
    Calls Tryz.prog 97 #[.string key] w fun e w' => e = .returned (.string ⟨(macBlk key.data.toList).toArray⟩) ∧ Below w.heap.size w w' := by
  have HS := Lib.hid (refSum key w hs)
  obtain ⟨z, hz⟩ : ∃ z, z = key.size := ⟨_, rfl⟩
  obtain ⟨BK, hBK⟩ : ∃ BK : ByteArray, BK = ⟨(macBlk key.data.toList).toArray⟩ := ⟨_, rfl⟩
  rw [← hBK]
  have HBK := Lib.hid (show BK.data.toList = macBlk key.data.toList by rw [hBK])
  clear hBK
  by_cases h64 : 64 < key.size
  · have HM := Lib.hid (show macBlk key.data.toList = shaSum key.data.toList ++ List.replicate (64 - (shaSum key.data.toList).length) 0 by unfold macBlk; rw [if_pos (by rw [toList_length]; exact h64)])
    have HL := Lib.hid (shaSum_length key.data.toList)
    obtain ⟨r, hr⟩ : ∃ r, r = shaSum key.data.toList := ⟨_, rfl⟩
    rw [← hr] at HS HM HL
    clear hr
    have d1 : (64 : Int) < (key.size : Int) := by omega
    go_enter Tryz.func97, Tryz.ntmps97
    go_wp2_with fail
    refine HS.out.mono ?_
    clear HS
    rintro e w1 ⟨rfl, hb1⟩
    have HB1 := Lib.hid hb1
    clear hb1
    go_wp2
    go_loop [0] (fun v => ∃ (t : ByteArray) (j : Nat), v = .string t ∧ t.data.toList = r ++ List.replicate j 0 ∧ t.size = 32 + j ∧ j ≤ 32) (fun v => 64 - strLen v)
    case atStart => exact ⟨_, 0, rfl, by simp, by show r.toArray.size = 32; rw [List.size_toArray, HL.out], by omega⟩
    case round =>
      obtain ⟨t, j, rfl, ht, htz, hj⟩ := hrel
      have HTT := Lib.hid ht
      clear ht
      by_cases hlt : j < 32
      · have d2 : (t.size : Int) < 64 := by omega
        go_wp2
        go_round
        case rel => exact ⟨_, j + 1, rfl, by rw [app_list, HTT.out, List.append_assoc]; exact congrArg (r ++ ·) (List.replicate_succ' ).symm, by rw [ByteArray.size_append]; show t.size + 1 = _; omega, by omega⟩
        case measure =>
          show 64 - (t ++ ⟨#[0]⟩ : ByteArray).size < 64 - t.size
          rw [ByteArray.size_append]
          show 64 - (t.size + 1) < _
          omega
      · have d2 : ¬ ((t.size : Int) < 64) := by omega
        have HE := Lib.hid (show t = BK from ba_ext (by rw [ByteArray.toList_eq, ByteArray.toList_eq, HTT.out, HBK.out, HM.out, HL.out]; rw [show j = 32 by omega]))
        clear htz hj hlt
        go_wp2
        go_ret
        exact ⟨congrArg (fun z => Ending.returned (.string z)) HE.out, HB1.out⟩
  · have HM := Lib.hid (show macBlk key.data.toList = key.data.toList ++ List.replicate (64 - key.data.toList.length) 0 by unfold macBlk; rw [if_neg (by rw [toList_length]; exact h64)])
    have HL := Lib.hid (toList_length key)
    have HZ := Lib.hid hz
    clear hz
    have d1 : ¬ ((64 : Int) < (key.size : Int)) := by omega
    go_enter Tryz.func97, Tryz.ntmps97
    go_wp2
    go_loop [0] (fun v => ∃ (t : ByteArray) (j : Nat), v = .string t ∧ t.data.toList = key.data.toList ++ List.replicate j 0 ∧ t.size = key.size + j ∧ t.size ≤ 64) (fun v => 64 - strLen v)
    case atStart => exact ⟨_, 0, rfl, by simp, rfl, by omega⟩
    case round =>
      obtain ⟨t, j, rfl, ht, htz, hj⟩ := hrel
      have HTT := Lib.hid ht
      clear ht
      by_cases hlt : t.size < 64
      · have d2 : (t.size : Int) < 64 := by omega
        go_wp2
        go_round
        case rel => exact ⟨_, j + 1, rfl, by rw [app_list, HTT.out, List.append_assoc]; exact congrArg (key.data.toList ++ ·) (List.replicate_succ' ).symm, by rw [ByteArray.size_append]; show t.size + 1 = _; omega, by rw [ByteArray.size_append]; show t.size + 1 ≤ _; omega⟩
        case measure =>
          show 64 - (t ++ ⟨#[0]⟩ : ByteArray).size < 64 - t.size
          rw [ByteArray.size_append]
          show 64 - (t.size + 1) < _
          omega
      · have d2 : ¬ ((t.size : Int) < 64) := by omega
        have HE := Lib.hid (show t = BK from ba_ext (by rw [ByteArray.toList_eq, ByteArray.toList_eq, HTT.out, HBK.out, HM.out, HL.out]; rw [show j = 64 - key.size by omega]))
        clear htz hj hlt
        go_wp2
        go_ret
        exact ⟨congrArg (fun z => Ending.returned (.string z)) HE.out, Below.refl _ _⟩

set_option maxRecDepth 100000 in
set_option maxHeartbeats 1000000 in
theorem ref03Combined (s : ByteArray) (x : UInt8) (n : Int) (w : World) (hx : ∀ c : UInt8, bits BinOp.xor IntKind.u8 (c.toNat : Int) n = ((c ^^^ x).toNat : Int)) (hs : s.size = 64) :
    Calls Tryz.prog 98 #[.string s, .int .u8 n] w fun e w' => e = .returned (.string ⟨(macX x s.data.toList).toArray⟩) ∧ Below w.heap.size w w' := by
  have hcv := run_bytes_of_string (P := Tryz.prog) w 9 108 5 s Tryz.underlying9 Tryz.underlying108 Tryz.underlying5
  obtain ⟨cap, hcap⟩ : ∃ cap, cap = grownCap w s.size 0 5 := ⟨_, rfl⟩
  rw [← hcap] at hcv
  have HM := Lib.hid (MarkRow.made w s cap 5)
  have HSL := Lib.hid (toList_length s)
  have HXX := Lib.hid hx
  clear hx
  obtain ⟨W1, hW1⟩ : ∃ W1, W1 = w.drew.alloc (.cells (bytesRow s cap) 5 ((bytesRow s cap).size, (bytesRow s cap).size + 1)) := ⟨_, rfl⟩
  have HB1 := Lib.hid (show Below w.heap.size w W1 by rw [hW1]; exact (show Below w.heap.size w w.drew from ⟨rfl, rfl, rfl, Nat.le_refl _, fun _ _ => rfl⟩).alloc (Nat.le_refl _) _)
  rw [← hW1] at HM hcv
  rw [hs] at hcv HM
  clear hW1 hcap
  go_enter Tryz.func98, Tryz.ntmps98
  go_wp2
  go_loopw [6] (fun i wr => ∃ k : Nat, k ≤ 64 ∧ i = .int .i64 k ∧ MarkRow wr w.heap.size 5 64 (fun j => .int .u8 (if j < k then byteI (macX x s.data.toList) j else byteI s.data.toList j)) ∧ Below w.heap.size w wr) (fun i _ => 64 - (intOf i).toNat)
  case atStart => exact ⟨0, by omega, rfl, HM.out.congr fun j hj => by rw [if_neg (by omega)], HB1.out⟩
  case round =>
    obtain ⟨k, hk, rfl, hrow, hbel⟩ := hrel
    by_cases hlt : k < 64
    · have hkl : k < s.data.toList.length := by rw [HSL.out, hs]; exact hlt
      have c0 := hrow.cell (j := k) hlt
      simp only [Nat.lt_irrefl, if_false] at c0
      rw [byteI_lt _ k hkl] at c0
      have s0 := hrow.frozen (j := k) hlt
      have HR := Lib.hid hrow
      have HB := Lib.hid hbel
      have HX := Lib.hid (byteI_macX x s.data.toList k hkl)
      obtain ⟨c, hc⟩ : ∃ c, c = s.data.toList[k] := ⟨_, rfl⟩
      rw [← hc] at c0 HX
      have hxr := HXX.out c
      clear hrow hbel hc HM HB1
      have m0 : (k : Int) < 64 := by omega
      go_wp2
      go_roundw
      case rel =>
        refine ⟨k + 1, by omega, by go_num, (HR.out.set hlt _).congr fun j hj => ?_, HB.out.setCell (Nat.le_refl _) _⟩
        by_cases e : j = k
        · subst e; rw [if_pos rfl, if_pos (by omega), HX.out]; simp
        · rw [if_neg e]; by_cases e' : j < k
          · rw [if_pos e', if_pos (by omega)]
          · rw [if_neg e', if_neg (by omega)]
      case measure => simp [intOf]; omega
    · have m0 : ¬ (k : Int) < 64 := by omega
      have hk64 : k = 64 := by omega
      have hcv2 := run_convert_bytes_back (P := Tryz.prog) wr 108 9 5 ⟨w.heap.size, 0, none⟩ cap (macX x s.data.toList) Tryz.underlying108 Tryz.underlying5 Tryz.underlying9 fun j hj => by
        rw [macX_length, HSL.out, hs] at hj
        have := hrow.cell (j := j) hj
        replace this : wr.cell? ⟨w.heap.size, j, none⟩ = some (.int .u8 (if j < k then byteI (macX x s.data.toList) j else byteI s.data.toList j)) := this
        rw [if_pos (by omega), byteI_lt _ _ (by rw [macX_length, HSL.out, hs]; exact hj)] at this
        have ea : (⟨w.heap.size, 0, none⟩ : Addr).add j = ⟨w.heap.size, j, none⟩ := by unfold Addr.add; split <;> simp_all
        rw [ea]; exact this
      rw [macX_length, HSL.out, hs] at hcv2
      have HB := Lib.hid hbel
      clear hrow hbel HM HB1 hcv
      go_wp2
      go_ret
      exact ⟨rfl, HB.out⟩

set_option maxRecDepth 100000 in
theorem ref03Of (key s : ByteArray) (w : World) (hk : key.size ≤ 1099511627000) (hs : s.size ≤ 1099511620000) :
    Calls Tryz.prog 69 #[.string key, .string s] w fun e w' => e = .returned (.string ⟨(macL key.data.toList s.data.toList).toArray⟩) ∧ Below w.heap.size w w' := by
  have HBK := Lib.hid (ref03Block key w hk)
  obtain ⟨B, hB⟩ : ∃ B : ByteArray, B = ⟨(macBlk key.data.toList).toArray⟩ := ⟨_, rfl⟩
  have hBl : B.data.toList = macBlk key.data.toList := by rw [hB]
  have hBz : B.size = 64 := by rw [← toList_length, hBl, macBlk_length]
  rw [← hB] at HBK
  have HC1 := Lib.hid (fun w' => ref03Combined B 0x5c 92 w' xor5c hBz)
  have HC2 := Lib.hid (fun w' => ref03Combined B 0x36 54 w' xor36 hBz)
  have HML := Lib.hid (show macL key.data.toList s.data.toList = shaSum (macX 0x5c B.data.toList ++ shaSum (macX 0x36 B.data.toList ++ s.data.toList)) by rw [hBl]; rfl)
  have HZ1 := Lib.hid (show (macX 0x5c B.data.toList).length = 64 by rw [macX_length, toList_length, hBz])
  have HZ2 := Lib.hid (show (macX 0x36 B.data.toList).length = 64 by rw [macX_length, toList_length, hBz])
  obtain ⟨C1, hC1⟩ : ∃ C1 : ByteArray, C1 = ⟨(macX 0x5c B.data.toList).toArray⟩ := ⟨_, rfl⟩
  obtain ⟨C2, hC2⟩ : ∃ C2 : ByteArray, C2 = ⟨(macX 0x36 B.data.toList).toArray⟩ := ⟨_, rfl⟩
  have hC1l : C1.data.toList = macX 0x5c B.data.toList := by rw [hC1]
  have hC2l : C2.data.toList = macX 0x36 B.data.toList := by rw [hC2]
  have hC1z : C1.size = 64 := by rw [← toList_length, hC1l, HZ1.out]
  have hC2z : C2.size = 64 := by rw [← toList_length, hC2l, HZ2.out]
  rw [← hC1] at HC1
  rw [← hC2] at HC2
  rw [← hC1l, ← hC2l] at HML
  clear hB hBl hBz HZ1 HZ2 hC1 hC2 hC1l hC2l
  have HS1 := Lib.hid (fun w' => refSum (C2 ++ s) w' (by rw [ByteArray.size_append]; omega))
  obtain ⟨I, hI⟩ : ∃ I : ByteArray, I = ⟨(shaSum (C2 ++ s).data.toList).toArray⟩ := ⟨_, rfl⟩
  have hIl : I.data.toList = shaSum (C2.data.toList ++ s.data.toList) := by rw [hI, ← app_list]
  have hIz : I.size = 32 := by rw [← toList_length, hIl, shaSum_length]
  rw [← hI] at HS1
  have HS2 := Lib.hid (fun w' => refSum (C1 ++ I) w' (by rw [ByteArray.size_append]; omega))
  rw [app_list C1 I, hIl, ← HML.out] at HS2
  clear hI hIl HML
  go_enter Tryz.func69, Tryz.ntmps69
  go_wp2_with fail
  refine HBK.out.mono ?_
  clear HBK
  rintro e w1 ⟨rfl, hb1⟩
  have HB1 := Lib.hid hb1
  clear hb1
  go_wp2_with fail
  refine (HC1.out w1).mono ?_
  rintro e w2 ⟨rfl, hb2⟩
  have HB2 := Lib.hid (HB1.out.trans (hb2.mono HB1.out.size))
  clear hb2
  go_wp2_with fail
  refine (HC2.out w2).mono ?_
  rintro e w3 ⟨rfl, hb3⟩
  have HB3 := Lib.hid (HB2.out.trans (hb3.mono HB2.out.size))
  clear hb3
  go_wp2_with fail
  refine (HS1.out w3).mono ?_
  rintro e w4 ⟨rfl, hb4⟩
  have HB4 := Lib.hid (HB3.out.trans (hb4.mono HB3.out.size))
  clear hb4
  go_wp2_with fail
  refine (HS2.out w4).mono ?_
  rintro e w5 ⟨rfl, hb5⟩
  have HB5 := Lib.hid (HB4.out.trans (hb5.mono HB4.out.size))
  clear hb5
  go_wp2
  go_ret
  exact ⟨rfl, HB5.out⟩

end Go.Proofs.YtaekmmnpdbmoeaaGreatDoor

namespace Go.Proofs.YtaekmmnpdbmoeaaGreatDoor
open Go.RowKit

theorem eq_yes {a b : ByteArray} (h : a = b) : (a.toList == b.toList) = true := by rw [h]; exact beq_self_eq_true _
theorem eq_no {a b : ByteArray} (h : a ≠ b) : (a.toList == b.toList) = false := by rw [beq_eq_false_iff_ne]; exact fun e => h (ba_ext e)

theorem ref15Digest (s : ByteArray) (w : World) (hs : s.size ≤ 9223372036854775807) :
    Calls Tryz.prog 104 #[.string s] w fun e w' => e = .returned (.bool (hex64 s)) ∧ w = w' := by
  by_cases h : s.size = 64
  · have d : ((s.size : Int) == 64) = true := by rw [h]; rfl
    have HF := Lib.hid (show hex64 s = allHex s.data.toList by unfold hex64; rw [decide_eq_true h, Bool.true_and])
    have HI := Lib.hid (ref01Is s w hs)
    clear h
    go_enter Tryz.func104, Tryz.ntmps104
    go_wp2_with fail
    refine HI.out.mono ?_
    rintro e w1 ⟨rfl, rfl⟩
    go_wp2
    go_ret
    exact ⟨ret_bool HF.out.symm, rfl⟩
  · have d : ((s.size : Int) == 64) = false := by simp only [beq_eq_false_iff_ne]; omega
    have HF := Lib.hid (show hex64 s = false by unfold hex64; rw [decide_eq_false h, Bool.false_and])
    clear h
    go_enter Tryz.func104, Tryz.ntmps104
    go_wp2
    go_ret
    exact ⟨ret_bool HF.out.symm, rfl⟩

theorem ids_bad {l : List ByteArray} {k : Nat} (h : k < l.length) (he : idsErr [] l = idsErr (l.take k) (l.drop k)) (hb : hex64 l[k] = false) : idsErr [] l = 3 := by
  rw [he, List.drop_eq_getElem_cons h, idsErr, hb]; rfl
theorem ids_twice {l : List ByteArray} {k j : Nat} (h : k < l.length) (hj : j < k) (he : idsErr [] l = idsErr (l.take k) (l.drop k)) (hb : hex64 l[k] = true) (e : l[j] = l[k]) : idsErr [] l = 7 := by
  have hm : hasId (l.take k) l[k] = true := by
    rw [hasId_iff, List.mem_take_iff_getElem]
    exact ⟨j, by omega, e⟩
  rw [he, List.drop_eq_getElem_cons h, idsErr, hb, hm]; rfl
theorem ids_next {l : List ByteArray} {k : Nat} (h : k < l.length) (he : idsErr [] l = idsErr (l.take k) (l.drop k)) (hb : hex64 l[k] = true) (hn : ∀ j (hj : j < k), l[j] ≠ l[k]) : idsErr [] l = idsErr (l.take (k + 1)) (l.drop (k + 1)) := by
  have hm : hasId (l.take k) l[k] = false := by
    rw [Bool.eq_false_iff]
    intro h2
    rw [hasId_iff, List.mem_take_iff_getElem] at h2
    obtain ⟨j, hj, e⟩ := h2
    exact hn j (by omega) e
  rw [he, List.drop_eq_getElem_cons h, idsErr, hb, hm, if_pos rfl, if_neg (by simp), List.take_succ_eq_append_getElem h]

set_option maxRecDepth 100000 in
set_option maxHeartbeats 1000000 in
theorem ref15Ids (l : List ByteArray) (a : Option Addr) (c : Nat) (w : World) (hS : StrsAt w 0 w.heap.size a l) (hs : ∀ s ∈ l, s.size ≤ 9223372036854775807) (hl : l.length ≤ 9223372036854775807) :
    Calls Tryz.prog 78 #[.slice a l.length c] w fun e w' => e = .returned (.int .i64 (if l.length = 0 then 4 else idsErr [] l)) ∧ Below w.heap.size w w' := by
  by_cases h0 : l.length = 0
  · have d : ((l.length : Int) == 0) = true := by rw [h0]; rfl
    obtain ⟨E, hE⟩ : ∃ E, E = (if l.length = 0 then 4 else idsErr [] l) := ⟨_, rfl⟩
    rw [← hE]
    have HE := Lib.hid (show E = 4 by rw [hE, if_pos h0])
    clear hE
    go_enter Tryz.func78, Tryz.ntmps78
    go_wp2
    go_ret
    exact ⟨ret_int HE.out.symm, Below.refl _ _⟩
  have d : ((l.length : Int) == 0) = false := by simp only [beq_eq_false_iff_ne]; omega
  rw [if_neg h0]
  have HS := Lib.hid hS
  have HZ := Lib.hid hs
  clear hS hs h0
  go_enter Tryz.func78, Tryz.ntmps78
  go_wp2
  go_loopw [3, 4] (fun i _ wr => ∃ k : Nat, k ≤ l.length ∧ i = .int .i64 k ∧ idsErr [] l = idsErr (l.take k) (l.drop k) ∧ Below w.heap.size w wr) (fun i _ _ => l.length - (intOf i).toNat)
  case atStart => exact ⟨0, Nat.zero_le _, rfl, by simp, Below.refl _ _⟩
  case round =>
    obtain ⟨k, hk, rfl, he, hbel⟩ := hrel
    have HE := Lib.hid he
    have HB := Lib.hid hbel
    clear he hbel
    by_cases hlt : k < l.length
    · have m1 : (k : Int) < (l.length : Int) := by omega
      have m0 : (0 : Int) ≤ (k : Int) := by omega
      obtain ⟨b, off, ha, _, hb, e0⟩ := HS.out.at k hlt
      subst ha
      have HD := Lib.hid (ref15Digest l[k] wr (HZ.out _ (List.getElem_mem hlt)))
      have HAT := Lib.hid (fun (j : Nat) (hj : j < l.length) => HS.out.at j hj)
      obtain ⟨x, hx⟩ : ∃ x, x = l[k] := ⟨_, rfl⟩
      obtain ⟨g, hg⟩ : ∃ g, g = hex64 l[k] := ⟨_, rfl⟩
      rw [← hg, ← hx] at HD
      rw [← hx] at e0
      have HX := Lib.hid hx
      have HG := Lib.hid hg
      have HCE := Lib.hid (show ∀ w' : World, Below w.heap.size w w' → w'.cell? ⟨b, off + k, none⟩ = some (.string x) from fun w' h => (World.cell?_of_block (w := w) (h.block b hb)).trans e0)
      clear hx hg e0
      have e0 := HCE.out wr HB.out
      cases g
      · have HF := Lib.hid (ids_bad hlt HE.out HG.out.symm)
        go_wp2_with fail
        refine HD.out.mono ?_
        rintro e w1 ⟨rfl, rfl⟩
        go_wp2
        go_ret
        exact ⟨ret_int HF.out.symm, HB.out⟩
      go_wp2_with fail
      refine HD.out.mono ?_
      clear HD
      rintro e w1 ⟨rfl, rfl⟩
      clear e0
      go_wp2
      go_loopw [4] (fun i wi => ∃ j : Nat, j ≤ k ∧ i = .int .i64 j ∧ (∀ q (hq : q < j) (hq2 : q < l.length), l[q] ≠ x) ∧ Below w.heap.size w wi) (fun i _ => k - (intOf i).toNat)
      case atStart => exact ⟨0, Nat.zero_le _, rfl, (fun q hq => by omega), HB.out⟩
      case round =>
        obtain ⟨j, hj, rfl, hn, hbel⟩ := hrel
        have HNE := Lib.hid hn
        have HB2 := Lib.hid hbel
        clear hn hbel HB
        by_cases hjk : j < k
        · have m2 : (j : Int) < (k : Int) := by omega
          have m3 : (0 : Int) ≤ (j : Int) := by omega
          have m4 : (j : Int) < (l.length : Int) := by omega
          obtain ⟨b2, off2, ha2, _, hb2, f0⟩ := HAT.out j (by omega)
          simp only [Option.some.injEq, Addr.mk.injEq, and_true] at ha2
          obtain ⟨rfl, rfl⟩ := ha2
          have e0 := HCE.out _ HB2.out
          replace f0 := (World.cell?_of_block (w := w) (HB2.out.block b hb2)).trans f0
          obtain ⟨y, hy⟩ : ∃ y, y = l[j] := ⟨_, rfl⟩
          rw [← hy] at f0
          have HY := Lib.hid hy
          clear hy
          by_cases hxy : y = x
          · have q1 := eq_yes hxy
            have HXY := Lib.hid hxy
            have HF := Lib.hid (ids_twice hlt hjk HE.out HG.out.symm (by rw [← HY.out, ← HX.out]; exact hxy))
            clear hxy
            go_upto_region 11 with fail
            go_quiet (fail)
            go_wp2
            go_ret
            exact ⟨ret_int HF.out.symm, Below.drewN HB2.out _⟩
          · have q1 := eq_no hxy
            have HXY := Lib.hid hxy
            clear hxy
            go_upto_region 11 with fail
            go_quiet (fail)
            go_wp2
            go_roundw
            case rel =>
              refine ⟨j + 1, by omega, by go_num, fun q hq hq2 => ?_, Below.drewN HB2.out _⟩
              by_cases e : q = j
              · subst e; rw [← HY.out]; exact HXY.out
              · exact HNE.out q (by omega) hq2
            case measure => simp [intOf]; omega
        · obtain rfl : j = k := by omega
          have m2 : ¬ ((j : Int) < (j : Int)) := by omega
          go_wp2
          go_roundw
          case rel => exact ⟨j + 1, by omega, by go_num, ids_next hlt HE.out HG.out.symm fun q hq => by rw [← HX.out]; exact HNE.out q hq (by omega), HB2.out⟩
          case measure => simp [intOf]; omega
    · obtain rfl : k = l.length := by omega
      have HF := Lib.hid (show idsErr [] l = 0 by rw [HE.out, List.drop_length]; rfl)
      go_wp2
      go_ret
      exact ⟨ret_int HF.out.symm, HB.out⟩

set_option maxRecDepth 100000 in
set_option maxHeartbeats 1000000 in
theorem ref15May (t : Int) (l : List ByteArray) (a : Option Addr) (c : Nat) (w : World) (hS : StrsAt w 0 w.heap.size a l) (hs : ∀ s ∈ l, s.size ≤ 9223372036854775807) (hl : l.length ≤ 9223372036854775807) :
    Calls Tryz.prog 51 #[.agg #[.int .i64 t, .slice a l.length c]] w fun e w' => e = .returned (.bool (authOk t l)) ∧ Below w.heap.size w w' := by
  have HB0 := Lib.hid (show Below w.heap.size w (w.alloc (.cells #[.int .i64 t, .slice a l.length c] 49)) from (Below.refl _ _).alloc (Nat.le_refl _) _)
  by_cases h2 : 16 < l.length
  · have HF := Lib.hid (authOk_no (t := t) (l := l) (by omega))
    have d2 : ¬ ((l.length : Int) ≤ 16) := by omega
    go_enter Tryz.func51, Tryz.ntmps51
    go_wp2
    go_ret
    exact ⟨ret_bool HF.out.symm, HB0.out⟩
  have d2 : (l.length : Int) ≤ 16 := by omega
  have HI := Lib.hid (ref15Ids l a c _ (hS.below HB0.out (Nat.le_refl _) (Nat.le_refl _) (by simp)) hs hl)
  obtain ⟨E, hE⟩ : ∃ E, E = (if l.length = 0 then 4 else idsErr [] l) := ⟨_, rfl⟩
  rw [← hE] at HI
  have HE := Lib.hid hE
  clear hE hS hs
  by_cases hE0 : E = 0
  · have d0 : (E == 0) = true := by rw [hE0]; rfl
    have HE2 := Lib.hid (show l.length ≠ 0 ∧ idsErr [] l = 0 by
      have := HE.out
      rw [hE0] at this
      split at this
      · cases this
      · exact ⟨by assumption, this.symm⟩)
    clear hE0
    by_cases h3 : 1 ≤ t
    · by_cases h4 : t ≤ (l.length : Int)
      · have HF := Lib.hid (show authOk t l = true by unfold authOk; rw [HE2.out.2]; have := HE2.out.1; simp; omega)
        have d4 : decide (t ≤ (l.length : Int)) = true := by simp; omega
        go_enter Tryz.func51, Tryz.ntmps51
        go_wp2_with fail
        refine HI.out.mono ?_
        rintro e w1 ⟨rfl, hb1⟩
        have HB1 := Lib.hid (HB0.out.trans (hb1.mono HB0.out.size))
        have hx1 := (hb1.block w.heap.size (by simp)).trans (heap_alloc_new w (.cells #[.int .i64 t, .slice a l.length c] 49))
        have c0 : w1.cell? ⟨w.heap.size, 0, none⟩ = some (.int .i64 t) := box_cell hx1 rfl
        have c1 : w1.cell? ⟨w.heap.size, 1, none⟩ = some (.slice a l.length c) := box_cell hx1 rfl
        clear hb1 hx1
        go_wp2
        go_ret
        exact ⟨ret_bool HF.out.symm, HB1.out⟩
      · have HF := Lib.hid (authOk_no (t := t) (l := l) (by omega))
        have d4 : decide (t ≤ (l.length : Int)) = false := by simp; omega
        go_enter Tryz.func51, Tryz.ntmps51
        go_wp2_with fail
        refine HI.out.mono ?_
        rintro e w1 ⟨rfl, hb1⟩
        have HB1 := Lib.hid (HB0.out.trans (hb1.mono HB0.out.size))
        have hx1 := (hb1.block w.heap.size (by simp)).trans (heap_alloc_new w (.cells #[.int .i64 t, .slice a l.length c] 49))
        have c0 : w1.cell? ⟨w.heap.size, 0, none⟩ = some (.int .i64 t) := box_cell hx1 rfl
        have c1 : w1.cell? ⟨w.heap.size, 1, none⟩ = some (.slice a l.length c) := box_cell hx1 rfl
        clear hb1 hx1
        go_wp2
        go_ret
        exact ⟨ret_bool HF.out.symm, HB1.out⟩
    · have HF := Lib.hid (authOk_no (t := t) (l := l) (by omega))
      go_enter Tryz.func51, Tryz.ntmps51
      go_wp2_with fail
      refine HI.out.mono ?_
      rintro e w1 ⟨rfl, hb1⟩
      have HB1 := Lib.hid (HB0.out.trans (hb1.mono HB0.out.size))
      have hx1 := (hb1.block w.heap.size (by simp)).trans (heap_alloc_new w (.cells #[.int .i64 t, .slice a l.length c] 49))
      have c0 : w1.cell? ⟨w.heap.size, 0, none⟩ = some (.int .i64 t) := box_cell hx1 rfl
      have c1 : w1.cell? ⟨w.heap.size, 1, none⟩ = some (.slice a l.length c) := box_cell hx1 rfl
      clear hb1 hx1
      go_wp2
      go_ret
      exact ⟨ret_bool HF.out.symm, HB1.out⟩
  · have d0 : (E == 0) = false := by rw [beq_eq_false_iff_ne]; exact hE0
    have HF := Lib.hid (show authOk t l = false by
      by_cases hz : l.length = 0
      · exact authOk_no (by omega)
      · have := HE.out
        rw [if_neg hz] at this
        unfold authOk
        rw [decide_eq_false (p := idsErr [] l = 0) (by rw [← this]; exact hE0), Bool.and_false])
    clear hE0
    go_enter Tryz.func51, Tryz.ntmps51
    go_wp2_with fail
    refine HI.out.mono ?_
    rintro e w1 ⟨rfl, hb1⟩
    have HB1 := Lib.hid (HB0.out.trans (hb1.mono HB0.out.size))
    have hx1 := (hb1.block w.heap.size (by simp)).trans (heap_alloc_new w (.cells #[.int .i64 t, .slice a l.length c] 49))
    have c0 : w1.cell? ⟨w.heap.size, 0, none⟩ = some (.int .i64 t) := box_cell hx1 rfl
    have c1 : w1.cell? ⟨w.heap.size, 1, none⟩ = some (.slice a l.length c) := box_cell hx1 rfl
    clear hb1 hx1
    go_wp2
    go_ret
    exact ⟨ret_bool HF.out.symm, HB1.out⟩

theorem ref16Sig (i g : ByteArray) (w : World) (hi : i.size ≤ 9223372036854775807) (hg : g.size ≤ 9223372036854775807) :
    Calls Tryz.prog 100 #[.agg #[.string i, .string g]] w fun e w' => e = .returned (.bool (sigOk (i, g))) ∧ Below w.heap.size w w' := by
  have HB0 := Lib.hid (show Below w.heap.size w (w.alloc (.cells #[.string i, .string g] 26)) from (Below.refl _ _).alloc (Nat.le_refl _) _)
  have HD := Lib.hid (fun w' => ref15Digest i w' hi)
  have HX := Lib.hid (fun w' => ref14Hex g w' hg)
  have HF := Lib.hid (show sigOk (i, g) = (hex64 i && pubOk g.data.toList) from rfl)
  obtain ⟨d, hd⟩ : ∃ d, d = hex64 i := ⟨_, rfl⟩
  rw [← hd] at HD HF
  clear hd
  cases d
  · go_enter Tryz.func100, Tryz.ntmps100
    go_wp2_with fail
    refine (HD.out _).mono ?_
    rintro e w1 ⟨rfl, rfl⟩
    go_wp2
    go_ret
    exact ⟨ret_bool HF.out.symm, HB0.out⟩
  · go_enter Tryz.func100, Tryz.ntmps100
    go_wp2_with fail
    refine (HD.out _).mono ?_
    rintro e w1 ⟨rfl, rfl⟩
    go_wp2_with fail
    refine (HX.out _).mono ?_
    rintro e w1 ⟨rfl, rfl⟩
    go_wp2
    go_ret
    exact ⟨ret_bool HF.out.symm, HB0.out⟩

end Go.Proofs.YtaekmmnpdbmoeaaGreatDoor

namespace Go.Proofs.YtaekmmnpdbmoeaaGreatDoor
open Go.RowKit

/-- Behind i bytes that go on: the least and the greatest number that these bytes may become. -/
def begStep (l : List UInt8) (x : Int) : Nat → Option (Int × Int)
  | 0 => some (x, x)
  | i + 1 => match begStep l x i with
    | none => none
    | some (lo, hi) => if i + 1 < l.length then (if byteI l (i + 1) < 128 ∨ 191 < byteI l (i + 1) then none else some (64 * lo + (byteI l (i + 1) - 128), 64 * hi + (byteI l (i + 1) - 128))) else some (64 * lo, 64 * hi + 63)
def begOff (size : Nat) : Int := if size = 2 then 192 else if size = 3 then 224 else 240
def begLeast (size : Nat) : Int := if size = 2 then 128 else if size = 3 then 2048 else 65536
def begEnd (lo hi least : Int) : Bool := if 55296 ≤ max lo least ∧ min hi 1114111 ≤ 57343 then false else decide (max lo least ≤ min hi 1114111)
def beginsB (l : List UInt8) (size : Nat) : Bool := match begStep l (byteI l 0 - begOff size) (size - 1) with
  | none => false
  | some (lo, hi) => begEnd lo hi (begLeast size)

theorem begStep_none (l : List UInt8) (x : Int) (i : Nat) (h : begStep l x i = none) : ∀ j, begStep l x (i + j) = none
  | 0 => h
  | j + 1 => by rw [← Nat.add_assoc, begStep, begStep_none l x i h j]

/-- The rule, by bytes: b0 begins a rune of so many bytes. -/
abbrev full2 (b0 b1 : Nat) : Prop := b1 / 64 = 2 ∧ 128 ≤ (b0 - 192) * 64 + (b1 - 128)
abbrev full3 (b0 b1 b2 : Nat) : Prop := b1 / 64 = 2 ∧ b2 / 64 = 2 ∧ 2048 ≤ (b0 - 224) * 4096 + (b1 - 128) * 64 + (b2 - 128) ∧ ((b0 - 224) * 4096 + (b1 - 128) * 64 + (b2 - 128) < 55296 ∨ 57343 < (b0 - 224) * 4096 + (b1 - 128) * 64 + (b2 - 128))
abbrev full4 (b0 b1 b2 b3 : Nat) : Prop := b1 / 64 = 2 ∧ b2 / 64 = 2 ∧ b3 / 64 = 2 ∧ 65536 ≤ (b0 - 240) * 262144 + (b1 - 128) * 4096 + (b2 - 128) * 64 + (b3 - 128) ∧ (b0 - 240) * 262144 + (b1 - 128) * 4096 + (b2 - 128) * 64 + (b3 - 128) ≤ 1114111

theorem beg2 (a b : UInt8) (h : 192 ≤ a.toNat ∧ a.toNat < 224) : (beginsB [a, b] 2 = true ↔ full2 a.toNat b.toNat) ∧ (full2 a.toNat b.toNat → beginsB [a] 2 = true) := by
  have := b.toNat_lt
  unfold full2 beginsB begEnd begLeast begOff
  simp only [Nat.reduceSub, begStep, byteI, List.length_cons, List.length_nil, List.getD_cons_zero, List.getD_cons_succ, if_true]
  constructor
  · by_cases g : (b.toNat : Int) < 128 ∨ 191 < (b.toNat : Int)
    · simp [g]; omega
    · simp [g]; omega
  · intro h; simp; omega
theorem begEnd_iff (lo hi least : Int) : begEnd lo hi least = true ↔ ¬ (55296 ≤ max lo least ∧ min hi 1114111 ≤ 57343) ∧ max lo least ≤ min hi 1114111 := by
  unfold begEnd; split <;> simp_all
theorem beg3 (a b c : UInt8) (h : 224 ≤ a.toNat ∧ a.toNat < 240) : (beginsB [a, b, c] 3 = true ↔ full3 a.toNat b.toNat c.toNat) ∧ (full3 a.toNat b.toNat c.toNat → beginsB [a] 3 = true ∧ beginsB [a, b] 3 = true) := by
  have hb := b.toNat_lt
  have hc := c.toNat_lt
  unfold full3 beginsB begLeast begOff
  simp only [Nat.reduceSub, begStep, byteI, List.length_cons, List.length_nil, List.getD_cons_zero, List.getD_cons_succ]
  generalize a.toNat = x at *
  generalize b.toNat = y at *
  generalize c.toNat = z at *
  by_cases g1 : (y : Int) < 128 ∨ 191 < (y : Int)
  · simp [g1]; omega
  · by_cases g2 : (z : Int) < 128 ∨ 191 < (z : Int)
    · simp [g1, g2]; omega
    · simp only [Nat.reduceAdd, Nat.reduceLT, if_true, g1, g2, if_false, begEnd_iff, show ¬ (3 : Nat) = 2 by decide]
      constructor
      · constructor
        · intro h; omega
        · intro h; omega
      · intro h; constructor <;> omega
theorem beg4 (a b c d : UInt8) (h : 240 ≤ a.toNat ∧ a.toNat ≤ 247) : (beginsB [a, b, c, d] 4 = true ↔ full4 a.toNat b.toNat c.toNat d.toNat) ∧ (full4 a.toNat b.toNat c.toNat d.toNat → beginsB [a] 4 = true ∧ beginsB [a, b] 4 = true ∧ beginsB [a, b, c] 4 = true) := by
  have hb := b.toNat_lt
  have hc := c.toNat_lt
  have hd := d.toNat_lt
  unfold full4 beginsB begLeast begOff
  simp only [Nat.reduceSub, begStep, byteI, List.length_cons, List.length_nil, List.getD_cons_zero, List.getD_cons_succ]
  generalize a.toNat = x at *
  generalize b.toNat = y at *
  generalize c.toNat = z at *
  generalize d.toNat = u at *
  by_cases g1 : (y : Int) < 128 ∨ 191 < (y : Int)
  · simp [g1]; omega
  · by_cases g2 : (z : Int) < 128 ∨ 191 < (z : Int)
    · simp [g1, g2]; omega
    · by_cases g3 : (u : Int) < 128 ∨ 191 < (u : Int)
      · simp [g1, g2, g3]; omega
      · simp only [Nat.reduceAdd, Nat.reduceLT, if_true, g1, g2, g3, if_false, begEnd_iff, show ¬ (4 : Nat) = 2 by decide, show ¬ (4 : Nat) = 3 by decide]
        constructor
        · constructor
          · intro h; omega
          · intro h; omega
        · intro h; refine ⟨?_, ?_, ?_⟩ <;> omega

end Go.Proofs.YtaekmmnpdbmoeaaGreatDoor

namespace Go.Proofs.YtaekmmnpdbmoeaaGreatDoor
open Go.RowKit

theorem get_at (s : ByteArray) (i : Nat) (h : i < s.data.toList.length) : s.get! i = s.data.toList[i] := by
  have h' : i < s.data.size := by simpa using h
  simp only [ByteArray.get!, Array.getElem_toList]
  exact getElem!_pos s.data i h'

theorem drop_at {α : Type} (l : List α) (i : Nat) (h : i < l.length) : l.drop i = l[i] :: l.drop (i + 1) := List.drop_eq_getElem_cons h

theorem utf1 (s : ByteArray) (pos : Nat) (hb : (s.get! pos).toNat < 128) : utfBad s pos = false ∧ (Utf8.decode s pos).2 = 1 := by
  have e : Utf8.decode s pos = ((s.get! pos).toNat, 1) := by simp [Utf8.decode, hb]
  rw [utfBad, e]
  refine ⟨?_, rfl⟩
  have : ((s.get! pos).toNat == 65533) = false := by simp; omega
  simp [this]
theorem pre_iff (s : ByteArray) (pos : Nat) : Lib.hasPrefix (s.data.toList.drop pos) [239, 191, 189] = true ↔ pos + 2 < s.size ∧ (s.get! pos).toNat = 239 ∧ (s.get! (pos + 1)).toNat = 191 ∧ (s.get! (pos + 2)).toNat = 189 := by
  have hsz : s.data.toList.length = s.size := by simp
  have key : ∀ (l : List UInt8), Lib.hasPrefix l [239, 191, 189] = true ↔ ∃ r, l = 239 :: 191 :: 189 :: r := by
    intro l
    unfold Lib.hasPrefix
    rw [List.isPrefixOf_iff_prefix]
    constructor
    · rintro ⟨r, rfl⟩; exact ⟨r, rfl⟩
    · rintro ⟨r, rfl⟩; exact ⟨r, rfl⟩
  rw [key]
  by_cases h : pos + 2 < s.size
  · rw [drop_at _ _ (by omega), drop_at _ _ (by omega), drop_at _ _ (by omega), ← get_at s pos (by omega), ← get_at s (pos + 1) (by omega), ← get_at s (pos + 1 + 1) (by omega)]
    constructor
    · rintro ⟨r, hr⟩
      simp only [List.cons.injEq] at hr
      rw [hr.1, hr.2.1, hr.2.2.1]
      exact ⟨h, rfl, rfl, rfl⟩
    · rintro ⟨_, h0, h1, h2⟩
      refine ⟨s.data.toList.drop (pos + 1 + 1 + 1), ?_⟩
      rw [show s.get! pos = 239 from UInt8.toNat_inj.1 h0, show s.get! (pos + 1) = 191 from UInt8.toNat_inj.1 h1, show s.get! (pos + 1 + 1) = 189 from UInt8.toNat_inj.1 h2]
  · constructor
    · rintro ⟨r, hr⟩
      have := congrArg List.length hr
      simp at this
      omega
    · rintro ⟨h1, _⟩; exact absurd h1 h

theorem bad_iff (s : ByteArray) (pos : Nat) : utfBad s pos = true ↔ (Utf8.decode s pos).1 = 65533 ∧ ¬ (pos + 2 < s.size ∧ (s.get! pos).toNat = 239 ∧ (s.get! (pos + 1)).toNat = 191 ∧ (s.get! (pos + 2)).toNat = 189) := by
  rw [← pre_iff]; unfold utfBad; simp
theorem good_iff (s : ByteArray) (pos : Nat) : utfBad s pos = false ↔ ¬ ((Utf8.decode s pos).1 = 65533 ∧ ¬ (pos + 2 < s.size ∧ (s.get! pos).toNat = 239 ∧ (s.get! (pos + 1)).toNat = 191 ∧ (s.get! (pos + 2)).toNat = 189)) := by
  rw [← bad_iff]; simp

theorem utf0 (s : ByteArray) (pos : Nat) (hb : 128 ≤ (s.get! pos).toNat ∧ (s.get! pos).toNat < 192 ∨ 247 < (s.get! pos).toNat) : utfBad s pos = true := by
  have hlt := (s.get! pos).toNat_lt
  have e : Utf8.decode s pos = (65533, 1) := by
    unfold Utf8.decode Utf8.runeError; simp only [Nat.add_zero]
    rw [if_neg (by omega), if_neg (by simp; omega), if_neg (by simp; omega), if_neg (by simp; omega)]
  rw [bad_iff, e]
  exact ⟨rfl, by omega⟩

set_option maxRecDepth 100000 in
theorem utf2 (s : ByteArray) (pos : Nat) (hb : 192 ≤ (s.get! pos).toNat ∧ (s.get! pos).toNat < 224) :
    (utfBad s pos = false ↔ pos + 1 < s.size ∧ full2 (s.get! pos).toNat (s.get! (pos + 1)).toNat) ∧ (utfBad s pos = false → (Utf8.decode s pos).2 = 2) := by
  have h1 := (s.get! (pos + 1)).toNat_lt
  have e : Utf8.decode s pos = if pos + 1 < s.size ∧ full2 (s.get! pos).toNat (s.get! (pos + 1)).toNat then ((s.get! pos).toNat % 32 * 64 + (s.get! (pos + 1)).toNat % 64, 2) else (65533, 1) := by
    unfold Utf8.decode full2 Utf8.runeError; simp only [Nat.add_zero]
    rw [if_neg (by omega)]
    by_cases g : pos + 1 < s.size ∧ (s.get! (pos + 1)).toNat / 64 = 2
    · rw [if_pos (by simp; omega)]
      by_cases g2 : (s.get! pos).toNat % 32 * 64 + (s.get! (pos + 1)).toNat % 64 ≥ 128
      · rw [if_pos g2, if_pos (by omega)]
      · rw [if_neg g2, if_neg (by omega)]
    · rw [if_neg (by simp; omega), if_neg (by simp; omega), if_neg (by simp; omega), if_neg (by omega)]
  rw [good_iff, e]
  split
  · rename_i g; exact ⟨⟨fun _ => g, fun _ => by simp; omega⟩, fun _ => rfl⟩
  · rename_i g; exact ⟨⟨fun h => absurd ⟨rfl, by omega⟩ h, fun h => absurd h g⟩, fun h => absurd ⟨rfl, by omega⟩ h⟩

set_option maxRecDepth 100000 in
theorem utf3 (s : ByteArray) (pos : Nat) (hb : 224 ≤ (s.get! pos).toNat ∧ (s.get! pos).toNat < 240) :
    (utfBad s pos = false ↔ pos + 2 < s.size ∧ full3 (s.get! pos).toNat (s.get! (pos + 1)).toNat (s.get! (pos + 2)).toNat) ∧ (utfBad s pos = false → (Utf8.decode s pos).2 = 3) := by
  have h1 := (s.get! (pos + 1)).toNat_lt
  have h2 := (s.get! (pos + 2)).toNat_lt
  have e : Utf8.decode s pos = if pos + 2 < s.size ∧ full3 (s.get! pos).toNat (s.get! (pos + 1)).toNat (s.get! (pos + 2)).toNat then ((s.get! pos).toNat % 16 * 4096 + (s.get! (pos + 1)).toNat % 64 * 64 + (s.get! (pos + 2)).toNat % 64, 3) else (65533, 1) := by
    unfold Utf8.decode full3 Utf8.runeError Utf8.valid; simp only [Nat.add_zero]
    rw [if_neg (by omega), if_neg (by simp; omega)]
    by_cases g : pos + 2 < s.size ∧ (s.get! (pos + 1)).toNat / 64 = 2 ∧ (s.get! (pos + 2)).toNat / 64 = 2
    · rw [if_pos (by simp; omega)]
      by_cases g2 : (s.get! pos).toNat % 16 * 4096 + (s.get! (pos + 1)).toNat % 64 * 64 + (s.get! (pos + 2)).toNat % 64 ≥ 2048 ∧ ((s.get! pos).toNat % 16 * 4096 + (s.get! (pos + 1)).toNat % 64 * 64 + (s.get! (pos + 2)).toNat % 64 < 55296 ∨ 57343 < (s.get! pos).toNat % 16 * 4096 + (s.get! (pos + 1)).toNat % 64 * 64 + (s.get! (pos + 2)).toNat % 64)
      · rw [if_pos (by simp; omega), if_pos (by omega)]
      · rw [if_neg (by simp; omega), if_neg (by omega)]
    · rw [if_neg (by simp; omega), if_neg (by simp; omega), if_neg (by omega)]
  rw [good_iff, e]
  unfold full3
  split
  · rename_i g; exact ⟨⟨fun _ => g, fun _ => by simp; omega⟩, fun _ => rfl⟩
  · rename_i g; exact ⟨⟨fun h => absurd ⟨rfl, by omega⟩ h, fun h => absurd h g⟩, fun h => absurd ⟨rfl, by omega⟩ h⟩

set_option maxRecDepth 100000 in
theorem utf4 (s : ByteArray) (pos : Nat) (hb : 240 ≤ (s.get! pos).toNat ∧ (s.get! pos).toNat ≤ 247) :
    (utfBad s pos = false ↔ pos + 3 < s.size ∧ full4 (s.get! pos).toNat (s.get! (pos + 1)).toNat (s.get! (pos + 2)).toNat (s.get! (pos + 3)).toNat) ∧ (utfBad s pos = false → (Utf8.decode s pos).2 = 4) := by
  have h1 := (s.get! (pos + 1)).toNat_lt
  have h2 := (s.get! (pos + 2)).toNat_lt
  have h3 := (s.get! (pos + 3)).toNat_lt
  have e : Utf8.decode s pos = if pos + 3 < s.size ∧ full4 (s.get! pos).toNat (s.get! (pos + 1)).toNat (s.get! (pos + 2)).toNat (s.get! (pos + 3)).toNat then ((s.get! pos).toNat % 8 * 262144 + (s.get! (pos + 1)).toNat % 64 * 4096 + (s.get! (pos + 2)).toNat % 64 * 64 + (s.get! (pos + 3)).toNat % 64, 4) else (65533, 1) := by
    unfold Utf8.decode full4 Utf8.runeError Utf8.valid; simp only [Nat.add_zero]
    rw [if_neg (by omega), if_neg (by simp; omega), if_neg (by simp; omega)]
    by_cases g : pos + 3 < s.size ∧ (s.get! (pos + 1)).toNat / 64 = 2 ∧ (s.get! (pos + 2)).toNat / 64 = 2 ∧ (s.get! (pos + 3)).toNat / 64 = 2
    · rw [if_pos (by simp; omega)]
      by_cases g2 : (s.get! pos).toNat % 8 * 262144 + (s.get! (pos + 1)).toNat % 64 * 4096 + (s.get! (pos + 2)).toNat % 64 * 64 + (s.get! (pos + 3)).toNat % 64 ≥ 65536 ∧ (s.get! pos).toNat % 8 * 262144 + (s.get! (pos + 1)).toNat % 64 * 4096 + (s.get! (pos + 2)).toNat % 64 * 64 + (s.get! (pos + 3)).toNat % 64 ≤ 1114111
      · rw [if_pos (by simp; omega), if_pos (by omega)]
      · rw [if_neg (by simp; omega), if_neg (by omega)]
    · rw [if_neg (by simp; omega), if_neg (by omega)]
  rw [good_iff, e]
  unfold full4
  split
  · rename_i g; exact ⟨⟨fun _ => g, fun _ => by simp; omega⟩, fun _ => rfl⟩
  · rename_i g; exact ⟨⟨fun h => absurd ⟨rfl, by omega⟩ h, fun h => absurd h g⟩, fun h => absurd ⟨rfl, by omega⟩ h⟩

end Go.Proofs.YtaekmmnpdbmoeaaGreatDoor

namespace Go.Proofs.YtaekmmnpdbmoeaaGreatDoor
open Go.RowKit

def begBd (k : Nat) (hi : Int) : Prop := (k = 0 ∧ hi < 32) ∨ (k = 1 ∧ hi < 2048) ∨ (k = 2 ∧ hi < 131072) ∨ (k = 3 ∧ hi < 8388608)
def BegRel (l : List UInt8) (x : Int) (size : Nat) (lo hi i : Value) : Prop :=
  ∃ (k : Nat) (a b : Int), k + 1 ≤ size ∧ i = .int .i64 ((k : Int) + 1) ∧ lo = .int .i64 a ∧ hi = .int .i64 b ∧ begStep l x k = some (a, b) ∧ 0 ≤ a ∧ a ≤ b ∧ begBd k b

theorem begBd_le {k : Nat} {b : Int} (h : begBd k b) : b < 8388608 := by unfold begBd at h; omega
theorem byteI_at (s : ByteArray) (k : Nat) (h : k < s.size) : (s[k].toNat : Int) = byteI s.data.toList k := by
  unfold byteI
  have hl : k < s.data.toList.length := by simpa using h
  rw [List.getD_eq_getElem?_getD, List.getElem?_eq_getElem hl]; rfl
theorem begins_fail {l : List UInt8} {size k : Nat} (hk : k + 1 < size) (h : begStep l (byteI l 0 - begOff size) (k + 1) = none) : beginsB l size = false := by
  unfold beginsB
  have := begStep_none l _ (k + 1) h (size - 1 - (k + 1))
  rw [show k + 1 + (size - 1 - (k + 1)) = size - 1 by omega] at this
  rw [this]
theorem begins_done {l : List UInt8} {size : Nat} {a b : Int} (h : begStep l (byteI l 0 - begOff size) (size - 1) = some (a, b)) : beginsB l size = begEnd a b (begLeast size) := by
  unfold beginsB; rw [h]


set_option maxHeartbeats 1000000 in
set_option maxRecDepth 100000 in
theorem refBegins2 (s : ByteArray) (w : World) (hn : 1 ≤ s.size) (h1 : 192 ≤ byteI s.data.toList 0) (h2 : byteI s.data.toList 0 ≤ 223) :
    Calls Tryz.prog 179 #[.string s, .int .i64 2] w fun e w' => e = .returned (.bool (beginsB s.data.toList 2)) ∧ Below w.heap.size w w' := by
  have hb0 : (s[0].toNat : Int) = byteI s.data.toList 0 := byteI_at s 0 (by omega)
  have hs0 : (0 : Int) < (s.size : Int) := by omega
  obtain ⟨c0, hc0⟩ : ∃ c0, c0 = byteI s.data.toList 0 := ⟨_, rfl⟩
  rw [← hc0] at h1 h2 hb0
  have HX := Lib.hid (show c0 - 192 = byteI s.data.toList 0 - begOff 2 by rw [hc0]; rfl)
  clear hc0
  have w0 : IntKind.i64.wrap c0 = c0 := IntWalk.i64_in _ (by omega)
  go_enter Tryz.func179, Tryz.ntmps179
  go_wp2
  go_quiet (fail)
  go_wp2
  clear hb0 w0
  go_loopw [5, 6, 7] (fun lo hi i wr => BegRel s.data.toList (c0 - 192) 2 lo hi i ∧ Below w.heap.size w wr) (fun _ _ i _ => 2 - (intOf i).toNat)
  case atStart => exact ⟨⟨0, _, _, by omega, rfl, rfl, rfl, rfl, by omega, Int.le_refl _, .inl ⟨rfl, by omega⟩⟩, Below.drewN (Below.refl _ _) _⟩
  case round =>
    obtain ⟨⟨k, a, b, hk, rfl, rfl, rfl, hst, ha, hab, hbd⟩, hbel⟩ := hrel
    have HBL := Lib.hid hbel
    clear hbel
    have HST := Lib.hid hst
    have hb1 := begBd_le hbd
    clear hst
    have hb2 : b < 8388608 := hb1
    by_cases hlt : k + 1 < 2
    · have HSU := Lib.hid (show begStep s.data.toList (c0 - 192) (k + 1) = if k + 1 < s.data.toList.length then (if byteI s.data.toList (k + 1) < 128 ∨ 191 < byteI s.data.toList (k + 1) then none else some (64 * a + (byteI s.data.toList (k + 1) - 128), 64 * b + (byteI s.data.toList (k + 1) - 128))) else some (64 * a, 64 * b + 63) by
        rw [begStep, HST.out])
      have hlt1 : (k : Int) + 1 < 2 := by omega
      by_cases hks : k + 1 < s.size
      · have hks1 : (k : Int) + 1 < (s.size : Int) := by omega
        have hc : (s[k + 1].toNat : Int) = byteI s.data.toList (k + 1) := byteI_at s (k + 1) hks
        have hcb := byteI_bd s.data.toList (k + 1)
        rw [if_pos (by rw [toList_length]; exact hks)] at HSU
        have ht : ((k : Int) + 1).toNat = k + 1 := by omega
        obtain ⟨c, hcc⟩ : ∃ c, c = byteI s.data.toList (k + 1) := ⟨_, rfl⟩
        rw [← hcc] at hc hcb HSU
        clear hcc
        by_cases g1 : c < 128
        · have HF := Lib.hid (begins_fail (l := s.data.toList) (size := 2) hlt (by rw [← HX.out, HSU.out, if_pos (.inl g1)]))
          go_wp2
          go_ret
          exact ⟨by rw [HF.out] <;> rfl, HBL.out⟩
        by_cases g2 : 191 < c
        · have HF := Lib.hid (begins_fail (l := s.data.toList) (size := 2) hlt (by rw [← HX.out, HSU.out, if_pos (.inr g2)]))
          go_wp2
          go_ret
          exact ⟨by rw [HF.out] <;> rfl, HBL.out⟩
        rw [if_neg (by omega)] at HSU
        have v1 : IntKind.u8.wrap (c - 128) = c - 128 := IntWalk.u8_in _ (by omega)
        have v2 : IntKind.i64.wrap (c - 128) = c - 128 := IntWalk.i64_in _ (by omega)
        have v3 : IntKind.i64.wrap (64 * a) = 64 * a := IntWalk.i64_in _ (by omega)
        have v4 : IntKind.i64.wrap (64 * b) = 64 * b := IntWalk.i64_in _ (by omega)
        have v5 : IntKind.i64.wrap (64 * a + (c - 128)) = 64 * a + (c - 128) := IntWalk.i64_in _ (by omega)
        have v6 : IntKind.i64.wrap (64 * b + (c - 128)) = 64 * b + (c - 128) := IntWalk.i64_in _ (by omega)
        go_wp2
        go_quiet (fail)
        clear v1 v2 v3 v4 v5 v6
        go_wp2
        go_roundw
        case rel => exact ⟨⟨k + 1, _, _, by omega, by go_num, rfl, rfl, HSU.out, by omega, by omega, by unfold begBd at hbd ⊢; omega⟩, Below.drewN HBL.out _⟩
        case measure => simp [intOf]; omega
      · rw [if_neg (by rw [toList_length]; exact hks)] at HSU
        have hks1 : ¬ (k : Int) + 1 < (s.size : Int) := by omega
        go_wp2
        go_roundw
        case rel => exact ⟨⟨k + 1, _, _, by omega, by go_num, rfl, rfl, HSU.out, by omega, by omega, by unfold begBd at hbd ⊢; omega⟩, HBL.out⟩
        case measure => simp [intOf]; omega
    · have hk2 : k = 2 - 1 := by omega
      have HE := Lib.hid (show beginsB s.data.toList 2 = begEnd a b 128 from begins_done (by rw [← HX.out]; rw [hk2] at HST; exact HST.out))
      have hlt1 : ¬ (k : Int) + 1 < 2 := by omega
      clear hk2 HST
      obtain ⟨A, hA⟩ : ∃ A : Int, max a 128 = A := ⟨_, rfl⟩
      obtain ⟨B, hB⟩ : ∃ B : Int, min b 1114111 = B := ⟨_, rfl⟩
      have HA := Lib.hid (show A = max a 128 by rw [← hA])
      have HB := Lib.hid (show B = min b 1114111 by rw [← hB])
      unfold begEnd at HE
      rw [← HA.out, ← HB.out] at HE
      have hAl : 128 ≤ A := by rw [← hA]; omega
      clear HA HB
      by_cases g1 : 55296 ≤ A
      · by_cases g2 : B ≤ 57343
        · rw [if_pos ⟨g1, g2⟩] at HE
          go_wp2
          go_ret
          exact ⟨by rw [HE.out] <;> rfl, HBL.out.alloc HBL.out.size _⟩
        · rw [if_neg (fun h => g2 h.2)] at HE
          by_cases g3 : A ≤ B
          · rw [decide_eq_true g3] at HE
            go_wp2
            go_ret
            exact ⟨by rw [HE.out] <;> rfl, HBL.out.alloc HBL.out.size _⟩
          · rw [decide_eq_false g3] at HE
            go_wp2
            go_ret
            exact ⟨by rw [HE.out] <;> rfl, HBL.out.alloc HBL.out.size _⟩
      · try (exfalso; omega)
        all_goals
          have g1' : decide (55296 ≤ A) = false := by simp; omega
          rw [if_neg (fun h => g1 h.1)] at HE
          by_cases g3 : A ≤ B
          · rw [decide_eq_true g3] at HE
            go_wp2
            go_ret
            exact ⟨by rw [HE.out] <;> rfl, HBL.out.alloc HBL.out.size _⟩
          · rw [decide_eq_false g3] at HE
            go_wp2
            go_ret
            exact ⟨by rw [HE.out] <;> rfl, HBL.out.alloc HBL.out.size _⟩

set_option maxHeartbeats 1000000 in
set_option maxRecDepth 100000 in
theorem refBegins3 (s : ByteArray) (w : World) (hn : 1 ≤ s.size) (h1 : 224 ≤ byteI s.data.toList 0) (h2 : byteI s.data.toList 0 ≤ 239) :
    Calls Tryz.prog 179 #[.string s, .int .i64 3] w fun e w' => e = .returned (.bool (beginsB s.data.toList 3)) ∧ Below w.heap.size w w' := by
  have hb0 : (s[0].toNat : Int) = byteI s.data.toList 0 := byteI_at s 0 (by omega)
  have hs0 : (0 : Int) < (s.size : Int) := by omega
  obtain ⟨c0, hc0⟩ : ∃ c0, c0 = byteI s.data.toList 0 := ⟨_, rfl⟩
  rw [← hc0] at h1 h2 hb0
  have HX := Lib.hid (show c0 - 224 = byteI s.data.toList 0 - begOff 3 by rw [hc0]; rfl)
  clear hc0
  have w0 : IntKind.i64.wrap c0 = c0 := IntWalk.i64_in _ (by omega)
  go_enter Tryz.func179, Tryz.ntmps179
  go_wp2
  go_quiet (fail)
  go_wp2
  clear hb0 w0
  go_loopw [5, 6, 7] (fun lo hi i wr => BegRel s.data.toList (c0 - 224) 3 lo hi i ∧ Below w.heap.size w wr) (fun _ _ i _ => 3 - (intOf i).toNat)
  case atStart => exact ⟨⟨0, _, _, by omega, rfl, rfl, rfl, rfl, by omega, Int.le_refl _, .inl ⟨rfl, by omega⟩⟩, Below.drewN (Below.refl _ _) _⟩
  case round =>
    obtain ⟨⟨k, a, b, hk, rfl, rfl, rfl, hst, ha, hab, hbd⟩, hbel⟩ := hrel
    have HBL := Lib.hid hbel
    clear hbel
    have HST := Lib.hid hst
    have hb1 := begBd_le hbd
    clear hst
    have hb2 : b < 8388608 := hb1
    by_cases hlt : k + 1 < 3
    · have HSU := Lib.hid (show begStep s.data.toList (c0 - 224) (k + 1) = if k + 1 < s.data.toList.length then (if byteI s.data.toList (k + 1) < 128 ∨ 191 < byteI s.data.toList (k + 1) then none else some (64 * a + (byteI s.data.toList (k + 1) - 128), 64 * b + (byteI s.data.toList (k + 1) - 128))) else some (64 * a, 64 * b + 63) by
        rw [begStep, HST.out])
      have hlt1 : (k : Int) + 1 < 3 := by omega
      by_cases hks : k + 1 < s.size
      · have hks1 : (k : Int) + 1 < (s.size : Int) := by omega
        have hc : (s[k + 1].toNat : Int) = byteI s.data.toList (k + 1) := byteI_at s (k + 1) hks
        have hcb := byteI_bd s.data.toList (k + 1)
        rw [if_pos (by rw [toList_length]; exact hks)] at HSU
        have ht : ((k : Int) + 1).toNat = k + 1 := by omega
        obtain ⟨c, hcc⟩ : ∃ c, c = byteI s.data.toList (k + 1) := ⟨_, rfl⟩
        rw [← hcc] at hc hcb HSU
        clear hcc
        by_cases g1 : c < 128
        · have HF := Lib.hid (begins_fail (l := s.data.toList) (size := 3) hlt (by rw [← HX.out, HSU.out, if_pos (.inl g1)]))
          go_wp2
          go_ret
          exact ⟨by rw [HF.out] <;> rfl, HBL.out⟩
        by_cases g2 : 191 < c
        · have HF := Lib.hid (begins_fail (l := s.data.toList) (size := 3) hlt (by rw [← HX.out, HSU.out, if_pos (.inr g2)]))
          go_wp2
          go_ret
          exact ⟨by rw [HF.out] <;> rfl, HBL.out⟩
        rw [if_neg (by omega)] at HSU
        have v1 : IntKind.u8.wrap (c - 128) = c - 128 := IntWalk.u8_in _ (by omega)
        have v2 : IntKind.i64.wrap (c - 128) = c - 128 := IntWalk.i64_in _ (by omega)
        have v3 : IntKind.i64.wrap (64 * a) = 64 * a := IntWalk.i64_in _ (by omega)
        have v4 : IntKind.i64.wrap (64 * b) = 64 * b := IntWalk.i64_in _ (by omega)
        have v5 : IntKind.i64.wrap (64 * a + (c - 128)) = 64 * a + (c - 128) := IntWalk.i64_in _ (by omega)
        have v6 : IntKind.i64.wrap (64 * b + (c - 128)) = 64 * b + (c - 128) := IntWalk.i64_in _ (by omega)
        go_wp2
        go_quiet (fail)
        clear v1 v2 v3 v4 v5 v6
        go_wp2
        go_roundw
        case rel => exact ⟨⟨k + 1, _, _, by omega, by go_num, rfl, rfl, HSU.out, by omega, by omega, by unfold begBd at hbd ⊢; omega⟩, Below.drewN HBL.out _⟩
        case measure => simp [intOf]; omega
      · rw [if_neg (by rw [toList_length]; exact hks)] at HSU
        have hks1 : ¬ (k : Int) + 1 < (s.size : Int) := by omega
        go_wp2
        go_roundw
        case rel => exact ⟨⟨k + 1, _, _, by omega, by go_num, rfl, rfl, HSU.out, by omega, by omega, by unfold begBd at hbd ⊢; omega⟩, HBL.out⟩
        case measure => simp [intOf]; omega
    · have hk2 : k = 3 - 1 := by omega
      have HE := Lib.hid (show beginsB s.data.toList 3 = begEnd a b 2048 from begins_done (by rw [← HX.out]; rw [hk2] at HST; exact HST.out))
      have hlt1 : ¬ (k : Int) + 1 < 3 := by omega
      clear hk2 HST
      obtain ⟨A, hA⟩ : ∃ A : Int, max a 2048 = A := ⟨_, rfl⟩
      obtain ⟨B, hB⟩ : ∃ B : Int, min b 1114111 = B := ⟨_, rfl⟩
      have HA := Lib.hid (show A = max a 2048 by rw [← hA])
      have HB := Lib.hid (show B = min b 1114111 by rw [← hB])
      unfold begEnd at HE
      rw [← HA.out, ← HB.out] at HE
      have hAl : 2048 ≤ A := by rw [← hA]; omega
      clear HA HB
      by_cases g1 : 55296 ≤ A
      · by_cases g2 : B ≤ 57343
        · rw [if_pos ⟨g1, g2⟩] at HE
          go_wp2
          go_ret
          exact ⟨by rw [HE.out] <;> rfl, HBL.out.alloc HBL.out.size _⟩
        · rw [if_neg (fun h => g2 h.2)] at HE
          by_cases g3 : A ≤ B
          · rw [decide_eq_true g3] at HE
            go_wp2
            go_ret
            exact ⟨by rw [HE.out] <;> rfl, HBL.out.alloc HBL.out.size _⟩
          · rw [decide_eq_false g3] at HE
            go_wp2
            go_ret
            exact ⟨by rw [HE.out] <;> rfl, HBL.out.alloc HBL.out.size _⟩
      · try (exfalso; omega)
        all_goals
          have g1' : decide (55296 ≤ A) = false := by simp; omega
          rw [if_neg (fun h => g1 h.1)] at HE
          by_cases g3 : A ≤ B
          · rw [decide_eq_true g3] at HE
            go_wp2
            go_ret
            exact ⟨by rw [HE.out] <;> rfl, HBL.out.alloc HBL.out.size _⟩
          · rw [decide_eq_false g3] at HE
            go_wp2
            go_ret
            exact ⟨by rw [HE.out] <;> rfl, HBL.out.alloc HBL.out.size _⟩

set_option maxHeartbeats 1000000 in
set_option maxRecDepth 100000 in
theorem refBegins4 (s : ByteArray) (w : World) (hn : 1 ≤ s.size) (h1 : 240 ≤ byteI s.data.toList 0) (h2 : byteI s.data.toList 0 ≤ 247) :
    Calls Tryz.prog 179 #[.string s, .int .i64 4] w fun e w' => e = .returned (.bool (beginsB s.data.toList 4)) ∧ Below w.heap.size w w' := by
  have hb0 : (s[0].toNat : Int) = byteI s.data.toList 0 := byteI_at s 0 (by omega)
  have hs0 : (0 : Int) < (s.size : Int) := by omega
  obtain ⟨c0, hc0⟩ : ∃ c0, c0 = byteI s.data.toList 0 := ⟨_, rfl⟩
  rw [← hc0] at h1 h2 hb0
  have HX := Lib.hid (show c0 - 240 = byteI s.data.toList 0 - begOff 4 by rw [hc0]; rfl)
  clear hc0
  have w0 : IntKind.i64.wrap c0 = c0 := IntWalk.i64_in _ (by omega)
  go_enter Tryz.func179, Tryz.ntmps179
  go_wp2
  go_quiet (fail)
  go_wp2
  clear hb0 w0
  go_loopw [5, 6, 7] (fun lo hi i wr => BegRel s.data.toList (c0 - 240) 4 lo hi i ∧ Below w.heap.size w wr) (fun _ _ i _ => 4 - (intOf i).toNat)
  case atStart => exact ⟨⟨0, _, _, by omega, rfl, rfl, rfl, rfl, by omega, Int.le_refl _, .inl ⟨rfl, by omega⟩⟩, Below.drewN (Below.refl _ _) _⟩
  case round =>
    obtain ⟨⟨k, a, b, hk, rfl, rfl, rfl, hst, ha, hab, hbd⟩, hbel⟩ := hrel
    have HBL := Lib.hid hbel
    clear hbel
    have HST := Lib.hid hst
    have hb1 := begBd_le hbd
    clear hst
    have hb2 : b < 8388608 := hb1
    by_cases hlt : k + 1 < 4
    · have HSU := Lib.hid (show begStep s.data.toList (c0 - 240) (k + 1) = if k + 1 < s.data.toList.length then (if byteI s.data.toList (k + 1) < 128 ∨ 191 < byteI s.data.toList (k + 1) then none else some (64 * a + (byteI s.data.toList (k + 1) - 128), 64 * b + (byteI s.data.toList (k + 1) - 128))) else some (64 * a, 64 * b + 63) by
        rw [begStep, HST.out])
      have hlt1 : (k : Int) + 1 < 4 := by omega
      by_cases hks : k + 1 < s.size
      · have hks1 : (k : Int) + 1 < (s.size : Int) := by omega
        have hc : (s[k + 1].toNat : Int) = byteI s.data.toList (k + 1) := byteI_at s (k + 1) hks
        have hcb := byteI_bd s.data.toList (k + 1)
        rw [if_pos (by rw [toList_length]; exact hks)] at HSU
        have ht : ((k : Int) + 1).toNat = k + 1 := by omega
        obtain ⟨c, hcc⟩ : ∃ c, c = byteI s.data.toList (k + 1) := ⟨_, rfl⟩
        rw [← hcc] at hc hcb HSU
        clear hcc
        by_cases g1 : c < 128
        · have HF := Lib.hid (begins_fail (l := s.data.toList) (size := 4) hlt (by rw [← HX.out, HSU.out, if_pos (.inl g1)]))
          go_wp2
          go_ret
          exact ⟨by rw [HF.out] <;> rfl, HBL.out⟩
        by_cases g2 : 191 < c
        · have HF := Lib.hid (begins_fail (l := s.data.toList) (size := 4) hlt (by rw [← HX.out, HSU.out, if_pos (.inr g2)]))
          go_wp2
          go_ret
          exact ⟨by rw [HF.out] <;> rfl, HBL.out⟩
        rw [if_neg (by omega)] at HSU
        have v1 : IntKind.u8.wrap (c - 128) = c - 128 := IntWalk.u8_in _ (by omega)
        have v2 : IntKind.i64.wrap (c - 128) = c - 128 := IntWalk.i64_in _ (by omega)
        have v3 : IntKind.i64.wrap (64 * a) = 64 * a := IntWalk.i64_in _ (by omega)
        have v4 : IntKind.i64.wrap (64 * b) = 64 * b := IntWalk.i64_in _ (by omega)
        have v5 : IntKind.i64.wrap (64 * a + (c - 128)) = 64 * a + (c - 128) := IntWalk.i64_in _ (by omega)
        have v6 : IntKind.i64.wrap (64 * b + (c - 128)) = 64 * b + (c - 128) := IntWalk.i64_in _ (by omega)
        go_wp2
        go_quiet (fail)
        clear v1 v2 v3 v4 v5 v6
        go_wp2
        go_roundw
        case rel => exact ⟨⟨k + 1, _, _, by omega, by go_num, rfl, rfl, HSU.out, by omega, by omega, by unfold begBd at hbd ⊢; omega⟩, Below.drewN HBL.out _⟩
        case measure => simp [intOf]; omega
      · rw [if_neg (by rw [toList_length]; exact hks)] at HSU
        have hks1 : ¬ (k : Int) + 1 < (s.size : Int) := by omega
        go_wp2
        go_roundw
        case rel => exact ⟨⟨k + 1, _, _, by omega, by go_num, rfl, rfl, HSU.out, by omega, by omega, by unfold begBd at hbd ⊢; omega⟩, HBL.out⟩
        case measure => simp [intOf]; omega
    · have hk2 : k = 4 - 1 := by omega
      have HE := Lib.hid (show beginsB s.data.toList 4 = begEnd a b 65536 from begins_done (by rw [← HX.out]; rw [hk2] at HST; exact HST.out))
      have hlt1 : ¬ (k : Int) + 1 < 4 := by omega
      clear hk2 HST
      obtain ⟨A, hA⟩ : ∃ A : Int, max a 65536 = A := ⟨_, rfl⟩
      obtain ⟨B, hB⟩ : ∃ B : Int, min b 1114111 = B := ⟨_, rfl⟩
      have HA := Lib.hid (show A = max a 65536 by rw [← hA])
      have HB := Lib.hid (show B = min b 1114111 by rw [← hB])
      unfold begEnd at HE
      rw [← HA.out, ← HB.out] at HE
      have hAl : 65536 ≤ A := by rw [← hA]; omega
      clear HA HB
      by_cases g1 : 55296 ≤ A
      · by_cases g2 : B ≤ 57343
        · rw [if_pos ⟨g1, g2⟩] at HE
          go_wp2
          go_ret
          exact ⟨by rw [HE.out] <;> rfl, HBL.out.alloc HBL.out.size _⟩
        · rw [if_neg (fun h => g2 h.2)] at HE
          by_cases g3 : A ≤ B
          · rw [decide_eq_true g3] at HE
            go_wp2
            go_ret
            exact ⟨by rw [HE.out] <;> rfl, HBL.out.alloc HBL.out.size _⟩
          · rw [decide_eq_false g3] at HE
            go_wp2
            go_ret
            exact ⟨by rw [HE.out] <;> rfl, HBL.out.alloc HBL.out.size _⟩
      · try (exfalso; omega)
        all_goals
          have g1' : decide (55296 ≤ A) = false := by simp; omega
          rw [if_neg (fun h => g1 h.1)] at HE
          by_cases g3 : A ≤ B
          · rw [decide_eq_true g3] at HE
            go_wp2
            go_ret
            exact ⟨by rw [HE.out] <;> rfl, HBL.out.alloc HBL.out.size _⟩
          · rw [decide_eq_false g3] at HE
            go_wp2
            go_ret
            exact ⟨by rw [HE.out] <;> rfl, HBL.out.alloc HBL.out.size _⟩

end Go.Proofs.YtaekmmnpdbmoeaaGreatDoor

namespace Go.Proofs.YtaekmmnpdbmoeaaGreatDoor
open Go.RowKit

/-- What legateref04.Next tells: how many bytes a rune has, or an error. -/
def NextPost (s : ByteArray) (pos : Nat) (w : World) (e : Ending) (w' : World) : Prop :=
  ∃ r sz er : Int, e = .returned (.tuple #[.int .i64 r, .int .i64 sz, .int .i64 er]) ∧ ((utfBad s pos = false ∧ er = 0 ∧ sz = ((Utf8.decode s pos).2 : Int)) ∨ (utfBad s pos = true ∧ er ≠ 0)) ∧ Below w.heap.size w w'

theorem ext_list (s : ByteArray) (pos n : Nat) : (s.extract pos (pos + n)).data.toList = (s.data.toList.drop pos).take n := by
  rw [ByteArray.data_extract, Array.toList_extract, List.extract_eq_take_drop]; congr 1; omega
theorem ext1 (s : ByteArray) (pos : Nat) (h : pos + 1 ≤ s.size) : (s.extract pos (pos + 1)).data.toList = [s.get! pos] := by
  have hl : s.data.toList.length = s.size := by simp
  rw [ext_list, drop_at _ _ (by omega), ← get_at s pos (by omega)]; rfl
theorem ext2 (s : ByteArray) (pos : Nat) (h : pos + 2 ≤ s.size) : (s.extract pos (pos + 2)).data.toList = [s.get! pos, s.get! (pos + 1)] := by
  have hl : s.data.toList.length = s.size := by simp
  rw [ext_list, drop_at _ _ (by omega), drop_at _ _ (by omega), ← get_at s pos (by omega), ← get_at s (pos + 1) (by omega)]; rfl
theorem ext3 (s : ByteArray) (pos : Nat) (h : pos + 3 ≤ s.size) : (s.extract pos (pos + 3)).data.toList = [s.get! pos, s.get! (pos + 1), s.get! (pos + 2)] := by
  have hl : s.data.toList.length = s.size := by simp
  rw [ext_list, drop_at _ _ (by omega), drop_at _ _ (by omega), drop_at _ _ (by omega), ← get_at s pos (by omega), ← get_at s (pos + 1) (by omega), ← get_at s (pos + 1 + 1) (by omega)]; rfl
theorem ext4 (s : ByteArray) (pos : Nat) (h : pos + 4 ≤ s.size) : (s.extract pos (pos + 4)).data.toList = [s.get! pos, s.get! (pos + 1), s.get! (pos + 2), s.get! (pos + 3)] := by
  have hl : s.data.toList.length = s.size := by simp
  rw [ext_list, drop_at _ _ (by omega), drop_at _ _ (by omega), drop_at _ _ (by omega), drop_at _ _ (by omega), ← get_at s pos (by omega), ← get_at s (pos + 1) (by omega), ← get_at s (pos + 1 + 1) (by omega), ← get_at s (pos + 1 + 1 + 1) (by omega)]; rfl

theorem at2 (s : ByteArray) (pos : Nat) (hb : 192 ≤ (s.get! pos).toNat ∧ (s.get! pos).toNat ≤ 223) :
    (utfBad s pos = false → pos + 2 ≤ s.size ∧ (Utf8.decode s pos).2 = 2 ∧ ∀ n, 1 ≤ n → n ≤ 2 → beginsB (s.extract pos (pos + n)).data.toList 2 = true) ∧ (pos + 2 ≤ s.size → beginsB (s.extract pos (pos + 2)).data.toList 2 = true → utfBad s pos = false) := by
  obtain ⟨u1, u2⟩ := utf2 s pos (by omega)
  obtain ⟨b1, b2⟩ := beg2 (s.get! pos) (s.get! (pos + 1)) (by omega)
  constructor
  · intro h
    obtain ⟨h1, h2⟩ := u1.1 h
    refine ⟨by omega, u2 h, fun n hn hn' => ?_⟩
    obtain rfl | rfl : n = 1 ∨ n = 2 := by omega
    · rw [ext1 s pos (by omega)]; exact b2 h2
    · rw [ext2 s pos (by omega)]; exact b1.2 h2
  · intro h h'
    rw [ext2 s pos h] at h'
    exact u1.2 ⟨by omega, b1.1 h'⟩
theorem at3 (s : ByteArray) (pos : Nat) (hb : 224 ≤ (s.get! pos).toNat ∧ (s.get! pos).toNat ≤ 239) :
    (utfBad s pos = false → pos + 3 ≤ s.size ∧ (Utf8.decode s pos).2 = 3 ∧ ∀ n, 1 ≤ n → n ≤ 3 → beginsB (s.extract pos (pos + n)).data.toList 3 = true) ∧ (pos + 3 ≤ s.size → beginsB (s.extract pos (pos + 3)).data.toList 3 = true → utfBad s pos = false) := by
  obtain ⟨u1, u2⟩ := utf3 s pos (by omega)
  obtain ⟨b1, b2⟩ := beg3 (s.get! pos) (s.get! (pos + 1)) (s.get! (pos + 2)) (by omega)
  constructor
  · intro h
    obtain ⟨h1, h2⟩ := u1.1 h
    refine ⟨by omega, u2 h, fun n hn hn' => ?_⟩
    obtain rfl | rfl | rfl : n = 1 ∨ n = 2 ∨ n = 3 := by omega
    · rw [ext1 s pos (by omega)]; exact (b2 h2).1
    · rw [ext2 s pos (by omega)]; exact (b2 h2).2
    · rw [ext3 s pos (by omega)]; exact b1.2 h2
  · intro h h'
    rw [ext3 s pos h] at h'
    exact u1.2 ⟨by omega, b1.1 h'⟩
theorem at4 (s : ByteArray) (pos : Nat) (hb : 240 ≤ (s.get! pos).toNat ∧ (s.get! pos).toNat ≤ 247) :
    (utfBad s pos = false → pos + 4 ≤ s.size ∧ (Utf8.decode s pos).2 = 4 ∧ ∀ n, 1 ≤ n → n ≤ 4 → beginsB (s.extract pos (pos + n)).data.toList 4 = true) ∧ (pos + 4 ≤ s.size → beginsB (s.extract pos (pos + 4)).data.toList 4 = true → utfBad s pos = false) := by
  obtain ⟨u1, u2⟩ := utf4 s pos (by omega)
  obtain ⟨b1, b2⟩ := beg4 (s.get! pos) (s.get! (pos + 1)) (s.get! (pos + 2)) (s.get! (pos + 3)) (by omega)
  constructor
  · intro h
    obtain ⟨h1, h2⟩ := u1.1 h
    refine ⟨by omega, u2 h, fun n hn hn' => ?_⟩
    obtain rfl | rfl | rfl | rfl : n = 1 ∨ n = 2 ∨ n = 3 ∨ n = 4 := by omega
    · rw [ext1 s pos (by omega)]; exact (b2 h2).1
    · rw [ext2 s pos (by omega)]; exact (b2 h2).2.1
    · rw [ext3 s pos (by omega)]; exact (b2 h2).2.2
    · rw [ext4 s pos (by omega)]; exact b1.2 h2
  · intro h h'
    rw [ext4 s pos h] at h'
    exact u1.2 ⟨by omega, b1.1 h'⟩

theorem get_byte (s : ByteArray) (k : Nat) (h : k < s.size) : s.get! k = s[k] := by
  have hl : k < s.data.toList.length := by simpa using h
  rw [get_at s k hl]; rfl
theorem ext_byte (s : ByteArray) (pos n : Nat) (h : pos + n ≤ s.size) (hn : 1 ≤ n) : byteI (s.extract pos (pos + n)).data.toList 0 = (s[pos].toNat : Int) := by
  have hl : s.data.toList.length = s.size := by simp
  rw [ext_list, drop_at _ _ (by omega), ← get_at s pos (by omega), get_byte s pos (by omega)]
  obtain ⟨m, rfl⟩ : ∃ m, n = m + 1 := ⟨n - 1, by omega⟩
  rfl
def rBd (k : Nat) (r : Int) : Prop := 0 ≤ r ∧ ((k = 0 ∧ r < 256) ∨ (k = 1 ∧ r < 16896) ∨ (k = 2 ∧ r < 1081600) ∨ (k = 3 ∧ r < 69222656))

set_option maxHeartbeats 1000000 in
set_option maxRecDepth 100000 in
theorem refNext2 (s : ByteArray) (pos : Nat) (w : World) (hs : s.size ≤ 4611686018427387904) (hp : pos < s.size) (h1 : 192 ≤ (s[pos].toNat : Int)) (h2 : (s[pos].toNat : Int) ≤ 223) :
    Calls Tryz.prog 175 #[.string s, .int .i64 pos] w (NextPost s pos w) := by
  have HAT := Lib.hid (at2 s pos (by rw [get_byte s pos hp]; omega))
  have hp1 : ¬ (pos : Int) < 0 := by omega
  have hp2 : (pos : Int) < (s.size : Int) := by omega
  have hp3 : ((pos : Int) == (s.size : Int)) = false := by simp; omega
  have hp4 : decide ((pos : Int) < 0) = false := decide_eq_false (by omega)
  have HBY := Lib.hid (fun n => ext_byte s pos n)
  obtain ⟨c0, hc0⟩ : ∃ c0, c0 = (s[pos].toNat : Int) := ⟨_, rfl⟩
  have HC0 := Lib.hid hc0
  have hc1 : (s[pos].toNat : Int) = c0 := hc0.symm
  rw [← hc0] at h1 h2
  clear hc0
  have g1 : decide (c0 < 192) = false := by simp; omega
  go_enter Tryz.func175, Tryz.ntmps175
  go_wp2
  go_loopw [9] (fun i wr => ∃ k : Nat, k ≤ 2 ∧ i = .int .i64 ((k : Int) + 1) ∧ (1 ≤ k → pos + k ≤ s.size ∧ beginsB (s.extract pos (pos + k)).data.toList 2 = true) ∧ Below w.heap.size w wr) (fun i _ => 2 + 1 - (intOf i).toNat)
  case atStart => exact ⟨0, by omega, rfl, fun h => by omega, Below.refl _ _⟩
  case round =>
    obtain ⟨k, hk, rfl, hin, hbel⟩ := hrel
    have HIN := Lib.hid hin
    have HB := Lib.hid hbel
    clear hin hbel
    by_cases hlt : k < 2
    · have hlt1 : (k : Int) + 1 ≤ 2 := by omega
      by_cases hsz : pos + (k + 1) ≤ s.size
      · have hsz1 : ¬ (s.size : Int) < (pos : Int) + ((k : Int) + 1) := by omega
        have hsz2 : (pos : Int) + ((k : Int) + 1) ≤ (s.size : Int) := by omega
        have t1 : ((pos : Int) + ((k : Int) + 1)).toNat = pos + (k + 1) := by omega
        have HBG := Lib.hid (refBegins2 (s.extract pos (pos + (k + 1))) wr (by rw [ByteArray.size_extract]; omega) (by rw [HBY.out (k + 1) hsz (by omega), ← HC0.out]; exact h1) (by rw [HBY.out (k + 1) hsz (by omega), ← HC0.out]; exact h2))
        cases hbg : beginsB (s.extract pos (pos + (k + 1))).data.toList 2
        · rw [hbg] at HBG
          have HBAD := Lib.hid (show utfBad s pos = true by
            cases h : utfBad s pos
            · have := (HAT.out.1 h).2.2 (k + 1) (by omega) (by omega)
              rw [hbg] at this; cases this
            · rfl)
          clear hbg
          go_wp2_with fail
          refine HBG.out.mono ?_
          rintro e w1 ⟨rfl, hb1⟩
          have HB1 := Lib.hid (HB.out.trans (hb1.mono HB.out.size))
          clear hb1
          go_wp2
          go_ret3
          exact ⟨0, 0, 12, rfl, .inr ⟨HBAD.out, by decide⟩, HB1.out⟩
        · rw [hbg] at HBG
          have HBT := Lib.hid hbg
          clear hbg
          go_wp2_with fail
          refine HBG.out.mono ?_
          rintro e w1 ⟨rfl, hb1⟩
          have HB1 := Lib.hid (HB.out.trans (hb1.mono HB.out.size))
          clear hb1
          go_wp2
          go_roundw
          case rel => exact ⟨k + 1, by omega, by go_num, fun _ => ⟨hsz, HBT.out⟩, HB1.out⟩
          case measure => simp [intOf]; omega
      · have hsz1 : (s.size : Int) < (pos : Int) + ((k : Int) + 1) := by omega
        have HBAD := Lib.hid (show utfBad s pos = true by
          cases h : utfBad s pos
          · have := (HAT.out.1 h).1; omega
          · rfl)
        go_wp2
        go_ret3
        exact ⟨0, 0, 4, rfl, .inr ⟨HBAD.out, by decide⟩, HB.out⟩
    · have hk2 : k = 2 := by omega
      have HOK := Lib.hid (show utfBad s pos = false by
        obtain ⟨q1, q2⟩ := HIN.out (by omega)
        rw [hk2] at q1 q2
        exact HAT.out.2 q1 q2)
      have hfit : pos + 2 ≤ s.size := by have := (HIN.out (by omega)).1; omega
      have HDE := Lib.hid (HAT.out.1 HOK.out).2.1
      have hlt1 : ¬ (k : Int) + 1 ≤ 2 := by omega
      clear hk2
      obtain ⟨wo, rfl⟩ : ∃ wo : World, wo = wr := ⟨_, rfl⟩
      go_wp2
      go_loopw [10, 11] (fun r i wr => ∃ (j : Nat) (r' : Int), j + 1 ≤ 2 ∧ i = .int .i64 ((j : Int) + 1) ∧ r = .int .i64 r' ∧ rBd j r' ∧ Below w.heap.size w wr) (fun _ i _ => 2 - (intOf i).toNat)
      case atStart => exact ⟨0, _, by omega, rfl, rfl, by unfold rBd; omega, HB.out.alloc HB.out.size _⟩
      case round =>
        obtain ⟨j, r', hj, rfl, rfl, hrb, hbel⟩ := hrel
        have HB2 := Lib.hid hbel
        clear hbel
        have hr0 : 0 ≤ r' := hrb.1
        have hr1 : r' < 69222656 := by unfold rBd at hrb; omega
        by_cases hjl : j + 1 < 2
        · have hjl1 : (j : Int) + 1 < 2 := by omega
          have hx1 : (pos : Int) + ((j : Int) + 1) < (s.size : Int) := by omega
          have t1 : ((pos : Int) + ((j : Int) + 1)).toNat = pos + (j + 1) := by omega
          have hx2 : pos + (j + 1) < s.size := by omega
          obtain ⟨c, hc⟩ : ∃ c : Int, (s[pos + (j + 1)].toNat : Int) = c := ⟨_, rfl⟩
          have hc2 : 0 ≤ c ∧ c ≤ 255 := by have := s[pos + (j + 1)].toNat_lt; omega
          obtain ⟨d, hd⟩ : ∃ d : Int, IntKind.u8.wrap (c - 128) = d := ⟨_, rfl⟩
          have hd2 : 0 ≤ d ∧ d ≤ 255 := by rw [← hd, IntKind.wrap_u8]; omega
          go_wp2
          go_roundw
          case rel => exact ⟨j + 1, _, by omega, by go_num, rfl, by unfold rBd at hrb ⊢; omega, HB2.out⟩
          case measure => simp [intOf]; omega
        · have hjl1 : ¬ (j : Int) + 1 < 2 := by omega
          go_wp2
          go_ret3
          exact ⟨_, 2, 0, rfl, .inl ⟨HOK.out, rfl, by rw [HDE.out]; rfl⟩, HB2.out⟩

set_option maxHeartbeats 1000000 in
set_option maxRecDepth 100000 in
theorem refNext3 (s : ByteArray) (pos : Nat) (w : World) (hs : s.size ≤ 4611686018427387904) (hp : pos < s.size) (h1 : 224 ≤ (s[pos].toNat : Int)) (h2 : (s[pos].toNat : Int) ≤ 239) :
    Calls Tryz.prog 175 #[.string s, .int .i64 pos] w (NextPost s pos w) := by
  have HAT := Lib.hid (at3 s pos (by rw [get_byte s pos hp]; omega))
  have hp1 : ¬ (pos : Int) < 0 := by omega
  have hp2 : (pos : Int) < (s.size : Int) := by omega
  have hp3 : ((pos : Int) == (s.size : Int)) = false := by simp; omega
  have hp4 : decide ((pos : Int) < 0) = false := decide_eq_false (by omega)
  have HBY := Lib.hid (fun n => ext_byte s pos n)
  obtain ⟨c0, hc0⟩ : ∃ c0, c0 = (s[pos].toNat : Int) := ⟨_, rfl⟩
  have HC0 := Lib.hid hc0
  have hc1 : (s[pos].toNat : Int) = c0 := hc0.symm
  rw [← hc0] at h1 h2
  clear hc0
  have g1 : decide (c0 < 192) = false := by simp; omega
  go_enter Tryz.func175, Tryz.ntmps175
  go_wp2
  go_loopw [9] (fun i wr => ∃ k : Nat, k ≤ 3 ∧ i = .int .i64 ((k : Int) + 1) ∧ (1 ≤ k → pos + k ≤ s.size ∧ beginsB (s.extract pos (pos + k)).data.toList 3 = true) ∧ Below w.heap.size w wr) (fun i _ => 3 + 1 - (intOf i).toNat)
  case atStart => exact ⟨0, by omega, rfl, fun h => by omega, Below.refl _ _⟩
  case round =>
    obtain ⟨k, hk, rfl, hin, hbel⟩ := hrel
    have HIN := Lib.hid hin
    have HB := Lib.hid hbel
    clear hin hbel
    by_cases hlt : k < 3
    · have hlt1 : (k : Int) + 1 ≤ 3 := by omega
      by_cases hsz : pos + (k + 1) ≤ s.size
      · have hsz1 : ¬ (s.size : Int) < (pos : Int) + ((k : Int) + 1) := by omega
        have hsz2 : (pos : Int) + ((k : Int) + 1) ≤ (s.size : Int) := by omega
        have t1 : ((pos : Int) + ((k : Int) + 1)).toNat = pos + (k + 1) := by omega
        have HBG := Lib.hid (refBegins3 (s.extract pos (pos + (k + 1))) wr (by rw [ByteArray.size_extract]; omega) (by rw [HBY.out (k + 1) hsz (by omega), ← HC0.out]; exact h1) (by rw [HBY.out (k + 1) hsz (by omega), ← HC0.out]; exact h2))
        cases hbg : beginsB (s.extract pos (pos + (k + 1))).data.toList 3
        · rw [hbg] at HBG
          have HBAD := Lib.hid (show utfBad s pos = true by
            cases h : utfBad s pos
            · have := (HAT.out.1 h).2.2 (k + 1) (by omega) (by omega)
              rw [hbg] at this; cases this
            · rfl)
          clear hbg
          go_wp2_with fail
          refine HBG.out.mono ?_
          rintro e w1 ⟨rfl, hb1⟩
          have HB1 := Lib.hid (HB.out.trans (hb1.mono HB.out.size))
          clear hb1
          go_wp2
          go_ret3
          exact ⟨0, 0, 12, rfl, .inr ⟨HBAD.out, by decide⟩, HB1.out⟩
        · rw [hbg] at HBG
          have HBT := Lib.hid hbg
          clear hbg
          go_wp2_with fail
          refine HBG.out.mono ?_
          rintro e w1 ⟨rfl, hb1⟩
          have HB1 := Lib.hid (HB.out.trans (hb1.mono HB.out.size))
          clear hb1
          go_wp2
          go_roundw
          case rel => exact ⟨k + 1, by omega, by go_num, fun _ => ⟨hsz, HBT.out⟩, HB1.out⟩
          case measure => simp [intOf]; omega
      · have hsz1 : (s.size : Int) < (pos : Int) + ((k : Int) + 1) := by omega
        have HBAD := Lib.hid (show utfBad s pos = true by
          cases h : utfBad s pos
          · have := (HAT.out.1 h).1; omega
          · rfl)
        go_wp2
        go_ret3
        exact ⟨0, 0, 4, rfl, .inr ⟨HBAD.out, by decide⟩, HB.out⟩
    · have hk2 : k = 3 := by omega
      have HOK := Lib.hid (show utfBad s pos = false by
        obtain ⟨q1, q2⟩ := HIN.out (by omega)
        rw [hk2] at q1 q2
        exact HAT.out.2 q1 q2)
      have hfit : pos + 3 ≤ s.size := by have := (HIN.out (by omega)).1; omega
      have HDE := Lib.hid (HAT.out.1 HOK.out).2.1
      have hlt1 : ¬ (k : Int) + 1 ≤ 3 := by omega
      clear hk2
      obtain ⟨wo, rfl⟩ : ∃ wo : World, wo = wr := ⟨_, rfl⟩
      go_wp2
      go_loopw [10, 11] (fun r i wr => ∃ (j : Nat) (r' : Int), j + 1 ≤ 3 ∧ i = .int .i64 ((j : Int) + 1) ∧ r = .int .i64 r' ∧ rBd j r' ∧ Below w.heap.size w wr) (fun _ i _ => 3 - (intOf i).toNat)
      case atStart => exact ⟨0, _, by omega, rfl, rfl, by unfold rBd; omega, HB.out.alloc HB.out.size _⟩
      case round =>
        obtain ⟨j, r', hj, rfl, rfl, hrb, hbel⟩ := hrel
        have HB2 := Lib.hid hbel
        clear hbel
        have hr0 : 0 ≤ r' := hrb.1
        have hr1 : r' < 69222656 := by unfold rBd at hrb; omega
        by_cases hjl : j + 1 < 3
        · have hjl1 : (j : Int) + 1 < 3 := by omega
          have hx1 : (pos : Int) + ((j : Int) + 1) < (s.size : Int) := by omega
          have t1 : ((pos : Int) + ((j : Int) + 1)).toNat = pos + (j + 1) := by omega
          have hx2 : pos + (j + 1) < s.size := by omega
          obtain ⟨c, hc⟩ : ∃ c : Int, (s[pos + (j + 1)].toNat : Int) = c := ⟨_, rfl⟩
          have hc2 : 0 ≤ c ∧ c ≤ 255 := by have := s[pos + (j + 1)].toNat_lt; omega
          obtain ⟨d, hd⟩ : ∃ d : Int, IntKind.u8.wrap (c - 128) = d := ⟨_, rfl⟩
          have hd2 : 0 ≤ d ∧ d ≤ 255 := by rw [← hd, IntKind.wrap_u8]; omega
          go_wp2
          go_roundw
          case rel => exact ⟨j + 1, _, by omega, by go_num, rfl, by unfold rBd at hrb ⊢; omega, HB2.out⟩
          case measure => simp [intOf]; omega
        · have hjl1 : ¬ (j : Int) + 1 < 3 := by omega
          go_wp2
          go_ret3
          exact ⟨_, 3, 0, rfl, .inl ⟨HOK.out, rfl, by rw [HDE.out]; rfl⟩, HB2.out⟩

set_option maxHeartbeats 1000000 in
set_option maxRecDepth 100000 in
theorem refNext4 (s : ByteArray) (pos : Nat) (w : World) (hs : s.size ≤ 4611686018427387904) (hp : pos < s.size) (h1 : 240 ≤ (s[pos].toNat : Int)) (h2 : (s[pos].toNat : Int) ≤ 247) :
    Calls Tryz.prog 175 #[.string s, .int .i64 pos] w (NextPost s pos w) := by
  have HAT := Lib.hid (at4 s pos (by rw [get_byte s pos hp]; omega))
  have hp1 : ¬ (pos : Int) < 0 := by omega
  have hp2 : (pos : Int) < (s.size : Int) := by omega
  have hp3 : ((pos : Int) == (s.size : Int)) = false := by simp; omega
  have hp4 : decide ((pos : Int) < 0) = false := decide_eq_false (by omega)
  have HBY := Lib.hid (fun n => ext_byte s pos n)
  obtain ⟨c0, hc0⟩ : ∃ c0, c0 = (s[pos].toNat : Int) := ⟨_, rfl⟩
  have HC0 := Lib.hid hc0
  have hc1 : (s[pos].toNat : Int) = c0 := hc0.symm
  rw [← hc0] at h1 h2
  clear hc0
  have g1 : decide (c0 < 192) = false := by simp; omega
  go_enter Tryz.func175, Tryz.ntmps175
  go_wp2
  go_loopw [9] (fun i wr => ∃ k : Nat, k ≤ 4 ∧ i = .int .i64 ((k : Int) + 1) ∧ (1 ≤ k → pos + k ≤ s.size ∧ beginsB (s.extract pos (pos + k)).data.toList 4 = true) ∧ Below w.heap.size w wr) (fun i _ => 4 + 1 - (intOf i).toNat)
  case atStart => exact ⟨0, by omega, rfl, fun h => by omega, Below.refl _ _⟩
  case round =>
    obtain ⟨k, hk, rfl, hin, hbel⟩ := hrel
    have HIN := Lib.hid hin
    have HB := Lib.hid hbel
    clear hin hbel
    by_cases hlt : k < 4
    · have hlt1 : (k : Int) + 1 ≤ 4 := by omega
      by_cases hsz : pos + (k + 1) ≤ s.size
      · have hsz1 : ¬ (s.size : Int) < (pos : Int) + ((k : Int) + 1) := by omega
        have hsz2 : (pos : Int) + ((k : Int) + 1) ≤ (s.size : Int) := by omega
        have t1 : ((pos : Int) + ((k : Int) + 1)).toNat = pos + (k + 1) := by omega
        have HBG := Lib.hid (refBegins4 (s.extract pos (pos + (k + 1))) wr (by rw [ByteArray.size_extract]; omega) (by rw [HBY.out (k + 1) hsz (by omega), ← HC0.out]; exact h1) (by rw [HBY.out (k + 1) hsz (by omega), ← HC0.out]; exact h2))
        cases hbg : beginsB (s.extract pos (pos + (k + 1))).data.toList 4
        · rw [hbg] at HBG
          have HBAD := Lib.hid (show utfBad s pos = true by
            cases h : utfBad s pos
            · have := (HAT.out.1 h).2.2 (k + 1) (by omega) (by omega)
              rw [hbg] at this; cases this
            · rfl)
          clear hbg
          go_wp2_with fail
          refine HBG.out.mono ?_
          rintro e w1 ⟨rfl, hb1⟩
          have HB1 := Lib.hid (HB.out.trans (hb1.mono HB.out.size))
          clear hb1
          go_wp2
          go_ret3
          exact ⟨0, 0, 12, rfl, .inr ⟨HBAD.out, by decide⟩, HB1.out⟩
        · rw [hbg] at HBG
          have HBT := Lib.hid hbg
          clear hbg
          go_wp2_with fail
          refine HBG.out.mono ?_
          rintro e w1 ⟨rfl, hb1⟩
          have HB1 := Lib.hid (HB.out.trans (hb1.mono HB.out.size))
          clear hb1
          go_wp2
          go_roundw
          case rel => exact ⟨k + 1, by omega, by go_num, fun _ => ⟨hsz, HBT.out⟩, HB1.out⟩
          case measure => simp [intOf]; omega
      · have hsz1 : (s.size : Int) < (pos : Int) + ((k : Int) + 1) := by omega
        have HBAD := Lib.hid (show utfBad s pos = true by
          cases h : utfBad s pos
          · have := (HAT.out.1 h).1; omega
          · rfl)
        go_wp2
        go_ret3
        exact ⟨0, 0, 4, rfl, .inr ⟨HBAD.out, by decide⟩, HB.out⟩
    · have hk2 : k = 4 := by omega
      have HOK := Lib.hid (show utfBad s pos = false by
        obtain ⟨q1, q2⟩ := HIN.out (by omega)
        rw [hk2] at q1 q2
        exact HAT.out.2 q1 q2)
      have hfit : pos + 4 ≤ s.size := by have := (HIN.out (by omega)).1; omega
      have HDE := Lib.hid (HAT.out.1 HOK.out).2.1
      have hlt1 : ¬ (k : Int) + 1 ≤ 4 := by omega
      clear hk2
      obtain ⟨wo, rfl⟩ : ∃ wo : World, wo = wr := ⟨_, rfl⟩
      go_wp2
      go_loopw [10, 11] (fun r i wr => ∃ (j : Nat) (r' : Int), j + 1 ≤ 4 ∧ i = .int .i64 ((j : Int) + 1) ∧ r = .int .i64 r' ∧ rBd j r' ∧ Below w.heap.size w wr) (fun _ i _ => 4 - (intOf i).toNat)
      case atStart => exact ⟨0, _, by omega, rfl, rfl, by unfold rBd; omega, HB.out.alloc HB.out.size _⟩
      case round =>
        obtain ⟨j, r', hj, rfl, rfl, hrb, hbel⟩ := hrel
        have HB2 := Lib.hid hbel
        clear hbel
        have hr0 : 0 ≤ r' := hrb.1
        have hr1 : r' < 69222656 := by unfold rBd at hrb; omega
        by_cases hjl : j + 1 < 4
        · have hjl1 : (j : Int) + 1 < 4 := by omega
          have hx1 : (pos : Int) + ((j : Int) + 1) < (s.size : Int) := by omega
          have t1 : ((pos : Int) + ((j : Int) + 1)).toNat = pos + (j + 1) := by omega
          have hx2 : pos + (j + 1) < s.size := by omega
          obtain ⟨c, hc⟩ : ∃ c : Int, (s[pos + (j + 1)].toNat : Int) = c := ⟨_, rfl⟩
          have hc2 : 0 ≤ c ∧ c ≤ 255 := by have := s[pos + (j + 1)].toNat_lt; omega
          obtain ⟨d, hd⟩ : ∃ d : Int, IntKind.u8.wrap (c - 128) = d := ⟨_, rfl⟩
          have hd2 : 0 ≤ d ∧ d ≤ 255 := by rw [← hd, IntKind.wrap_u8]; omega
          go_wp2
          go_roundw
          case rel => exact ⟨j + 1, _, by omega, by go_num, rfl, by unfold rBd at hrb ⊢; omega, HB2.out⟩
          case measure => simp [intOf]; omega
        · have hjl1 : ¬ (j : Int) + 1 < 4 := by omega
          go_wp2
          go_ret3
          exact ⟨_, 4, 0, rfl, .inl ⟨HOK.out, rfl, by rw [HDE.out]; rfl⟩, HB2.out⟩

set_option maxHeartbeats 400000 in
theorem refNext (s : ByteArray) (pos : Nat) (w : World) (hs : s.size ≤ 4611686018427387904) (hp : pos < s.size) :
    Calls Tryz.prog 175 #[.string s, .int .i64 pos] w (NextPost s pos w) := by
  have hlt := s[pos].toNat_lt
  have HG := Lib.hid (get_byte s pos hp)
  by_cases q0 : (s[pos].toNat : Int) < 128
  · have HU := Lib.hid (utf1 s pos (by rw [HG.out]; omega))
    have hp1 : ¬ (pos : Int) < 0 := by omega
    have hp2 : (pos : Int) < (s.size : Int) := by omega
    have hp3 : ((pos : Int) == (s.size : Int)) = false := by simp; omega
    have hp4 : decide ((pos : Int) < 0) = false := decide_eq_false (by omega)
    obtain ⟨c0, hc0⟩ : ∃ c0, (s[pos].toNat : Int) = c0 := ⟨_, rfl⟩
    rw [hc0] at q0
    have q1 : 0 ≤ c0 := by omega
    clear hlt
    go_enter Tryz.func175, Tryz.ntmps175
    go_wp2
    go_ret3
    exact ⟨_, 1, 0, rfl, .inl ⟨HU.out.1, rfl, by rw [HU.out.2]; rfl⟩, Below.refl _ _⟩
  by_cases q1 : (s[pos].toNat : Int) < 192 ∨ 247 < (s[pos].toNat : Int)
  · have HU := Lib.hid (utf0 s pos (by rw [HG.out]; omega))
    have hp1 : ¬ (pos : Int) < 0 := by omega
    have hp2 : (pos : Int) < (s.size : Int) := by omega
    have hp3 : ((pos : Int) == (s.size : Int)) = false := by simp; omega
    have hp4 : decide ((pos : Int) < 0) = false := decide_eq_false (by omega)
    obtain ⟨c0, hc0⟩ : ∃ c0, (s[pos].toNat : Int) = c0 := ⟨_, rfl⟩
    rw [hc0] at q0 q1
    clear hlt
    by_cases q2 : c0 < 192
    · go_enter Tryz.func175, Tryz.ntmps175
      go_wp2
      go_ret3
      exact ⟨0, 0, 12, rfl, .inr ⟨HU.out, by decide⟩, Below.refl _ _⟩
    · have q3 : 247 < c0 := by omega
      have q4 : decide (c0 < 192) = false := by simp; omega
      go_enter Tryz.func175, Tryz.ntmps175
      go_wp2
      go_ret3
      exact ⟨0, 0, 12, rfl, .inr ⟨HU.out, by decide⟩, Below.refl _ _⟩
  by_cases q2 : (s[pos].toNat : Int) ≤ 223
  · exact refNext2 s pos w hs hp (by omega) q2
  by_cases q3 : (s[pos].toNat : Int) ≤ 239
  · exact refNext3 s pos w hs hp (by omega) q3
  · exact refNext4 s pos w hs hp (by omega) (by omega)

end Go.Proofs.YtaekmmnpdbmoeaaGreatDoor
