/- The contract of the law KeyReads: it returns true, whatever the value. The contract of the law KeyBack: it returns true, whatever the key, the keys, and the two values. -/
import Derived.Test.YtcahpjejpimdhaaGreatDoorZb16
import Derived.Test.YtcahpjejpimdhaaGreatDoorZb33
import Derived.Test.YtcahpjejpimdhaaGreatDoorZb34
import Derived.Test.YtcahpjejpimdhaaGreatDoorZb22
import Derived.Test.YtcahpjejpimdhaaGreatDoorZb32

namespace Go.Proofs.YtcahpjejpimdhaaGreatDoor
open Go.RowKit

/-- A value that lies in a row of one. -/
theorem vals_one {w : World} {hi g T : Nat} {v : JV} {c0 c1 c2 c3 c4 : Value} (h : w.heap[g]? = some (.cells #[c0, c1, c2, c3, c4] T (0, 0))) (hg : g < hi) (hR : Rep w 0 hi v (.agg #[c0, c1, c2, c3, c4])) : ValsAt w 0 hi (some ⟨g, 0, none⟩) [v] := by
  refine .inr ⟨g, 0, rfl, Nat.zero_le _, hg, ⟨_, _, _, h, fun _ => rfl⟩, ?_⟩
  unfold RepL RepL
  exact ⟨⟨c0, c1, c2, c3, c4, box_cell h rfl, box_cell h rfl, box_cell h rfl, box_cell h rfl, box_cell h rfl, by simp [World.frozen?, h], hR⟩, trivial⟩

set_option maxHeartbeats 1000000 in
set_option maxRecDepth 100000 in
theorem lawKeyReads (v : JV) (x : Value) (w : World) (hR : Rep w 0 w.heap.size v x) (hT : Tabs w) :
    Calls Tryz.prog 4 #[x] w fun e w' => e = .returned (.bool true) ∧ Below w.heap.size w w' := by
  obtain ⟨an, cn, ai, ci, rfl, h1, h2, h3, h4⟩ := hR.parts
  have HT := Lib.hid hT
  have HR := Lib.hid hR
  clear h1 h2 h3 h4 hR hT
  have HAW := Lib.hid (show ∀ w', Below w.heap.size w w' → Calls Tryz.prog 14 #[] w' (fun e w'' => e = .returned (.bool true) ∧ Below w.heap.size w w'') from fun w' h => by
    refine (lawAwake w' (HT.out.below h)).mono ?_
    rintro e w'' ⟨rfl, hb⟩
    exact ⟨rfl, h.trans (hb.mono h.size)⟩)
  obtain ⟨W0, hW0⟩ : ∃ W0, W0 = (w.alloc (.cells #[.int .u8 v.kind, .int .i64 v.n, .string v.t, .slice an v.names.length cn, .slice ai v.items.length ci] 29)).alloc (.cells #[.int .u8 v.kind, .int .i64 v.n, .string v.t, .slice an v.names.length cn, .slice ai v.items.length ci] 29) := ⟨_, rfl⟩
  have HB0 := Lib.hid (show Below w.heap.size w W0 by rw [hW0]; exact ((Below.refl _ _).alloc (Nat.le_refl _) _).alloc (by simp) _)
  have hz0 : W0.heap.size = w.heap.size + 2 := by rw [hW0]; simp
  have HX0 := Lib.hid (show W0.heap[w.heap.size]? = some (.cells #[.int .u8 v.kind, .int .i64 v.n, .string v.t, .slice an v.names.length cn, .slice ai v.items.length ci] 29 (0, 0)) by rw [hW0, Below.heap_alloc _ _ _ (by simp)]; exact heap_alloc_new w _)
  have HL := Lib.hid (show Calls Tryz.prog 22 #[.slice (some ⟨w.heap.size + 1, 0, none⟩) 1 1] W0 (LongPost [v] W0) from
    lawLong [v] (some ⟨w.heap.size + 1, 0, none⟩) 1 W0 (vals_one (by
      rw [hW0]
      have := heap_alloc_new (w.alloc (.cells #[.int .u8 v.kind, .int .i64 v.n, .string v.t, .slice an v.names.length cn, .slice ai v.items.length ci] 29)) (.cells #[.int .u8 v.kind, .int .i64 v.n, .string v.t, .slice an v.names.length cn, .slice ai v.items.length ci] 29)
      rwa [show (w.alloc (.cells #[.int .u8 v.kind, .int .i64 v.n, .string v.t, .slice an v.names.length cn, .slice ai v.items.length ci] 29)).heap.size = w.heap.size + 1 by simp] at this) (by omega) (HR.out.below HB0.out (Nat.le_refl _) (Nat.le_refl _) (by omega))))
  have HW0 := Lib.hid hW0
  have HZ0 := Lib.hid hz0
  clear hW0 hz0
  go_enter Tryz.func4, Tryz.ntmps4
  go_wp2_with fail
  rw [← HW0.out]
  refine HL.out.mono ?_
  clear HL HW0
  rintro e w1 ⟨b, rfl, hlong, hw1⟩
  subst hw1
  cases b
  · have hwt : v.wt ≤ 4294967296 := by have := hlong rfl; simp [JV.wts] at this; omega
    clear hlong
    have c0 : W0.cell? ⟨w.heap.size, 0, none⟩ = some (.int .u8 v.kind) := box_cell HX0.out rfl
    have c1 : W0.cell? ⟨w.heap.size, 1, none⟩ = some (.int .i64 v.n) := box_cell HX0.out rfl
    have c2 : W0.cell? ⟨w.heap.size, 2, none⟩ = some (.string v.t) := box_cell HX0.out rfl
    have c3 : W0.cell? ⟨w.heap.size, 3, none⟩ = some (.slice an v.names.length cn) := box_cell HX0.out rfl
    have c4 : W0.cell? ⟨w.heap.size, 4, none⟩ = some (.slice ai v.items.length ci) := box_cell HX0.out rfl
    have HKA := Lib.hid (keyOfW v _ W0 w.heap.size hwt (by have := HZ0.out; omega) (HR.out.below HB0.out (Nat.le_refl _) (Nat.le_refl _) (Nat.le_refl _)))
    unfold KeyOfPost at HKA
    obtain ⟨K, hK⟩ : ∃ K, K = keyOfJ v := ⟨_, rfl⟩
    rw [← hK] at HKA
    have HKE := Lib.hid hK
    clear hK
    obtain ⟨⟨ks, kp⟩, ke⟩ := K
    go_wp2_with fail
    refine HKA.out.mono ?_
    clear HKA c0 c1 c2 c3 c4
    rintro e w2 ⟨rfl, hb2⟩
    have hz2 : w.heap.size + 2 ≤ w2.heap.size := by have := hb2.size; have := HZ0.out; omega
    obtain ⟨W2, hW2⟩ : ∃ W2, W2 = w2.alloc (.cells #[.string ks, .string kp] 23) := ⟨_, rfl⟩
    have HB2 := Lib.hid (show Below w.heap.size w W2 by rw [hW2]; exact (HB0.out.trans (hb2.mono (by have := HZ0.out; omega))).alloc (by omega) _)
    have HX2 := Lib.hid (show W2.heap[w.heap.size]? = some (.cells #[.int .u8 v.kind, .int .i64 v.n, .string v.t, .slice an v.names.length cn, .slice ai v.items.length ci] 29 (0, 0)) by
      rw [hW2, Below.heap_alloc _ _ _ (by omega), hb2.block _ (by have := HZ0.out; omega)]; exact HX0.out)
    have HY2 := Lib.hid (show W2.heap[w2.heap.size]? = some (.cells #[.string ks, .string kp] 23 (0, 0)) by rw [hW2]; exact heap_alloc_new w2 _)
    have c0 : W2.cell? ⟨w.heap.size, 0, none⟩ = some (.int .u8 v.kind) := box_cell HX2.out rfl
    have c1 : W2.cell? ⟨w.heap.size, 1, none⟩ = some (.int .i64 v.n) := box_cell HX2.out rfl
    have c2 : W2.cell? ⟨w.heap.size, 2, none⟩ = some (.string v.t) := box_cell HX2.out rfl
    have c3 : W2.cell? ⟨w.heap.size, 3, none⟩ = some (.slice an v.names.length cn) := box_cell HX2.out rfl
    have c4 : W2.cell? ⟨w.heap.size, 4, none⟩ = some (.slice ai v.items.length ci) := box_cell HX2.out rfl
    rw [hW2] at c0 c1 c2 c3 c4
    have HW2 := Lib.hid hW2
    have HKB := Lib.hid (ref14Of v _ W2 hwt (HR.out.below HB2.out (Nat.le_refl _) (Nat.le_refl _) HB2.out.size))
    unfold KeyOfPost at HKB
    rw [← HKE.out] at HKB
    clear hb2 hW2 HX0
    go_wp2_with fail
    clear c0 c1 c2 c3 c4
    rw [← HW2.out]
    refine HKB.out.mono ?_
    clear HKB HW2
    rintro e w3 ⟨rfl, hb3⟩
    have hz3 : w2.heap.size < w3.heap.size := Nat.lt_of_lt_of_le (heap_lt HY2.out) hb3.size
    have HB3 := Lib.hid ((HB2.out.trans (hb3.mono HB2.out.size)).alloc (by have := HB2.out.size; have := hb3.size; omega) (.cells #[.string ks, .string kp] 23))
    have hy3 : (w3.alloc (.cells #[.string ks, .string kp] 23)).heap[w2.heap.size]? = some (.cells #[.string ks, .string kp] 23 (0, 0)) := by rw [Below.heap_alloc _ _ _ hz3, hb3.block _ (heap_lt HY2.out)]; exact HY2.out
    have d0 : (w3.alloc (.cells #[.string ks, .string kp] 23)).cell? ⟨w2.heap.size, 0, none⟩ = some (.string ks) := box_cell hy3 rfl
    have d1 : (w3.alloc (.cells #[.string ks, .string kp] 23)).cell? ⟨w2.heap.size, 1, none⟩ = some (.string kp) := box_cell hy3 rfl
    clear hb3 hy3
    go_wp2_with fail
    refine (HAW.out _ HB3.out).mono ?_
    rintro e w4 ⟨rfl, hb4⟩
    go_wp2
    go_ret
    exact ⟨rfl, hb4⟩
  · clear hlong
    go_wp2_with fail
    refine (HAW.out _ HB0.out).mono ?_
    rintro e w2 ⟨rfl, hb2⟩
    go_wp2
    go_ret
    exact ⟨rfl, hb2⟩

end Go.Proofs.YtcahpjejpimdhaaGreatDoor

namespace Go.Proofs.YtcahpjejpimdhaaGreatDoor
open Go.RowKit

theorem kept_blk {w w' : World} {p : Nat} {o : Obj} (hb : Below w.heap.size w w') (h : w.heap[p]? = some o) : w'.heap[p]? = some o := by rw [hb.block _ (heap_lt h)]; exact h
theorem old_blk {w : World} {p : Nat} {o x : Obj} (h : w.heap[p]? = some o) : (w.alloc x).heap[p]? = some o := by rw [Below.heap_alloc _ _ _ (heap_lt h)]; exact h
theorem kcells2 {W X : World} {b T : Nat} {c0 c1 : Value} (h : W.heap[b]? = some (.cells #[c0, c1] T (0, 0))) (hb : Below W.heap.size W X) : X.cell? ⟨b, 0, none⟩ = some c0 ∧ X.cell? ⟨b, 1, none⟩ = some c1 := by
  have := kept_blk hb h
  exact ⟨box_cell this rfl, box_cell this rfl⟩
theorem kcells5 {W X : World} {b T : Nat} {c0 c1 c2 c3 c4 : Value} (h : W.heap[b]? = some (.cells #[c0, c1, c2, c3, c4] T (0, 0))) (hb : Below W.heap.size W X) :
    X.cell? ⟨b, 0, none⟩ = some c0 ∧ X.cell? ⟨b, 1, none⟩ = some c1 ∧ X.cell? ⟨b, 2, none⟩ = some c2 ∧ X.cell? ⟨b, 3, none⟩ = some c3 ∧ X.cell? ⟨b, 4, none⟩ = some c4 := by
  have := kept_blk hb h
  exact ⟨box_cell this rfl, box_cell this rfl, box_cell this rfl, box_cell this rfl, box_cell this rfl⟩
theorem below_now {W X : World} {o : Obj} (hb : Below W.heap.size W X) : Below W.heap.size W (X.alloc o) := hb.alloc hb.size _

theorem hSN' {W X : World} {a : Option Addr} {l : List ByteArray} (h : StrsAt W 0 W.heap.size a l) (hb : Below W.heap.size W X) : StrsAt X 0 X.heap.size a l := h.below hb (Nat.le_refl _) (Nat.le_refl _) hb.size

set_option maxHeartbeats 4000000 in
set_option maxRecDepth 100000 in
theorem lawKeyBack (s p : ByteArray) (l : List Key2) (a : Option Addr) (c : Nat) (v t : JV) (xv xt : Value) (w : World) (hK : KeysAt w 0 w.heap.size a l) (hl : l.length ≤ 9223372036854775807) (hV : Rep w 0 w.heap.size v xv) (hU : Rep w 0 w.heap.size t xt) (hT : Tabs w) :
    Calls Tryz.prog 10 #[.agg #[.string s, .string p], .slice a l.length c, xv, xt] w fun e w' => e = .returned (.bool true) ∧ Below w.heap.size w w' := by
  obtain ⟨an, cn, ai, ci, rfl, -, -, -, -⟩ := hV.parts
  obtain ⟨bn, dn, bi, di, rfl, -, -, -, -⟩ := hU.parts
  obtain ⟨W0, hW0⟩ : ∃ W0, W0 = ((w.alloc (.cells #[.string s, .string p] 23)).alloc (.cells #[.int .u8 v.kind, .int .i64 v.n, .string v.t, .slice an v.names.length cn, .slice ai v.items.length ci] 29)).alloc (.cells #[.int .u8 t.kind, .int .i64 t.n, .string t.t, .slice bn t.names.length dn, .slice bi t.items.length di] 29) := ⟨_, rfl⟩
  have hz0 : W0.heap.size = w.heap.size + 3 := by rw [hW0]; simp
  have HB0 := Lib.hid (show Below w.heap.size w W0 by rw [hW0]; exact (((Below.refl _ _).alloc (Nat.le_refl _) _).alloc (by simp) _).alloc (by simp; omega) _)
  have HXK := Lib.hid (show W0.heap[w.heap.size]? = some (.cells #[.string s, .string p] 23 (0, 0)) by rw [hW0]; exact old_blk (heap_old _ _ _))
  have HXV := Lib.hid (show W0.heap[w.heap.size + 1]? = some (.cells #[.int .u8 v.kind, .int .i64 v.n, .string v.t, .slice an v.names.length cn, .slice ai v.items.length ci] 29 (0, 0)) by rw [hW0]; exact old_blk (heap_two _ _ _))
  have HXT := Lib.hid (show W0.heap[w.heap.size + 2]? = some (.cells #[.int .u8 t.kind, .int .i64 t.n, .string t.t, .slice bn t.names.length dn, .slice bi t.items.length di] 29 (0, 0)) by
    rw [hW0]
    have := heap_alloc_new ((w.alloc (.cells #[.string s, .string p] 23)).alloc (.cells #[.int .u8 v.kind, .int .i64 v.n, .string v.t, .slice an v.names.length cn, .slice ai v.items.length ci] 29)) (.cells #[.int .u8 t.kind, .int .i64 t.n, .string t.t, .slice bn t.names.length dn, .slice bi t.items.length di] 29)
    rwa [show ((w.alloc (.cells #[.string s, .string p] 23)).alloc (.cells #[.int .u8 v.kind, .int .i64 v.n, .string v.t, .slice an v.names.length cn, .slice ai v.items.length ci] 29)).heap.size = w.heap.size + 2 by simp] at this)
  have HT := Lib.hid (hT.below HB0.out)
  have HK := Lib.hid (hK.below HB0.out (Nat.le_refl _) (Nat.le_refl _) HB0.out.size)
  have HV := Lib.hid (hV.below HB0.out (Nat.le_refl _) (Nat.le_refl _) HB0.out.size)
  have HU := Lib.hid (hU.below HB0.out (Nat.le_refl _) (Nat.le_refl _) HB0.out.size)
  have HW0 := Lib.hid hW0
  have HZ0 := Lib.hid hz0
  clear hT hK hV hU hW0 hz0
  have HEND := Lib.hid (show ∀ w', Below W0.heap.size W0 w' → Below w.heap.size w w' from fun w' h => HB0.out.trans (h.mono HB0.out.size))
  have HAW := Lib.hid (show ∀ w', Below W0.heap.size W0 w' → Calls Tryz.prog 14 #[] w' (fun e w'' => e = .returned (.bool true) ∧ Below W0.heap.size W0 w'') from fun w' h => by
    refine (lawAwake w' (HT.out.below h)).mono ?_
    rintro e w'' ⟨rfl, hb⟩
    exact ⟨rfl, h.trans (hb.mono h.size)⟩)
  have HS := Lib.hid (lawShort s p W0)
  go_enter Tryz.func10, Tryz.ntmps10
  go_wp2_with fail
  rw [← HW0.out]
  clear HW0
  refine HS.out.mono ?_
  clear HS
  rintro e w1 ⟨rfl, hb1⟩
  have HB1 := Lib.hid hb1
  clear hb1
  have HSS := Lib.hid (@short_iff s p)
  generalize shortK s p = sh at HSS
  cases sh
  · clear HSS
    go_wp2_with fail
    refine (HAW.out w1 HB1.out).mono ?_
    rintro e w2 ⟨rfl, hb2⟩
    go_wp2
    go_ret
    exact ⟨rfl, HEND.out _ hb2⟩
  obtain ⟨hs3, hp3⟩ := HSS.out.1 rfl
  clear HSS
  have HF := Lib.hid (lawFew l a c w1 (HK.out.below HB1.out (Nat.le_refl _) (Nat.le_refl _) HB1.out.size) hl)
  go_wp2_with fail
  refine HF.out.mono ?_
  clear HF
  rintro e w2 ⟨b, rfl, hfew, hb2⟩
  have HB2 := Lib.hid (HB1.out.trans (hb2.mono HB1.out.size))
  clear hb2
  cases b
  · clear hfew
    go_wp2_with fail
    refine (HAW.out w2 HB2.out).mono ?_
    rintro e w2 ⟨rfl, hb2⟩
    go_wp2
    go_ret
    exact ⟨rfl, HEND.out _ hb2⟩
  obtain ⟨h40, hsh⟩ := hfew rfl
  have HSH := Lib.hid hsh
  clear hfew hsh
  obtain ⟨c0, c1, c2, c3, c4⟩ := kcells5 HXV.out HB2.out
  have HL := Lib.hid (lawLong [v] (some ⟨w2.heap.size, 0, none⟩) 1 (w2.alloc (.cells #[.int .u8 v.kind, .int .i64 v.n, .string v.t, .slice an v.names.length cn, .slice ai v.items.length ci] 29)) (vals_one (heap_alloc_new _ _) (by simp) ((HV.out.below HB2.out (Nat.le_refl _) (Nat.le_refl _) HB2.out.size).below ((Below.refl _ _).alloc (Nat.le_refl _) _) (Nat.le_refl _) (Nat.le_refl _) (by simp))))
  go_wp2_with fail
  refine HL.out.mono ?_
  clear HL c0 c1 c2 c3 c4
  rintro e w3 ⟨b, rfl, hlong, hw3⟩
  have HB3 := Lib.hid (show Below W0.heap.size W0 w3 by rw [← hw3]; exact below_now HB2.out)
  clear hw3
  cases b
  case true =>
    clear hlong
    go_wp2_with fail
    refine (HAW.out w3 HB3.out).mono ?_
    rintro e w2 ⟨rfl, hb2⟩
    go_wp2
    go_ret
    exact ⟨rfl, HEND.out _ hb2⟩
  have hwv : v.wt ≤ 20000 := by have := hlong rfl; simp [JV.wts] at this; omega
  clear hlong
  obtain ⟨c0, c1, c2, c3, c4⟩ := kcells5 HXT.out HB3.out
  have HL := Lib.hid (lawLong [t] (some ⟨w3.heap.size, 0, none⟩) 1 (w3.alloc (.cells #[.int .u8 t.kind, .int .i64 t.n, .string t.t, .slice bn t.names.length dn, .slice bi t.items.length di] 29)) (vals_one (heap_alloc_new _ _) (by simp) ((HU.out.below HB3.out (Nat.le_refl _) (Nat.le_refl _) HB3.out.size).below ((Below.refl _ _).alloc (Nat.le_refl _) _) (Nat.le_refl _) (Nat.le_refl _) (by simp))))
  go_wp2_with fail
  refine HL.out.mono ?_
  clear HL c0 c1 c2 c3 c4
  rintro e w4 ⟨b, rfl, hlong, hw4⟩
  have HB4 := Lib.hid (show Below W0.heap.size W0 w4 by rw [← hw4]; exact below_now HB3.out)
  clear hw4
  cases b
  case true =>
    clear hlong
    go_wp2_with fail
    refine (HAW.out w4 HB4.out).mono ?_
    rintro e w2 ⟨rfl, hb2⟩
    go_wp2
    go_ret
    exact ⟨rfl, HEND.out _ hb2⟩
  have hwt : t.wt ≤ 20000 := by have := hlong rfl; simp [JV.wts] at this; omega
  clear hlong
  go_wp2_with fail
  refine (HAW.out w4 HB4.out).mono ?_
  clear HB1 HB2 HB3 HB4
  rintro e w5 ⟨rfl, hb5⟩
  have HB5 := Lib.hid hb5
  clear hb5
  obtain ⟨k0, k1⟩ := kcells2 HXK.out HB5.out
  have HKV := Lib.hid (keyValue_any s p w5 (by omega) (by omega))
  unfold ValPost at HKV
  have hEE : (keyE s p == 0) = keyOk s.data.toList p.data.toList := by unfold keyE; cases keyOk s.data.toList p.data.toList <;> rfl
  have HUU := Lib.hid (show keyOk s.data.toList p.data.toList = true → keyOfJ (keyU s p) = ((s, p), 0) from fun h => by unfold keyU; rw [if_pos h]; exact keyOf_keyJ h)
  have HWU := Lib.hid (show (keyU s p).wt ≤ 4294967296 by unfold keyU; split <;> first | exact keyJ_wt (by omega) (by omega) | decide)
  have HMY := Lib.hid (fun w' => keyMay s p w' (by omega) (by omega))
  obtain ⟨ok, hok⟩ : ∃ ok, ok = keyOk s.data.toList p.data.toList := ⟨_, rfl⟩
  obtain ⟨E1, hE1⟩ : ∃ E1, E1 = keyE s p := ⟨_, rfl⟩
  obtain ⟨u1, hu1⟩ : ∃ u1, u1 = keyU s p := ⟨_, rfl⟩
  rw [← hok] at hEE HUU HMY
  rw [← hE1] at hEE HKV
  rw [← hu1] at HUU HKV HWU
  clear hok hE1 hu1
  have hoo : (ok != ok) = false := by cases ok <;> rfl
  go_wp2_with fail
  refine HKV.out.mono ?_
  clear HKV
  rintro e w6 ⟨on, pn, oi, qi, rfl, hr6, hb6⟩
  obtain ⟨W6, hW6⟩ : ∃ W6, W6 = w6.alloc (.cells #[.int .u8 u1.kind, .int .i64 u1.n, .string u1.t, .slice on u1.names.length pn, .slice oi u1.items.length qi] 29) := ⟨_, rfl⟩
  have HB6 := Lib.hid (show Below W0.heap.size W0 W6 by rw [hW6]; exact below_now (HB5.out.trans (hb6.mono HB5.out.size)))
  have HX6 := Lib.hid (show W6.heap[w6.heap.size]? = some (.cells #[.int .u8 u1.kind, .int .i64 u1.n, .string u1.t, .slice on u1.names.length pn, .slice oi u1.items.length qi] 29 (0, 0)) by rw [hW6]; exact heap_alloc_new w6 _)
  have HR6 := Lib.hid (show Rep W6 0 W6.heap.size u1 (.agg #[.int .u8 u1.kind, .int .i64 u1.n, .string u1.t, .slice on u1.names.length pn, .slice oi u1.items.length qi]) by
    rw [hW6]; exact Rep.carry (Nat.zero_le _) (by simp) (fun b _ h => Below.heap_alloc _ _ _ h) _ _ hr6)
  clear k0 k1
  obtain ⟨k0, k1⟩ := kcells2 HXK.out HB6.out
  rw [hW6] at k0 k1
  have HW6 := Lib.hid hW6
  clear hr6 hb6 hW6 HB5
  go_wp2_with fail
  rw [← HW6.out]
  refine (HMY.out W6).mono ?_
  clear HMY HW6 k0 k1
  rintro e w7 ⟨rfl, hb7⟩
  have HB7 := Lib.hid (HB6.out.trans (hb7.mono HB6.out.size))
  have HX7 := Lib.hid (kept_blk hb7 HX6.out)
  have HR7 := Lib.hid (HR6.out.below hb7 (Nat.le_refl _) (Nat.le_refl _) hb7.size)
  clear hb7 HB6 HX6 HR6
  go_upto_if 59 with fail
  go_cut [8] (fun _ wx => Below W0.heap.size W0 wx)
  case first =>
    cases ok
    · go_wp2_with fail
      go_meet
      exact HB7.out
    · have hx7 := HX7.out
      have d0 : w7.cell? ⟨w6.heap.size, 0, none⟩ = some (.int .u8 u1.kind) := box_cell hx7 rfl
      have d1 : w7.cell? ⟨w6.heap.size, 1, none⟩ = some (.int .i64 u1.n) := box_cell hx7 rfl
      have d2 : w7.cell? ⟨w6.heap.size, 2, none⟩ = some (.string u1.t) := box_cell hx7 rfl
      have d3 : w7.cell? ⟨w6.heap.size, 3, none⟩ = some (.slice on u1.names.length pn) := box_cell hx7 rfl
      have d4 : w7.cell? ⟨w6.heap.size, 4, none⟩ = some (.slice oi u1.items.length qi) := box_cell hx7 rfl
      have HOF := Lib.hid (keyOfW u1 _ w7 w7.heap.size HWU.out (Nat.le_refl _) HR7.out)
      unfold KeyOfPost at HOF
      rw [HUU.out rfl] at HOF
      clear hx7 HUU HX7
      go_wp2_with fail
      refine HOF.out.mono ?_
      clear HOF d0 d1 d2 d3 d4
      rintro e w8 ⟨rfl, hb8⟩
      have hb8' : Below W0.heap.size W0 (w8.alloc (.cells #[.string s, .string p] 23)) := below_now (HB7.out.trans (hb8.mono HB7.out.size))
      have HB8 := Lib.hid hb8'
      obtain ⟨k0, k1⟩ := kcells2 HXK.out hb8'
      clear hb8 hb8'
      go_wp2_with fail
      go_meet
      exact HB8.out
  case rest =>
    have HB8 := Lib.hid hcut
    clear hcut hEE hoo HUU HWU HB7 HX7 HR7
    obtain ⟨c0, c1, c2, c3, c4⟩ := kcells5 HXV.out HB8.out
    have HKO := Lib.hid (keyOfW v _ wc W0.heap.size (by omega) HB8.out.size (HV.out.below HB8.out (Nat.le_refl _) (Nat.le_refl _) (Nat.le_refl _)))
    unfold KeyOfPost at HKO
    have HBK := Lib.hid (@keyOf_back v)
    have HOKK := Lib.hid (@keyOfJ_ok v)
    have HMV := Lib.hid (fun w' (h : Below W0.heap.size W0 w') => valueMay v _ w' (by omega) (HV.out.below h (Nat.le_refl _) (Nat.le_refl _) h.size))
    obtain ⟨K, hK⟩ : ∃ K, K = keyOfJ v := ⟨_, rfl⟩
    rw [← hK] at HKO HBK HOKK
    clear hK
    obtain ⟨⟨ks, kp⟩, ke⟩ := K
    go_wp2_with fail
    refine HKO.out.mono ?_
    clear HKO c0 c1 c2 c3 c4
    rintro e w9 ⟨rfl, hb9⟩
    obtain ⟨W9, hW9⟩ : ∃ W9, W9 = w9.alloc (.cells #[.string ks, .string kp] 23) := ⟨_, rfl⟩
    have HB9 := Lib.hid (show Below W0.heap.size W0 W9 by rw [hW9]; exact below_now (HB8.out.trans (hb9.mono HB8.out.size)))
    have HX9 := Lib.hid (show W9.heap[w9.heap.size]? = some (.cells #[.string ks, .string kp] 23 (0, 0)) by rw [hW9]; exact heap_alloc_new w9 _)
    have HW9 := Lib.hid hW9
    clear hb9 hW9 HB8
    go_upto_region 11 with fail
    rw [← HW9.out]
    clear HW9
    go_cut [82] (fun s82 wx => ∃ b : Bool, s82 = .bool b ∧ (b = true → ke = 0) ∧ Below W9.heap.size W9 wx)
    case first =>
      by_cases hke : ke = 0
      · have t1 : (ke == 0) = true := by simpa using hke
        have HKE := Lib.hid hke
        clear hke
        obtain ⟨c0, c1, c2, c3, c4⟩ := kcells5 HXV.out HB9.out
        go_wp2_with fail
        refine (HMV.out W9 HB9.out).mono ?_
        rintro e w10 ⟨rfl, hb10⟩
        have HB10 := Lib.hid hb10
        clear hb10 c0 c1 c2 c3 c4
        obtain ⟨mv, hmv⟩ : ∃ mv, mv = v.mayB := ⟨_, rfl⟩
        rw [← hmv]
        clear hmv
        go_wp2_with fail
        go_meet
        exact ⟨_, rfl, fun _ => HKE.out, HB10.out⟩
      · have t1 : (ke == 0) = false := by simpa using hke
        have HKE := Lib.hid hke
        clear hke
        go_wp2_with fail
        go_meet
        exact ⟨false, rfl, fun h => by simp at h, Below.refl _ _⟩
    case rest =>
      obtain ⟨b, hs82, hbk, hb10⟩ := hcut
      subst hs82
      have HBB := Lib.hid hbk
      have HB10 := Lib.hid (HB9.out.trans (hb10.mono HB9.out.size))
      have HX10 := Lib.hid (kept_blk hb10 HX9.out)
      clear hbk hb10 HX9 HB9 HMV
      go_upto_if 82 with fail
      go_cut [8] (fun _ wx => Below W0.heap.size W0 wx)
      case first =>
        cases b
        · go_wp2_with fail
          go_meet
          exact HB10.out
        · obtain rfl : ke = 0 := HBB.out rfl
          obtain ⟨hkok, hq1, hq2⟩ := HOKK.out rfl
          obtain ⟨_, hvk⟩ := HBK.out rfl
          replace hkok : keyOk ks.data.toList kp.data.toList = true := hkok
          replace hq1 : ks.size ≤ 64 := hq1
          replace hq2 : kp.size ≤ 128 := hq2
          have HVK := Lib.hid (show keyU ks kp = v by unfold keyU; rw [if_pos hkok]; exact hvk.symm)
          have HKV := Lib.hid (keyValue_any ks kp wc (by omega) (by omega))
          unfold ValPost at HKV
          rw [show keyE ks kp = 0 by unfold keyE; rw [if_pos hkok], HVK.out] at HKV
          have x0 : wc.cell? ⟨w9.heap.size, 0, none⟩ = some (.string ks) := box_cell HX10.out rfl
          have x1 : wc.cell? ⟨w9.heap.size, 1, none⟩ = some (.string kp) := box_cell HX10.out rfl
          clear hkok hvk HBK HOKK HBB HVK
          go_wp2_with fail
          refine HKV.out.mono ?_
          clear HKV x0 x1
          rintro e w11 ⟨on, pn, oi, qi, rfl, hr11, hb11⟩
          obtain ⟨W11, hW11⟩ : ∃ W11, W11 = w11.alloc (.cells #[.int .u8 v.kind, .int .i64 v.n, .string v.t, .slice on v.names.length pn, .slice oi v.items.length qi] 29) := ⟨_, rfl⟩
          have HB11 := Lib.hid (show Below W0.heap.size W0 W11 by rw [hW11]; exact below_now (HB10.out.trans (hb11.mono HB10.out.size)))
          have HX11 := Lib.hid (show W11.heap[w11.heap.size]? = some (.cells #[.int .u8 v.kind, .int .i64 v.n, .string v.t, .slice on v.names.length pn, .slice oi v.items.length qi] 29 (0, 0)) by rw [hW11]; exact heap_alloc_new w11 _)
          have HR11 := Lib.hid (show Rep W11 0 W11.heap.size v (.agg #[.int .u8 v.kind, .int .i64 v.n, .string v.t, .slice on v.names.length pn, .slice oi v.items.length qi]) by
            rw [hW11]; exact Rep.carry (Nat.zero_le _) (by simp) (fun b _ h => Below.heap_alloc _ _ _ h) _ _ hr11)
          have HSA := Lib.hid (refSame 4294967296 v v _ _ 0 W11.heap.size W11 (by omega) (by omega) (Nat.le_refl _) (Nat.le_refl _) HR11.out (HV.out.below HB11.out (Nat.le_refl _) (Nat.le_refl _) HB11.out.size))
          rw [show v.sameB v = true from (JV.sameB_iff v v).2 rfl] at HSA
          obtain ⟨c0, c1, c2, c3, c4⟩ := kcells5 HXV.out HB11.out
          have d0 : W11.cell? ⟨w11.heap.size, 0, none⟩ = some (.int .u8 v.kind) := box_cell HX11.out rfl
          have d1 : W11.cell? ⟨w11.heap.size, 1, none⟩ = some (.int .i64 v.n) := box_cell HX11.out rfl
          have d2 : W11.cell? ⟨w11.heap.size, 2, none⟩ = some (.string v.t) := box_cell HX11.out rfl
          have d3 : W11.cell? ⟨w11.heap.size, 3, none⟩ = some (.slice on v.names.length pn) := box_cell HX11.out rfl
          have d4 : W11.cell? ⟨w11.heap.size, 4, none⟩ = some (.slice oi v.items.length qi) := box_cell HX11.out rfl
          rw [hW11] at c0 c1 c2 c3 c4 d0 d1 d2 d3 d4
          have HW11 := Lib.hid hW11
          clear hr11 hb11 hW11 HX11 HR11
          go_wp2_with fail
          clear c0 c1 c2 c3 c4 d0 d1 d2 d3 d4
          rw [← HW11.out]
          refine HSA.out.mono ?_
          clear HSA HW11
          rintro e w12 ⟨rfl, hb12⟩
          have HB12 := Lib.hid (HB11.out.trans (hb12.mono HB11.out.size))
          clear hb12
          go_wp2_with fail
          go_meet
          exact HB12.out
      case rest =>
        have HB11 := Lib.hid hcut
        clear hcut HBB HB10 HX10 HBK HOKK
        have HTA := Lib.hid (keyTable_any l a c wc (HK.out.carry (Nat.le_refl _) HB11.out.size (fun b _ h => HB11.out.block b h)) h40 HSH.out (HT.out.below HB11.out))
        unfold TabAny ValPost at HTA
        have HPA := Lib.hid (@tabE_parts l)
        have HEL := Lib.hid (show tabE l = 0 → l.length ≤ 32 from fun h => by
          unfold tabE at h
          split at h
          · cases h
          · omega)
        obtain ⟨E, hE⟩ : ∃ E, E = tabE l := ⟨_, rfl⟩
        rw [← hE] at HTA HPA HEL
        clear hE
        obtain ⟨n, hn⟩ : ∃ n, n = l.length := ⟨_, rfl⟩
        have HN := Lib.hid hn
        rw [← hn] at HTA HEL h40 hl
        rw [← hn]
        clear hn
        go_wp2_with fail
        refine HTA.out.mono ?_
        clear HTA
        rintro e w12 ⟨u, hu, _, hwu, on, pn, oi, qi, rfl, hr12, hb12⟩
        have HUM := Lib.hid hu
        obtain ⟨W12, hW12⟩ : ∃ W12, W12 = w12.alloc (.cells #[.int .u8 u.kind, .int .i64 u.n, .string u.t, .slice on u.names.length pn, .slice oi u.items.length qi] 29) := ⟨_, rfl⟩
        have HB12 := Lib.hid (show Below W0.heap.size W0 W12 by rw [hW12]; exact below_now (HB11.out.trans (hb12.mono HB11.out.size)))
        have HX12 := Lib.hid (show W12.heap[w12.heap.size]? = some (.cells #[.int .u8 u.kind, .int .i64 u.n, .string u.t, .slice on u.names.length pn, .slice oi u.items.length qi] 29 (0, 0)) by rw [hW12]; exact heap_alloc_new w12 _)
        have HR12 := Lib.hid (show Rep W12 0 W12.heap.size u (.agg #[.int .u8 u.kind, .int .i64 u.n, .string u.t, .slice on u.names.length pn, .slice oi u.items.length qi]) by
          rw [hW12]; exact Rep.carry (Nat.zero_le _) (by simp) (fun b _ h => Below.heap_alloc _ _ _ h) _ _ hr12)
        have HW12 := Lib.hid hW12
        clear hr12 hb12 hW12 HB11 hu
        go_upto_if 102 with fail
        rw [← HW12.out]
        clear HW12
        go_cut [8] (fun _ wx => Below W0.heap.size W0 wx)
        case first =>
          by_cases hE0 : E = 0
          case neg =>
            have t1 : (E == 0) = false := by simpa using hE0
            clear hE0
            go_wp2_with fail
            go_meet
            exact HB12.out
          have t1 : (E == 0) = true := by simpa using hE0
          obtain ⟨m, hpm, hrm, hum⟩ := HUM.out hE0
          have hml : m.length = n := by rw [hpm.length_eq]; exact HN.out.symm
          obtain ⟨hokl, _⟩ := HPA.out hE0
          have hokm : ∀ k ∈ m, ok2 k = true := fun k hk => hokl k (hpm.subset hk)
          have hkj : keysJ u = (m, 0) := by rw [hum]; exact keysJ_tab hokm hrm (by rw [hml]; exact HEL.out hE0)
          have hnm : u.names = ids m := by rw [hum]; rfl
          have hnl : u.names.length = n := by rw [hnm]; unfold ids; rw [List.length_map, hml]
          have HNM := Lib.hid hnm
          have HOKM := Lib.hid hokm
          have HRM := Lib.hid hrm
          have HML := Lib.hid hml
          have HKK := Lib.hid (keyKeys u _ W12 hwu HR12.out (HT.out.below HB12.out))
          unfold KeysPost at HKK
          rw [hkj] at HKK
          have d0 : W12.cell? ⟨w12.heap.size, 0, none⟩ = some (.int .u8 u.kind) := box_cell HX12.out rfl
          have d1 : W12.cell? ⟨w12.heap.size, 1, none⟩ = some (.int .i64 u.n) := box_cell HX12.out rfl
          have d2 : W12.cell? ⟨w12.heap.size, 2, none⟩ = some (.string u.t) := box_cell HX12.out rfl
          have d3 : W12.cell? ⟨w12.heap.size, 3, none⟩ = some (.slice on u.names.length pn) := box_cell HX12.out rfl
          have d4 : W12.cell? ⟨w12.heap.size, 4, none⟩ = some (.slice oi u.items.length qi) := box_cell HX12.out rfl
          have HX12' := Lib.hid (show W12.heap[w12.heap.size]? = some (.cells #[.int .u8 u.kind, .int .i64 u.n, .string u.t, .slice on n pn, .slice oi u.items.length qi] 29 (0, 0)) by rw [← hnl]; exact HX12.out)
          obtain ⟨on', pn', oi', qi', hxx, _, _, hSN, _⟩ := HR12.out.parts
          simp only [Value.agg.injEq, Array.mk.injEq, List.cons.injEq, Value.slice.injEq, true_and, and_true] at hxx
          obtain ⟨⟨rfl, rfl⟩, rfl, rfl⟩ := hxx
          have HSN := Lib.hid hSN
          clear hE0 hpm hrm hum hokl hokm hkj hnm hnl hml hSN HUM HPA HEL
          go_wp2_with fail
          refine HKK.out.mono ?_
          clear HKK d0 d1 d2 d3 d4
          rintro e w13 ⟨val, rfl, hown, hb13⟩
          obtain ⟨am, cm, hval, hKM⟩ := owns_keys (M := m) hown rfl
          rw [HML.out] at hval
          subst hval
          have HB13 := Lib.hid (HB12.out.trans (hb13.mono HB12.out.size))
          have HX13 := Lib.hid (kept_blk hb13 HX12'.out)
          have HSN3 := Lib.hid (hSN' HSN.out hb13)
          have HKM := Lib.hid (show KeysAt w13 0 w13.heap.size am m from hKM.carry (Nat.zero_le _) (Nat.le_refl _) (fun _ _ _ => rfl))
          have d3 : w13.cell? ⟨w12.heap.size, 3, none⟩ = some (.slice on n pn) := box_cell HX13.out rfl
          have hx13 : w12.heap.size < w13.heap.size := heap_lt HX13.out
          clear hown hb13 hKM HX12 HX12' HSN HR12 HB12
          go_wp2_with fail
          clear d3
          go_loopw [19, 20, 21] (fun i _ _ wr => ∃ k : Nat, k ≤ n ∧ i = .int .i64 k ∧ Below w13.heap.size w13 wr) (fun i _ _ _ => n - (intOf i).toNat)
          case atStart => exact ⟨0, by omega, rfl, Below.refl _ _⟩
          case round =>
            obtain ⟨k, hk, rfl, hbk⟩ := hrel
            have HBK := Lib.hid hbk
            have hzk : w13.heap.size ≤ wr.heap.size := hbk.size
            have HBT := Lib.hid (HB13.out.trans (hbk.mono HB13.out.size))
            clear hbk
            by_cases hlt : k < n
            · have hkm : k < m.length := by rw [HML.out]; exact hlt
              have hku : k < u.names.length := by rw [HNM.out]; unfold ids; rw [List.length_map]; exact hkm
              obtain ⟨b, off, ha, _, hb, e0, e1⟩ := (HKM.out.below HBK.out (Nat.le_refl _) (Nat.le_refl _) (Nat.le_refl _)).at k hkm
              subst ha
              obtain ⟨pb, pf, ha, _, hpb, y1⟩ := (HSN3.out.below HBK.out (Nat.le_refl _) (Nat.le_refl _) (Nat.le_refl _)).at k hku
              subst ha
              have HY := Lib.hid (show ∀ j, j + 1 = k → ∃ z : ByteArray, wr.cell? ⟨pb, pf + j, none⟩ = some (.string z) ∧ bl z (id2 m[k]) = true from fun j hj => by
                have hju : j < u.names.length := by omega
                obtain ⟨pb', pf', ha', _, _, y2⟩ := (HSN3.out.below HBK.out (Nat.le_refl _) (Nat.le_refl _) (Nat.le_refl _)).at j hju
                simp only [Option.some.injEq, Addr.mk.injEq, and_true] at ha'
                obtain ⟨rfl, rfl⟩ := ha'
                refine ⟨_, y2, ?_⟩
                have := rises_lt HRM.out j k (by rw [← HNM.out]; exact hju) (by rw [← HNM.out]; exact hku) (by omega)
                have e2 : (ids m)[k]'(by rw [← HNM.out]; exact hku) = id2 m[k] := by simp [ids]
                rw [e2] at this
                have e3 : (ids m)[j]'(by rw [← HNM.out]; exact hju) = u.names[j] := by simp only [HNM.out]
                rw [e3] at this
                exact this)
              have HIDN : u.names[k] = id2 m[k] := by simp only [HNM.out]; simp [ids]
              replace y1 := y1.trans (congrArg (fun z => some (Value.string z)) HIDN)
              have hok := HOKM.out m[k] (List.getElem_mem hkm)
              obtain ⟨x, hx⟩ : ∃ x : Key2, x = m[k] := ⟨_, rfl⟩
              replace e0 := e0.trans (congrArg (fun z : Key2 => some (Value.string z.1)) hx.symm)
              replace e1 := e1.trans (congrArg (fun z : Key2 => some (Value.string z.2)) hx.symm)
              replace y1 := y1.trans (congrArg (fun z : Key2 => some (Value.string (id2 z))) hx.symm)
              replace hok : ok2 x = true := Eq.mp (congrArg (fun z : Key2 => ok2 z = true) hx.symm) hok
              replace HY := Lib.hid (show ∀ j, j + 1 = k → ∃ z : ByteArray, wr.cell? ⟨pb, pf + j, none⟩ = some (.string z) ∧ bl z (id2 x) = true from fun j hj => by rw [hx]; exact HY.out j hj)
              clear hx HIDN
              obtain ⟨hs1, hs2⟩ := ok2_size hok
              obtain ⟨xs, xp⟩ := x
              replace e0 : wr.cell? ⟨b, off + k * 2, none⟩ = some (.string xs) := e0
              replace e1 : wr.cell? ⟨b, off + k * 2 + 1, none⟩ = some (.string xp) := e1
              replace hs1 : xs.size ≤ 300 := hs1
              replace hs2 : xp.size ≤ 300 := hs2
              replace hok : keyOk xs.data.toList xp.data.toList = true := hok
              have HID := Lib.hid (keyID xs xp wr (by omega) (by omega) (HT.out.below HBT.out))
              unfold KeyIdPost at HID
              rw [hok, if_pos rfl] at HID
              obtain ⟨ID, hID⟩ : ∃ ID : ByteArray, ID = ⟨(keyId xs.data.toList xp.data.toList).toArray⟩ := ⟨_, rfl⟩
              rw [← hID] at HID
              replace y1 : wr.cell? ⟨pb, pf + k, none⟩ = some (.string ID) := by rw [hID]; exact y1
              replace HY := Lib.hid (show ∀ j, j + 1 = k → ∃ z : ByteArray, wr.cell? ⟨pb, pf + j, none⟩ = some (.string z) ∧ bl z ID = true from fun j hj => by rw [hID]; exact HY.out j hj)
              clear hok hID hkm hku
              have m1 : (0 : Int) ≤ (k : Int) := by omega
              have m2 : (k : Int) < (n : Int) := by omega
              have m3 : decide ((k : Int) < (n : Int)) = true := by simpa using hlt
              go_wp2_with fail
              refine HID.out.mono ?_
              clear HID e0 e1
              rintro e w14 ⟨rfl, hb14⟩
              have hpw : pb < wr.heap.size := by omega
              have d3 : w14.cell? ⟨w12.heap.size, 3, none⟩ = some (.slice (some ⟨pb, pf, none⟩) n pn) := by
                rw [hb14.cell (show w12.heap.size < wr.heap.size by omega), HBK.out.cell hx13]
                exact box_cell HX13.out rfl
              replace y1 : w14.cell? ⟨pb, pf + k, none⟩ = some (.string ID) := by rw [hb14.cell hpw]; exact y1
              have HB14 := Lib.hid (HBK.out.trans (hb14.mono hzk))
              have HY4 := Lib.hid (show ∀ j, j + 1 = k → ∃ z : ByteArray, w14.cell? ⟨pb, pf + j, none⟩ = some (.string z) ∧ bl z ID = true from fun j hj => by
                obtain ⟨z, h1, h2⟩ := HY.out j hj
                exact ⟨z, by rw [hb14.cell hpw]; exact h1, h2⟩)
              clear hb14 HY
              by_cases hk0 : k = 0
              · have m4 : decide (0 < k) = false := by simp; omega
                have m5 : ¬ 0 < k := by omega
                clear hk0
                go_wp2_with fail
                go_quiet (fail)
                go_wp2
                go_roundw
                case rel => exact ⟨k + 1, by omega, by go_num, Below.drewN HB14.out _⟩
                case measure => simp [intOf]; omega
              · obtain ⟨j, hj⟩ : ∃ j, j + 1 = k := ⟨k - 1, by omega⟩
                obtain ⟨z, y2, hz⟩ := HY4.out j hj
                replace hz : Op.bytesLess z.toList ID.toList = true := hz
                have hz1 : Op.bytesLess ID.toList z.toList = false := bl_asymm hz
                have hz2 : (ID.toList == z.toList) = false := by
                  cases hq : (ID.toList == z.toList)
                  · rfl
                  · rw [eq_of_beq hq] at hz
                    exact absurd hz (by rw [show Op.bytesLess z.toList z.toList = bl z z from rfl, bl_irrefl]; simp)
                have m4 : decide (0 < k) = true := by simp; omega
                have m5 : 0 < k := by omega
                have m6 : (k : Int) - 1 = (j : Int) := by omega
                have m7 : IntKind.i64.wrap ((k : Int) - 1) = (j : Int) := by rw [m6]; exact IntWalk.i64_in _ (by omega)
                have m8 : (0 : Int) ≤ (j : Int) := by omega
                have m9 : (j : Int) < (n : Int) := by omega
                clear hk0 HY4 hj hz
                go_wp2_with fail
                go_quiet (fail)
                go_wp2
                go_roundw
                case rel => exact ⟨k + 1, by omega, by go_num, Below.drewN HB14.out _⟩
                case measure => simp [intOf]; omega
            · have m3 : decide ((k : Int) < (n : Int)) = false := by simpa using hlt
              go_wp2_with fail
              go_meet
              exact HBT.out
        case rest =>
          have HB13 := Lib.hid hcut
          clear hcut HUM HB12 HX12 HR12 HPA HEL
          obtain ⟨c0, c1, c2, c3, c4⟩ := kcells5 HXT.out HB13.out
          have HKT := Lib.hid (keyKeys t _ wc (by omega) (HU.out.below HB13.out (Nat.le_refl _) (Nat.le_refl _) HB13.out.size) (HT.out.below HB13.out))
          unfold KeysPost at HKT
          have HBT := Lib.hid (@keysJ_back t)
          have HNT := Lib.hid (@keysJ_none t)
          obtain ⟨K, hK⟩ : ∃ K, K = keysJ t := ⟨_, rfl⟩
          rw [← hK] at HKT HBT HNT
          clear hK
          obtain ⟨m, me⟩ := K
          go_wp2_with fail
          refine HKT.out.mono ?_
          clear HKT c0 c1 c2 c3 c4
          rintro e w14 ⟨val, rfl, hown, hb14⟩
          obtain ⟨am, cm, hval, hKM⟩ := owns_keys (M := m) hown rfl
          subst hval
          have HB14 := Lib.hid (HB13.out.trans (hb14.mono HB13.out.size))
          have HKM := Lib.hid (show KeysAt w14 0 w14.heap.size am m from hKM.carry (Nat.zero_le _) (Nat.le_refl _) (fun _ _ _ => rfl))
          clear hown hb14 hKM HB13
          by_cases hme : me = 0
          case neg =>
            have hm0 : m = [] := HNT.out hme
            have t1 : (me != 0) = true := by simpa using hme
            clear HNT HBT HKM
            subst hm0
            rw [show ([] : List Key2).length = 0 from rfl]
            clear hme
            go_wp2
            go_ret
            exact ⟨rfl, HEND.out _ HB14.out⟩
          obtain ⟨ht, hok, hr, h32⟩ := HBT.out hme
          replace ht : t = tabJ m := ht
          replace hok : ∀ k ∈ m, ok2 k = true := hok
          replace hr : rises (ids m) = true := hr
          replace h32 : m.length ≤ 32 := h32
          have HTB := Lib.hid (keyTable_any m am cm w14 HKM.out (by omega) (fun k hk => ok2_size (hok k hk)) (HT.out.below HB14.out))
          unfold TabAny ValPost at HTB
          rw [tabE_ok hok hr h32] at HTB
          have HMT := Lib.hid (fun w' (h : Below W0.heap.size W0 w') => valueMay t _ w' (by omega) (HU.out.below h (Nat.le_refl _) (Nat.le_refl _) h.size))
          rw [show t.mayB = true by rw [ht]; exact tabJ_may hok hr h32] at HMT
          have t1 : (me != 0) = false := by simpa using hme
          have HTM := Lib.hid ht
          have HRM := Lib.hid hr
          clear HBT HNT HKM ht hok hr hme
          go_wp2_with fail
          refine HTB.out.mono ?_
          clear HTB
          rintro e w15 ⟨u, hu, _, hwu, on, pn, oi, qi, rfl, hr15, hb15⟩
          have hut : u = t := by
            obtain ⟨m', hp, hr', rfl⟩ := hu (by trivial)
            rw [rises_unique hp hr' HRM.out]; exact HTM.out.symm
          rw [hut] at hr15
          rw [hut]
          clear hu hut hwu HTM HRM
          obtain ⟨W15, hW15⟩ : ∃ W15, W15 = w15.alloc (.cells #[.int .u8 t.kind, .int .i64 t.n, .string t.t, .slice on t.names.length pn, .slice oi t.items.length qi] 29) := ⟨_, rfl⟩
          have HB15 := Lib.hid (show Below W0.heap.size W0 W15 by rw [hW15]; exact below_now (HB14.out.trans (hb15.mono HB14.out.size)))
          have HX15 := Lib.hid (show W15.heap[w15.heap.size]? = some (.cells #[.int .u8 t.kind, .int .i64 t.n, .string t.t, .slice on t.names.length pn, .slice oi t.items.length qi] 29 (0, 0)) by rw [hW15]; exact heap_alloc_new w15 _)
          have HR15 := Lib.hid (show Rep W15 0 W15.heap.size t (.agg #[.int .u8 t.kind, .int .i64 t.n, .string t.t, .slice on t.names.length pn, .slice oi t.items.length qi]) by
            rw [hW15]; exact Rep.carry (Nat.zero_le _) (by simp) (fun b _ h => Below.heap_alloc _ _ _ h) _ _ hr15)
          obtain ⟨c0, c1, c2, c3, c4⟩ := kcells5 HXT.out HB15.out
          rw [hW15] at c0 c1 c2 c3 c4
          have HW15 := Lib.hid hW15
          clear hr15 hb15 hW15 HB14
          go_wp2_with fail
          rw [← HW15.out]
          refine (HMT.out W15 HB15.out).mono ?_
          clear HMT HW15 c0 c1 c2 c3 c4
          rintro e w16 ⟨rfl, hb16⟩
          have HB16 := Lib.hid (HB15.out.trans (hb16.mono HB15.out.size))
          have HR16 := Lib.hid (HR15.out.below hb16 (Nat.le_refl _) (Nat.le_refl _) hb16.size)
          have hx16 := kept_blk hb16 HX15.out
          have d0 : w16.cell? ⟨w15.heap.size, 0, none⟩ = some (.int .u8 t.kind) := box_cell hx16 rfl
          have d1 : w16.cell? ⟨w15.heap.size, 1, none⟩ = some (.int .i64 t.n) := box_cell hx16 rfl
          have d2 : w16.cell? ⟨w15.heap.size, 2, none⟩ = some (.string t.t) := box_cell hx16 rfl
          have d3 : w16.cell? ⟨w15.heap.size, 3, none⟩ = some (.slice on t.names.length pn) := box_cell hx16 rfl
          have d4 : w16.cell? ⟨w15.heap.size, 4, none⟩ = some (.slice oi t.items.length qi) := box_cell hx16 rfl
          obtain ⟨c0, c1, c2, c3, c4⟩ := kcells5 HXT.out HB16.out
          have HSA := Lib.hid (refSame 4294967296 t t _ _ 0 w16.heap.size w16 (by omega) (by omega) (Nat.le_refl _) (Nat.le_refl _) HR16.out (HU.out.below HB16.out (Nat.le_refl _) (Nat.le_refl _) HB16.out.size))
          rw [show t.sameB t = true from (JV.sameB_iff t t).2 rfl] at HSA
          clear hb16 hx16 HX15 HR15 HB15
          go_wp2_with fail
          refine HSA.out.mono ?_
          clear HSA
          rintro e w17 ⟨rfl, hb17⟩
          have HB17 := Lib.hid (HB16.out.trans (hb17.mono HB16.out.size))
          clear hb17
          go_wp2
          go_ret
          exact ⟨rfl, HEND.out _ HB17.out⟩

end Go.Proofs.YtcahpjejpimdhaaGreatDoor
