/- The contract of key.ID. -/
import Derived.Test.YtcahpjejpimdhaaGreatDoorKeyPlain
import Derived.Test.YtcahpjejpimdhaaGreatDoorCanon
import Derived.Test.YtcahpjejpimdhaaGreatDoorHexEnc
namespace Go.Proofs.YtcahpjejpimdhaaGreatDoor
open Go.RowKit

/-- The laid tables. -/
structure Tabs (w : World) : Prop where
  init : ∀ i, i < 8 → w.cell? ⟨1, i, none⟩ = some (.int .u32 (hinit.at i))
  rounds : ∀ i, i < 64 → w.cell? ⟨3, i, none⟩ = some (.int .u32 (kay i))
  digits : ∀ i, i < 16 → w.cell? ⟨0, i, none⟩ = some (.int .u8 (hexChar i).toNat)
  l1 : 1 < w.heap.size
  l2 : 3 < w.heap.size
  l3 : 0 < w.heap.size
theorem Tabs.below {w w' : World} (h : Tabs w) (hb : Below w.heap.size w w') : Tabs w' where
  init i hi := by rw [hb.cell h.l1]; exact h.init i hi
  rounds i hi := by rw [hb.cell h.l2]; exact h.rounds i hi
  digits i hi := by rw [hb.cell h.l3]; exact h.digits i hi
  l1 := Nat.lt_of_lt_of_le h.l1 hb.size
  l2 := Nat.lt_of_lt_of_le h.l2 hb.size
  l3 := Nat.lt_of_lt_of_le h.l3 hb.size
theorem digest (s : ByteArray) (w : World) (hs : s.size ≤ 1099511627000) (hT : Tabs w) :
    Calls Tryz.prog 26 #[.string s] w fun e w' => e = .returned (.string ⟨(shaHex s.data.toList).toArray⟩) ∧ Below w.heap.size w w' :=
  shaDigest s w hs hT.init hT.rounds hT.digits hT.l2 hT.l3

def keyId (s t : List UInt8) : List UInt8 := if keyOk s t then shaHex (keyForm s t) else []
def KeyIdPost (s t : ByteArray) (w : World) (e : Ending) (w' : World) : Prop :=
  e = .returned (.tuple #[.string ⟨(keyId s.data.toList t.data.toList).toArray⟩, .int .i64 (if keyOk s.data.toList t.data.toList then 0 else 3)]) ∧ Below w.heap.size w w'

set_option maxHeartbeats 400000 in
set_option maxRecDepth 100000 in
theorem keyID (s t : ByteArray) (w : World) (hs : s.size ≤ 4294967) (ht : t.size ≤ 4294967) (hT : Tabs w) :
    Calls Tryz.prog 18 #[.agg #[.string s, .string t]] w (KeyIdPost s t w) := by
  have HT := Lib.hid hT
  clear hT
  have HB0 := Lib.hid (show Below w.heap.size w (w.alloc (.cells #[.string s, .string t] 23)) from (Below.refl _ _).alloc (Nat.le_refl _) _)
  unfold KeyIdPost keyId
  cases hk : keyOk s.data.toList t.data.toList
  · have HV := Lib.hid (keyValue_no s t (w.alloc (.cells #[.string s, .string t] 23)) (by omega) (by omega) hk)
    clear hk
    go_enter Tryz.func18, Tryz.ntmps18
    go_wp2_with fail
    refine HV.out.mono ?_
    rintro e w1 ⟨rfl, hb1⟩
    have HB1 := Lib.hid (HB0.out.trans (hb1.mono (by simp)))
    clear hb1
    unfold zeroAgg
    go_wp2
    go_ret2
    exact ⟨rfl, HB1.out.alloc HB1.out.size _⟩
  · have HV := Lib.hid (keyValue_yes s t (w.alloc (.cells #[.string s, .string t] 23)) (by omega) (by omega) hk)
    have HM := Lib.hid (keyJ_may hk)
    have HF := Lib.hid (keyJ_form hk)
    have HE := Lib.hid (keyJ_enc hk)
    have HW := Lib.hid (keyJ_wt hs ht)
    clear hk
    go_enter Tryz.func18, Tryz.ntmps18
    go_wp2_with fail
    refine HV.out.mono ?_
    rintro e w1 ⟨an, cn, ai, ci, rfl, hr1, hb1⟩
    have HB1 := Lib.hid (HB0.out.trans (hb1.mono (by simp)))
    have HR1 := Lib.hid hr1
    clear hb1 hr1
    have HC := Lib.hid (canonEncode false (keyJ s t) _ (w1.alloc (.cells #[.int .u8 5, .int .i64 0, .string { data := #[] }, .slice an 2 cn, .slice ai 2 ci] 29)) HW.out (HR1.out.below ((Below.refl _ _).alloc (Nat.le_refl _) _) (Nat.le_refl _) (Nat.zero_le _) (by simp)) (fun _ => HF.out) (fun h => by cases h))
    unfold CanonPost at HC
    rw [HM.out, HE.out] at HC
    go_wp2_with fail
    refine HC.out.mono ?_
    clear HC
    rintro e w2 ⟨rfl, hb2⟩
    have HB2 := Lib.hid ((HB1.out.alloc HB1.out.size _).trans (hb2.mono (by have := HB1.out.size; simp; omega)))
    clear hb2
    go_wp2_with fail
    refine (digest _ w2 ?_ (HT.out.below HB2.out)).mono ?_
    · show (keyForm s.data.toList t.data.toList).toArray.size ≤ _
      rw [List.size_toArray, keyForm_len, toList_length, toList_length]; omega
    rintro e w3 ⟨rfl, hb3⟩
    have HB3 := Lib.hid (HB2.out.trans (hb3.mono HB2.out.size))
    clear hb3
    go_wp2
    go_ret2
    exact ⟨rfl, HB3.out⟩

end Go.Proofs.YtcahpjejpimdhaaGreatDoor
