/- The law SnapNames: the call returns true. Printed by gennames23a.py. -/
import Derived.Test.YtgghgcilpfdbjaaGreatDoorSy30
import Derived.Test.YtgghgcilpfdbjaaGreatDoorSy29
import Derived.Test.YtgghgcilpfdbjaaGreatDoorSy35
import Derived.Test.YtgghgcilpfdbjaaGreatDoorSy31

namespace Go.Proofs.YtgghgcilpfdbjaaGreatDoor
open Go.RowKit
set_option maxHeartbeats 16000000 in
set_option maxRecDepth 100000 in
theorem lawNames23 (w : World) (hT : TabW w) (hP10 : Pow10 w) : Calls Tryz.prog 6 #[] w fun r w' => r = .returned (.bool true) ∧ Below w.heap.size w w' := by
 have hlo : 0 < w.heap.size := Nat.lt_of_le_of_lt (Nat.zero_le _) hT.lt
 have HT := Lib.hid (show ∀ w', Below w.heap.size w w' → TabW w' ∧ Pow10 w' from fun w' h => ⟨hT.below h, hP10.below h⟩)
 have HAW := Lib.hid (lawAwake23 w hT hP10)
 clear hT hP10
 go_enter Tryz.func6, Tryz.ntmps6
 go_wp2_with fail
 refine HAW.out.mono ?_
 rintro r w1 ⟨rfl, hb1⟩
 have HB1 := Lib.hid hb1
 clear hb1 HAW
 go_wp2_with fail
 obtain ⟨U1, hU1⟩ : ∃ U1, U1 = w1.alloc (.cells #[.string { data := #[118, 101, 114, 115, 105, 111, 110] }] 9) := ⟨_, rfl⟩
 have hbu1 : Below w1.heap.size w1 U1 := by rw [hU1]; exact (Below.refl _ _).alloc (Nat.le_refl _) _
 have HR1 := Lib.hid (show IsRow w.heap.size 1 9 (strs [verN]) U1 (.slice (some ⟨w1.heap.size, 0, none⟩) 1 1) from ⟨_, HB1.out.size, rfl, by rw [hU1]; exact heap_alloc_new w1 _⟩)
 have HBU1 := Lib.hid (HB1.out.trans (hbu1.mono HB1.out.size))
 rw [← hU1]
 clear hU1 hbu1
 refine (lawNumB 1 U1).mono ?_
 rintro r w2 ⟨rfl, hb2⟩
 replace HR1 := Lib.hid (HR1.out.mono hb2)
 have HB2 := Lib.hid (HBU1.out.trans (hb2.mono HBU1.out.size))
 clear hb2
 go_wp2_with fail
 obtain ⟨U2, hU2⟩ : ∃ U2, U2 = w2.alloc (.cells #[.int .u8 2, .int .i64 1, .string { data := #[] }, .slice none 0 0, .slice none 0 0] 30) := ⟨_, rfl⟩
 have hbu2 : Below w2.heap.size w2 U2 := by rw [hU2]; exact (Below.refl _ _).alloc (Nat.le_refl _) _
 have HV2 := Lib.hid (show HasVals w.heap.size [numJ 1] U2 (.slice (some ⟨w2.heap.size, 0, none⟩) 1 1) from ⟨_, _, rfl, HB2.out.size, by rw [hU2]; exact heap_alloc_new w2 _, fun i hi => match i, hi with | 0, _ => ⟨_, _, _, _, _, rfl, rfl, rfl, rfl, rfl, rep_numH _ _ _⟩⟩)
 have HBU2 := Lib.hid (HB2.out.trans (hbu2.mono HB2.out.size))
 replace HR1 := Lib.hid (HR1.out.mono hbu2)
 rw [← hU2]
 clear hU2 hbu2
 refine (objS [verN] [numJ 1] HR1.out HV2.out).mono ?_
 rintro r w3 ⟨z, rfl, ⟨pan, pcn, pai, pci, ez, hr3⟩, hb3⟩
 replace ez : z = .agg #[.int .u8 5, .int .i64 0, .string { data := #[] }, .slice pan 1 pcn, .slice pai 1 pci] := ez
 subst ez
 have HB3 := Lib.hid (HBU2.out.trans (hb3.mono HBU2.out.size))
 have HRP := Lib.hid (show HasRep w.heap.size pJ1 w3 (.agg #[.int .u8 5, .int .i64 0, .string { data := #[] }, .slice pan 1 pcn, .slice pai 1 pci]) from ⟨pan, pcn, pai, pci, rfl, hr3⟩)
 clear hr3 hb3 HR1 HV2 HBU1 HBU2 HB2
 go_wp2_with fail
 refine (lawObj none none 0 0 0 0 w3).mono ?_
 rintro r w4 ⟨rfl, hw4⟩
 have hb4 : Below w3.heap.size w3 w4 := by rw [hw4]; exact (Below.refl _ _).alloc (Nat.le_refl _) _
 replace HRP := Lib.hid (HRP.out.mono hb4)
 have HB4 := Lib.hid (HB3.out.trans (hb4.mono HB3.out.size))
 clear hw4 hb4
 obtain ⟨W5, hW5⟩ : ∃ W5, W5 = (w4.alloc (.cells #[.int .u8 5, .int .i64 0, .string { data := #[] }, .slice pan 1 pcn, .slice pai 1 pci] 30)).alloc (.cells #[.int .u8 5, .int .i64 0, .string { data := #[] }, .slice none 0 0, .slice none 0 0] 30) := ⟨_, rfl⟩
 have hb5 : Below w4.heap.size w4 W5 := by rw [hW5]; exact ((Below.refl _ _).alloc (Nat.le_refl _) _).alloc (by simp) _
 have HX1 := Lib.hid (show W5.heap[w4.heap.size]? = some (.cells #[.int .u8 5, .int .i64 0, .string { data := #[] }, .slice pan 1 pcn, .slice pai 1 pci] 30 (0, 0)) by rw [hW5, Below.heap_alloc _ _ _ (by simp)]; exact heap_alloc_new w4 _)
 have HX2 := Lib.hid (show W5.heap[w4.heap.size + 1]? = some (.cells #[.int .u8 5, .int .i64 0, .string { data := #[] }, .slice none 0 0, .slice none 0 0] 30 (0, 0)) by rw [hW5]; exact heap_2nd w4 _ _)
 have HB5 := Lib.hid (HB4.out.trans (hb5.mono HB4.out.size))
 replace HRP := Lib.hid (HRP.out.mono hb5)
 have HW5 := Lib.hid hW5
 clear hW5 hb5 HB3 HB4
 go_upto_region 5 with fail
 rw [← HW5.out]
 clear HW5
 have hq : (W5.alloc (.cells #[.string { data := #[97, 46, 106, 115, 111, 110] }] 9)).heap[w4.heap.size]? = some (.cells #[.int .u8 5, .int .i64 0, .string { data := #[] }, .slice pan 1 pcn, .slice pai 1 pci] 30 (0, 0)) := by rw [Below.heap_alloc _ _ _ (heap_lt HX1.out)]; exact HX1.out
 have x0 := box_cell hq (j := 0) rfl; have x1 := box_cell hq (j := 1) rfl; have x2 := box_cell hq (j := 2) rfl; have x3 := box_cell hq (j := 3) rfl; have x4 := box_cell hq (j := 4) rfl
 clear hq
 go_wp2_with fail
 clear x0 x1 x2 x3 x4
 obtain ⟨U7, hU7⟩ : ∃ U7, U7 = (W5.alloc (.cells #[.string { data := #[97, 46, 106, 115, 111, 110] }] 9)).alloc (.cells #[.int .u8 5, .int .i64 0, .string { data := #[] }, .slice pan 1 pcn, .slice pai 1 pci] 30) := ⟨_, rfl⟩
 have hb7 : Below W5.heap.size W5 U7 := by rw [hU7]; exact ((Below.refl _ _).alloc (Nat.le_refl _) _).alloc (by simp) _
 have HR7 := Lib.hid (show IsRow w.heap.size 1 9 (strs [aJsN]) U7 (.slice (some ⟨W5.heap.size, 0, none⟩) 1 1) from ⟨_, HB5.out.size, rfl, by rw [hU7, Below.heap_alloc _ _ _ (by simp)]; exact heap_alloc_new W5 _⟩)
 have HV7 := Lib.hid (show HasVals w.heap.size [pJ1] U7 (.slice (some ⟨W5.heap.size + 1, 0, none⟩) 1 1) from ⟨_, _, rfl, Nat.le_succ_of_le HB5.out.size, by rw [hU7]; exact heap_2nd W5 _ _, fun i hi => match i, hi with | 0, _ => ⟨_, _, _, _, _, rfl, rfl, rfl, rfl, rfl, HRP.out.mono hb7⟩⟩)
 have HBU7 := Lib.hid (HB5.out.trans (hb7.mono HB5.out.size))
 have HB57 := Lib.hid hb7
 rw [← hU7]
 clear hU7 hb7
 refine (objS [aJsN] [pJ1] HR7.out HV7.out).mono ?_
 rintro r w8 ⟨z, rfl, ⟨man, mcn, mai, mci, ez, hr8⟩, hb8⟩
 replace ez : z = .agg #[.int .u8 5, .int .i64 0, .string { data := #[] }, .slice man 1 mcn, .slice mai 1 mci] := ez
 subst ez
 have HRM := Lib.hid (show HasRep w.heap.size mJ1 w8 (.agg #[.int .u8 5, .int .i64 0, .string { data := #[] }, .slice man 1 mcn, .slice mai 1 mci]) from ⟨man, mcn, mai, mci, rfl, hr8⟩)
 have HB58 := Lib.hid (HB57.out.trans (hb8.mono HB57.out.size))
 clear hr8 hb8 HR7 HV7 HBU7 HB57
 obtain ⟨W9, hW9⟩ : ∃ W9, W9 = w8.alloc (.cells #[.int .u8 5, .int .i64 0, .string { data := #[] }, .slice man 1 mcn, .slice mai 1 mci] 30) := ⟨_, rfl⟩
 have hb9 : Below w8.heap.size w8 W9 := by rw [hW9]; exact (Below.refl _ _).alloc (Nat.le_refl _) _
 have HX4 := Lib.hid (show W9.heap[w8.heap.size]? = some (.cells #[.int .u8 5, .int .i64 0, .string { data := #[] }, .slice man 1 mcn, .slice mai 1 mci] 30 (0, 0)) by rw [hW9]; exact heap_alloc_new w8 _)
 have HB59 := Lib.hid (HB58.out.trans (hb9.mono HB58.out.size))
 have HB9 := Lib.hid (HB5.out.trans (HB59.out.mono HB5.out.size))
 replace HX1 := Lib.hid ((HB59.out.block _ (heap_lt HX1.out)).trans HX1.out)
 replace HX2 := Lib.hid ((HB59.out.block _ (heap_lt HX2.out)).trans HX2.out)
 replace HRP := Lib.hid (HRP.out.mono HB59.out)
 replace HRM := Lib.hid (HRM.out.mono hb9)
 have HW9 := Lib.hid hW9
 clear hW9 hb9 HB58 HB59 HB5
 go_upto_region 6 with fail
 rw [← HW9.out]
 clear HW9
 refine Eq.mpr (congrArg (fun a => Code.wp _ _ _ a _) (frN_of _ rfl)) ?_
 refine lawNamesB w.heap.size W9 w4.heap.size (w4.heap.size + 1) w8.heap.size _ _ _ ⟨rfl, rfl, rfl, rfl⟩ HB9.out.size _ _ _ _ _ _ _ _ _ _ _ _ _ _ _ HX1.out HX2.out HX4.out HRP.out ⟨none, 0, none, 0, rfl, Rep.mk (v := objJ []) (Nat.le_refl _) (Nat.le_refl _) (.inl rfl) (.inl rfl)⟩ HRM.out (fun f1 v1 hf1 hv1 ht1 e1 e2 => ?_)
 go_step
 have HV1 := Lib.hid (HB9.out.trans (hv1.mono HB9.out.size))
 have HW1 := Lib.hid hv1
 clear hv1
 refine lawNamesC w.heap.size v1 w4.heap.size (w4.heap.size + 1) w8.heap.size f1 _ _ hf1 hlo (HT.out v1 HV1.out).1 ht1 e1 e2 (fun f2 v2 hf2 hv2 => ?_)
 clear hf1 ht1 e1 e2
 have HV2 := Lib.hid (HV1.out.trans (hv2.mono HV1.out.size))
 have HW2 := Lib.hid (HW1.out.trans (hv2.mono HW1.out.size))
 have HF2 := Lib.hid hf2
 clear hv2 hf2
 go_step
 rw [show frN f2 = ⟨#[f2 0, f2 1, f2 2, f2 3, f2 4, f2 5, f2 6, f2 7, f2 8, f2 9, f2 10, f2 11, f2 12, f2 13, f2 14, f2 15, f2 16, f2 17, f2 18, f2 19, f2 20, f2 21, f2 22, f2 23, f2 24, f2 25, f2 26, f2 27, f2 28, f2 29, f2 30, f2 31, f2 32, f2 33, f2 34, f2 35, f2 36, f2 37, f2 38, f2 39, f2 40, f2 41, f2 42, f2 43, f2 44, f2 45, f2 46, f2 47, f2 48, f2 49, f2 50, f2 51, f2 52, f2 53, f2 54, f2 55, f2 56, f2 57, f2 58, f2 59, f2 60, f2 61, f2 62, f2 63, f2 64, f2 65, f2 66, f2 67, f2 68, f2 69, f2 70, f2 71, f2 72, f2 73, f2 74, f2 75, f2 76, f2 77, f2 78, f2 79, f2 80, f2 81, f2 82, f2 83, f2 84, f2 85, f2 86, f2 87, f2 88, f2 89, f2 90, f2 91, f2 92, f2 93, f2 94, f2 95, f2 96, f2 97, f2 98, f2 99, f2 100, f2 101, f2 102, f2 103, f2 104, f2 105, f2 106, f2 107, f2 108, f2 109, f2 110, f2 111, f2 112, f2 113, f2 114, f2 115, f2 116, f2 117, f2 118, f2 119, f2 120, f2 121, f2 122, f2 123, f2 124, f2 125, f2 126, f2 127, f2 128, f2 129, f2 130, f2 131, f2 132, f2 133, f2 134, f2 135, f2 136, f2 137, f2 138, f2 139, f2 140, f2 141, f2 142, f2 143, f2 144, f2 145, f2 146, f2 147, f2 148, f2 149, f2 150, f2 151, f2 152, f2 153, f2 154, f2 155, f2 156, f2 157, f2 158, f2 159, f2 160, f2 161, f2 162, f2 163, f2 164, f2 165, f2 166, f2 167, f2 168, f2 169, f2 170, f2 171, f2 172, f2 173, f2 174, f2 175, f2 176, f2 177, f2 178, f2 179, f2 180, f2 181, f2 182, f2 183, f2 184, f2 185, f2 186, f2 187, f2 188, f2 189, f2 190, f2 191, f2 192, f2 193, f2 194, f2 195, f2 196, f2 197, f2 198, f2 199, f2 200, f2 201, f2 202, f2 203, f2 204, f2 205, f2 206, f2 207, f2 208, f2 209, f2 210, f2 211, f2 212, f2 213, f2 214, f2 215, f2 216, f2 217, f2 218, f2 219, f2 220, f2 221, f2 222, f2 223, f2 224, f2 225, f2 226, f2 227, f2 228, f2 229, f2 230, f2 231, f2 232, f2 233, f2 234, f2 235, f2 236, f2 237, f2 238, f2 239, f2 240, f2 241, f2 242, f2 243, f2 244, f2 245, f2 246, f2 247, f2 248, f2 249, f2 250, f2 251, f2 252, f2 253, f2 254, f2 255, f2 256, f2 257, f2 258, f2 259, f2 260, f2 261, f2 262, f2 263, f2 264, f2 265, f2 266, f2 267, f2 268, f2 269, f2 270, f2 271, f2 272, f2 273, f2 274, f2 275, f2 276, f2 277, f2 278, f2 279, f2 280, f2 281, f2 282, f2 283, f2 284, f2 285, f2 286, f2 287, f2 288, f2 289, f2 290, f2 291, f2 292, f2 293, f2 294, f2 295, f2 296, f2 297, f2 298, f2 299, f2 300, f2 301, f2 302, f2 303, f2 304, f2 305], []⟩ from rfl]
 dsimp only
 go_step
 go_step
 go_step
 go_step
 go_step
 go_step
 go_step
 go_step
 go_step
 refine Eq.mpr (congrArg (fun a => Code.wp _ _ _ a _) (frN_of _ rfl)) ?_
 refine lawNamesE v2 _ _ _ _ _ _ ⟨HF2.out.h1, HF2.out.h2, HF2.out.h3, HF2.out.h4⟩ rfl (fun f3 v3 hf3 hv3 ho3 => ?_)
 go_step
 have HV3 := Lib.hid (HV2.out.trans (hv3.mono HV2.out.size))
 have HW3 := Lib.hid (HW2.out.trans (hv3.mono HW2.out.size))
 clear hv3
 refine lawNamesF v3 _ _ _ _ f3 _ hf3 ho3 (HT.out v3 HV3.out).1 (HT.out v3 HV3.out).2 (fun f4 v4 hf4 hv4 => ?_)
 have HV4 := Lib.hid (HV3.out.trans (hv4.mono HV3.out.size))
 have HW4 := Lib.hid (HW3.out.trans (hv4.mono HW3.out.size))
 clear hv4
 exact lawNamesI w v4 w.heap.size w4.heap.size _ _ _ _ _ _ _ f4 hf4 hlo HV4.out ((HW4.out.block _ (heap_lt HX1.out)).trans HX1.out) (HRP.out.mono HW4.out)
end Go.Proofs.YtgghgcilpfdbjaaGreatDoor
