/- The law SnapNames: eight pins that may be or not; a pin whose name is no file's. Printed by gennames23d.py. -/
import Derived.Test.YtgghgcilpfdbjaaGreatDoorSy29
import Derived.Test.YtgghgcilpfdbjaaGreatDoorSy09
import Derived.Test.YtgghgcilpfdbjaaGreatDoorSy34
import Derived.Test.YtgghgcilpfdbjaaGreatDoorSy26
import Derived.Test.YtgghgcilpfdbjaaGreatDoorSy27
import Derived.Test.YtgghgcilpfdbjaaGreatDoorSy20

namespace Go.Proofs.YtgghgcilpfdbjaaGreatDoor
open Go.RowKit
theorem most_may : maySnap ⟨1, 253402300799, pinsN 256⟩ = true := by decide +kernel
theorem many_may : maySnap ⟨1, 0, pinsN 257⟩ = false := by decide +kernel
theorem few_may : maySnap ⟨1, 253402300800, []⟩ = false ∧ maySnap ⟨1, -1, []⟩ = false ∧ maySnap ⟨0, 0, []⟩ = false ∧ maySnap ⟨1, 0, []⟩ = true ∧ maySnap ⟨1, 0, [pinN 1, pinN 0]⟩ = false ∧ maySnap ⟨1, 0, [pinN 0, pinN 0]⟩ = false := by decide +kernel
theorem pinsN_all : (pinsN 257).all mayPin = true := by decide +kernel
theorem pinsN_get (k i : Nat) (h : i < (pinsN k).length) : (pinsN k)[i] = pinN i := by simp [pinsN]
theorem pinN_may (i : Nat) (h : i < 257) : mayPin (pinN i) = true := by
 have := List.all_eq_true.1 pinsN_all (pinN i) (by unfold pinsN; exact List.mem_map_of_mem (List.mem_range.2 h))
 exact this
theorem pinN_fits (i : Nat) (h : i < 257) : PinFits (pinN i) := pinFits_may (pinN_may i h)
theorem pinsN_fits (k : Nat) (hk : k ≤ 257) : ∀ p ∈ pinsN k, PinFits p := fun p hp => by
 unfold pinsN at hp
 obtain ⟨i, hi, rfl⟩ := List.mem_map.1 hp
 exact pinN_fits i (by have := List.mem_range.1 hi; omega)
theorem pins_take {w : World} {lo hi : Nat} {a : Option Addr} {k : Nat} (h : PinsAt w lo hi a (pinsN 257)) (hk : k ≤ 257) : PinsAt w lo hi a (pinsN k) := by
 rcases h with h | ⟨b, off, ha, hb, hb', hr⟩
 · exact absurd (congrArg List.length h) (by rw [pinsN_len]; decide)
 · refine .inr ⟨b, off, ha, hb, hb', fun i hi => ?_⟩
   rw [pinsN_len] at hi
   have := hr i (by rw [pinsN_len]; omega)
   rwa [pinsN_get, ← pinsN_get k i (by rw [pinsN_len]; exact hi)] at this
theorem pins_two {w : World} {b i j : Nat} (h : w.heap[b]? = some (.cells #[.string (nameN i), .int .i64 1, .int .i64 (-1), .slice none 0 0, .string (nameN j), .int .i64 1, .int .i64 (-1), .slice none 0 0] 36 (0, 0))) : PinsAt w 0 w.heap.size (some ⟨b, 0, none⟩) [pinN i, pinN j] := by
 refine .inr ⟨b, 0, rfl, Nat.zero_le _, heap_lt h, fun q hq => ?_⟩
 match q, hq with
 | 0, _ => exact ⟨box_cell h rfl, box_cell h rfl, box_cell h rfl, none, 0, box_cell h rfl, Nat.le_refl _, .inl rfl⟩
 | 1, _ => exact ⟨box_cell h rfl, box_cell h rfl, box_cell h rfl, none, 0, box_cell h rfl, Nat.le_refl _, .inl rfl⟩
def MP.snap2 (T : Nat) (cs : Array Value) : MP := ⟨fun w x => ∃ b, x = .agg #[.int .i64 1, .int .i64 0, .slice (some ⟨b, 0, none⟩) 2 2] ∧ w.heap[b]? = some (.cells cs T (0, 0)), fun _ _ _ hb ⟨b, h1, h2⟩ => ⟨b, h1, by rw [hb.block _ (heap_lt h2)]; exact h2⟩⟩
theorem mayNil (v e : Int) (r : Bool) (h : maySnap ⟨v, e, []⟩ = r) (w : World) (hT : TabW w) (hP10 : Pow10 w) : Calls Tryz.prog 21 #[.agg #[.int .i64 v, .int .i64 e, .slice none 0 0]] w fun x w' => x = .returned (.bool r) ∧ Below w.heap.size w w' := by
 have := snapMay v e [] none 0 w (.inl rfl) (Nat.zero_le _) (fun p h => by cases h) hT hP10
 rw [h] at this
 exact this
theorem mayTwo (i j : Nat) (hi : i < 257) (hj : j < 257) (hm : maySnap ⟨1, 0, [pinN i, pinN j]⟩ = false) {b : Nat} {w : World} (h : w.heap[b]? = some (.cells #[.string (nameN i), .int .i64 1, .int .i64 (-1), .slice none 0 0, .string (nameN j), .int .i64 1, .int .i64 (-1), .slice none 0 0] 36 (0, 0))) (hT : TabW w) (hP10 : Pow10 w) :
   Calls Tryz.prog 21 #[.agg #[.int .i64 1, .int .i64 0, .slice (some ⟨b, 0, none⟩) 2 2]] w fun x w' => x = .returned (.bool false) ∧ Below w.heap.size w w' := by
 have := snapMay 1 0 [pinN i, pinN j] (some ⟨b, 0, none⟩) 2 w (pins_two h) (by simp) (fun p hp => by
   simp only [List.mem_cons, List.not_mem_nil, or_false] at hp
   rcases hp with rfl | rfl
   · exact pinN_fits i hi
   · exact pinN_fits j hj) hT hP10
 rw [hm] at this
 exact this
theorem mayRow (e : Int) (k : Nat) (hk : k ≤ 257) (r : Bool) (h : maySnap ⟨1, e, pinsN k⟩ = r) (a : Option Addr) (c : Nat) (w : World) (hP : PinsAt w 0 w.heap.size a (pinsN k)) (hT : TabW w) (hP10 : Pow10 w) :
   Calls Tryz.prog 21 #[.agg #[.int .i64 1, .int .i64 e, .slice a k c]] w fun x w' => x = .returned (.bool r) ∧ Below w.heap.size w w' := by
 have := snapMay 1 e (pinsN k) a c w hP (by rw [pinsN_len]; omega) (pinsN_fits k hk) hT hP10
 rw [h, pinsN_len] at this
 exact this
theorem sameRow (e : Int) (k : Nat) (hk : k ≤ 257) (a a2 : Option Addr) (c c2 : Nat) (w : World) (h1 : PinsAt w 0 w.heap.size a (pinsN k)) (h2 : PinsAt w 0 w.heap.size a2 (pinsN k)) :
   Calls Tryz.prog 24 #[.agg #[.int .i64 1, .int .i64 e, .slice a k c], .agg #[.int .i64 1, .int .i64 e, .slice a2 k c2]] w fun x w' => x = .returned (.bool true) ∧ Below w.heap.size w w' := by
 have := (ref23SameG 1 e (pinsN k) 1 e (pinsN k) a a2 c c2 w h1 h2 (pinsN_fits k hk) (pinsN_fits k hk) (by rw [pinsN_len]; omega) (by rw [pinsN_len]; omega)).mono fun _ _ ht => tells_bool (b := true) (by simp) ht
 rw [pinsN_len] at this
 exact this
structure FixH (p1 p2 p4 r9 r11 r14 : Value) (f : Nat → Value) : Prop where
 fix : FixN p1 p2 p4 f
 h9 : f 9 = r9
 h11 : f 11 = r11
 h13 : f 13 = .int .i64 0
 h14 : f 14 = r14
 h15 : f 15 = .int .i64 0
theorem FixH.upd {p1 p2 p4 r9 r11 r14 : Value} {f : Nat → Value} (h : FixH p1 p2 p4 r9 r11 r14 f) (k : Nat) (hk : 16 ≤ k) (y : Value) : FixH p1 p2 p4 r9 r11 r14 (upd f k y) :=
 ⟨h.fix.upd k (by omega) y, by rw [← h.h9]; exact if_neg (by omega), by rw [← h.h11]; exact if_neg (by omega), by rw [← h.h13]; exact if_neg (by omega), by rw [← h.h14]; exact if_neg (by omega), by rw [← h.h15]; exact if_neg (by omega)⟩
set_option maxHeartbeats 16000000 in
set_option maxRecDepth 100000 in
theorem lawNamesH (W : World) (p1 p2 p4 : Value) (f : Nat → Value) (g c bm bb tc : Nat) (ta : Option Addr) (K : Act → World → Prop) (Q : Exit → Act → World → Prop) (hfix : FixN p1 p2 p4 f) (hgc : 257 ≤ c) (hT : TabW W) (hP10 : Pow10 W)
   (e9 : f 9 = .slice (some ⟨g, 0, none⟩) 257 c) (e11 : f 11 = .pointer (some ⟨bm, 0, none⟩)) (e13 : f 13 = .int .i64 0) (e14 : f 14 = .pointer (some ⟨bb, 0, none⟩)) (e15 : f 15 = .int .i64 0)
   (hm : W.heap[bm]? = some (.cells #[.int .i64 1, .int .i64 253402300799, .slice (some ⟨g, 0, none⟩) 256 c] 24 (0, 0))) (hb : W.heap[bb]? = some (.cells #[.int .i64 1, .int .i64 253402300799, .slice ta 256 tc] 24 (0, 0)))
   (hP : PinsAt W 0 W.heap.size (some ⟨g, 0, none⟩) (pinsN 257)) (hP2 : PinsAt W 0 W.heap.size ta (pinsN 256)) (hx : ∀ j u, (encP (pinN 0) ++ encP (pinN 1))[j]? = some u → W.cell? ⟨g, j, none⟩ = some u) (hgl : g < W.heap.size)
   (hK : ∀ (f' : Nat → Value) (w' : World), FixN p1 p2 p4 f' → Below W.heap.size W w' → f' 267 = .bool false → K (frN f') w') :
   Code.wp Tryz.prog (seqL (seqL (tailCode 11 (Tryz.f6.body.getD .skip)))) (Exit.then K Q) (frN f) W := by
 conv => arg 2; whnf
 have HK := Lib.hid hK
 have HF := Lib.hid (show FixH p1 p2 p4 _ _ _ f from ⟨hfix, e9, e11, e13, e14, e15⟩)
 have HGC := Lib.hid hgc
 have HT := Lib.hid (show ∀ w', Below W.heap.size W w' → TabW w' ∧ Pow10 w' from fun w' h => ⟨hT.below h, hP10.below h⟩)
 have HP := Lib.hid (show ∀ w', Below W.heap.size W w' → PinsAt w' 0 w'.heap.size (some ⟨g, 0, none⟩) (pinsN 257) from fun w' h => hP.below h (Nat.le_refl _) (Nat.le_refl _) h.size)
 have HP2 := Lib.hid (show ∀ w', Below W.heap.size W w' → PinsAt w' 0 w'.heap.size ta (pinsN 256) from fun w' h => hP2.below h (Nat.le_refl _) (Nat.le_refl _) h.size)
 have HMay := Lib.hid (show ∀ w', Below W.heap.size W w' → Calls Tryz.prog 21 #[.agg #[.int .i64 1, .int .i64 253402300799, .slice (some ⟨g, 0, none⟩) 256 c]] w' (fun x w2 => x = .returned (.bool true) ∧ Below w'.heap.size w' w2) from fun w' h => mayRow 253402300799 256 (by decide) true most_may _ _ w' (pins_take (HP.out w' h) (by decide)) (HT.out w' h).1 (HT.out w' h).2)
 have HSame := Lib.hid (show ∀ w', Below W.heap.size W w' → Calls Tryz.prog 24 #[.agg #[.int .i64 1, .int .i64 253402300799, .slice ta 256 tc], .agg #[.int .i64 1, .int .i64 253402300799, .slice (some ⟨g, 0, none⟩) 256 c]] w' (fun x w2 => x = .returned (.bool true) ∧ Below w'.heap.size w' w2) from fun w' h => sameRow 253402300799 256 (by decide) _ _ _ _ w' (HP2.out w' h) (pins_take (HP.out w' h) (by decide)))
 have HMany := Lib.hid (show ∀ w', Below W.heap.size W w' → Calls Tryz.prog 21 #[.agg #[.int .i64 1, .int .i64 0, .slice (some ⟨g, 0, none⟩) 257 c]] w' (fun x w2 => x = .returned (.bool false) ∧ Below w'.heap.size w' w2) from fun w' h => mayRow 0 257 (by decide) false many_may _ _ w' (HP.out w' h) (HT.out w' h).1 (HT.out w' h).2)
 have HLate := Lib.hid (show ∀ w', Below W.heap.size W w' → Calls Tryz.prog 21 #[.agg #[.int .i64 1, .int .i64 253402300800, .slice none 0 0]] w' (fun x w2 => x = .returned (.bool false) ∧ Below w'.heap.size w' w2) from fun w' h => mayNil _ _ _ few_may.1 w' (HT.out w' h).1 (HT.out w' h).2)
 have HNeg := Lib.hid (show ∀ w', Below W.heap.size W w' → Calls Tryz.prog 21 #[.agg #[.int .i64 1, .int .i64 (-1), .slice none 0 0]] w' (fun x w2 => x = .returned (.bool false) ∧ Below w'.heap.size w' w2) from fun w' h => mayNil _ _ _ few_may.2.1 w' (HT.out w' h).1 (HT.out w' h).2)
 have HZero := Lib.hid (show ∀ w', Below W.heap.size W w' → Calls Tryz.prog 21 #[.agg #[.int .i64 0, .int .i64 0, .slice none 0 0]] w' (fun x w2 => x = .returned (.bool false) ∧ Below w'.heap.size w' w2) from fun w' h => mayNil _ _ _ few_may.2.2.1 w' (HT.out w' h).1 (HT.out w' h).2)
 have HOne := Lib.hid (show ∀ w', Below W.heap.size W w' → Calls Tryz.prog 21 #[.agg #[.int .i64 1, .int .i64 0, .slice none 0 0]] w' (fun x w2 => x = .returned (.bool true) ∧ Below w'.heap.size w' w2) from fun w' h => mayNil _ _ _ few_may.2.2.2.1 w' (HT.out w' h).1 (HT.out w' h).2)
 have HC := Lib.hid (show ∀ w', Below W.heap.size W w' → w'.cell? ⟨bm, 0, none⟩ = some (.int .i64 1) ∧ w'.cell? ⟨bm, 1, none⟩ = some (.int .i64 253402300799) ∧ w'.cell? ⟨bm, 2, none⟩ = some (.slice (some ⟨g, 0, none⟩) 256 c) ∧ w'.cell? ⟨bb, 0, none⟩ = some (.int .i64 1) ∧ w'.cell? ⟨bb, 1, none⟩ = some (.int .i64 253402300799) ∧ w'.cell? ⟨bb, 2, none⟩ = some (.slice ta 256 tc)
     ∧ w'.cell? ⟨g, 0, none⟩ = some (.string (nameN 0)) ∧ w'.cell? ⟨g, 1, none⟩ = some (.int .i64 1) ∧ w'.cell? ⟨g, 2, none⟩ = some (.int .i64 (-1)) ∧ w'.cell? ⟨g, 3, none⟩ = some (.slice none 0 0) ∧ w'.cell? ⟨g, 4, none⟩ = some (.string (nameN 1)) ∧ w'.cell? ⟨g, 5, none⟩ = some (.int .i64 1) ∧ w'.cell? ⟨g, 6, none⟩ = some (.int .i64 (-1)) ∧ w'.cell? ⟨g, 7, none⟩ = some (.slice none 0 0) from fun w' h => by
   have e1 := (h.block _ (heap_lt hm)).trans hm
   have e2 := (h.block _ (heap_lt hb)).trans hb
   have e3 : ∀ j u, (encP (pinN 0) ++ encP (pinN 1))[j]? = some u → w'.cell? ⟨g, j, none⟩ = some u := fun j u hj => (World.cell?_of_block (h.block g hgl)).trans (hx j u hj)
   exact ⟨box_cell e1 rfl, box_cell e1 rfl, box_cell e1 rfl, box_cell e2 rfl, box_cell e2 rfl, box_cell e2 rfl, e3 0 _ rfl, e3 1 _ rfl, e3 2 _ rfl, e3 3 _ rfl, e3 4 _ rfl, e3 5 _ rfl, e3 6 _ rfl, e3 7 _ rfl⟩)
 clear hK hfix hgc hT hP10 e9 e11 e13 e14 e15 hm hb hP hP2 hx hgl
 obtain ⟨V, hV⟩ : ∃ V : List MP, V = [.con (.agg #[.int .i64 1, .int .i64 253402300799, .slice (some ⟨g, 0, none⟩) 256 c]), .con (.bool true), .con (.bool false), .con (.bool false), .con (.int .i64 0), .con (.bool false), .con (.bool false), .con (.bool false), .con (.int .i64 0), .con (.bool false), .con (.bool false), .con (.bool false), .con (.agg #[.int .i64 1, .int .i64 253402300799, .slice ta 256 tc]), .con (.agg #[.int .i64 1, .int .i64 253402300799, .slice (some ⟨g, 0, none⟩) 256 c]), .con (.bool true), .con (.bool false), .con (.bool false), .con (.bool false), .con (.slice (some ⟨g, 0, none⟩) 257 c), .con (.agg #[.int .i64 1, .int .i64 0, .slice (some ⟨g, 0, none⟩) 257 c]), .con (.bool false), .con (.bool false), .con (.bool false), .con (.agg #[.int .i64 1, .int .i64 253402300800, .slice none 0 0]), .con (.bool false), .con (.bool false), .con (.bool false), .con (.agg #[.int .i64 1, .int .i64 (-1), .slice none 0 0]), .con (.bool false), .con (.bool false), .con (.bool false), .con (.agg #[.int .i64 0, .int .i64 0, .slice none 0 0]), .con (.bool false), .con (.bool false), .con (.bool false), .con (.agg #[.int .i64 1, .int .i64 0, .slice none 0 0]), .con (.bool true), .con (.bool false), .con (.bool false), .con (.bool false), .con (.slice (some ⟨g, 0, none⟩) 257 c), .con (.pointer (some ⟨g, 4, none⟩)), .con (.agg #[.string (nameN 1), .int .i64 1, .int .i64 (-1), .slice none 0 0]), .con (.slice (some ⟨g, 0, none⟩) 257 c), .con (.pointer (some ⟨g, 0, none⟩)), .con (.agg #[.string (nameN 0), .int .i64 1, .int .i64 (-1), .slice none 0 0]), .row W.heap.size 2 36 #[.string (nameN 1), .int .i64 1, .int .i64 (-1), .slice none 0 0, .string (nameN 0), .int .i64 1, .int .i64 (-1), .slice none 0 0], .snap2 36 #[.string (nameN 1), .int .i64 1, .int .i64 (-1), .slice none 0 0, .string (nameN 0), .int .i64 1, .int .i64 (-1), .slice none 0 0], .con (.bool false), .con (.bool false), .con (.bool false), .con (.slice (some ⟨g, 0, none⟩) 257 c), .con (.pointer (some ⟨g, 0, none⟩)), .con (.agg #[.string (nameN 0), .int .i64 1, .int .i64 (-1), .slice none 0 0]), .con (.slice (some ⟨g, 0, none⟩) 257 c), .con (.pointer (some ⟨g, 0, none⟩)), .con (.agg #[.string (nameN 0), .int .i64 1, .int .i64 (-1), .slice none 0 0]), .row W.heap.size 2 36 #[.string (nameN 0), .int .i64 1, .int .i64 (-1), .slice none 0 0, .string (nameN 0), .int .i64 1, .int .i64 (-1), .slice none 0 0], .snap2 36 #[.string (nameN 0), .int .i64 1, .int .i64 (-1), .slice none 0 0, .string (nameN 0), .int .i64 1, .int .i64 (-1), .slice none 0 0], .con (.bool false), .con (.bool false)] := ⟨_, rfl⟩
 have HV := Lib.hid hV
 clear hV
 refine wp_region_all (fun d a' w' => ∃ f, a' = frN f ∧ FixH p1 p2 p4 (.slice (some ⟨g, 0, none⟩) 257 c) (.pointer (some ⟨bm, 0, none⟩)) (.pointer (some ⟨bb, 0, none⟩)) f ∧ RegF W V 207 d w' f) (by kernel_rfl) 61 (by kernel_rfl) (by kernel_rfl) ?first ?step ?last
 case first => exact ⟨f, rfl, HF.out, RegF.first _ _ _ _⟩
 case step =>
   rintro d a' w' ⟨f, ha, hf, h⟩ q hq hn hw
   have HA := Lib.hid ha
   have hsz := h.1.size
   clear ha
   rcases q with _ | _ | _ | _ | _ | _ | _ | _ | _ | _ | _ | _ | _ | _ | _ | _ | _ | _ | _ | _ | _ | _ | _ | _ | _ | _ | _ | _ | _ | _ | _ | _ | _ | _ | _ | _ | _ | _ | _ | _ | _ | _ | _ | _ | _ | _ | _ | _ | _ | _ | _ | _ | _ | _ | _ | _ | _ | _ | _ | _ | _ | q'
   · have t11 : a'.tmps[11]?.getD undef = .pointer (some ⟨bm, 0, none⟩) := by rw [HA.out]; exact hf.h11
     obtain ⟨m0, m1, m2, k0, k1, k2, a0, a1, a2, a3, a4, a5, a6, a7⟩ := HC.out w' h.1
     refine wpOp_step rfl fun K hK => ?_
     go_simp
     exact hK _ _ ⟨upd f 207 _, by rw [HA.out]; rfl, hf.upd 207 (by decide) _, h.same 0 _ (.con (.agg #[.int .i64 1, .int .i64 253402300799, .slice (some ⟨g, 0, none⟩) 256 c])) (by rw [HV.out]; rfl) rfl⟩
   · have t207 : a'.tmps[207]?.getD undef = .agg #[.int .i64 1, .int .i64 253402300799, .slice (some ⟨g, 0, none⟩) 256 c] := by rw [HA.out]; exact (h.get 0 (hw _ rfl ⟨0, .data⟩ (by simp) rfl) (.con (.agg #[.int .i64 1, .int .i64 253402300799, .slice (some ⟨g, 0, none⟩) 256 c])) (by rw [HV.out]; rfl) : f 207 = _)
     refine wpOp_step rfl fun K hK => ?_
     go_simp
     refine (HMay.out w' h.1).mono ?_
     rintro e w2 ⟨rfl, hb2⟩
     exact hK _ _ ⟨upd f 208 _, by rw [HA.out]; rfl, hf.upd 208 (by decide) _, h.did hb2 1 _ (.con (.bool true)) (by rw [HV.out]; rfl) rfl⟩
   · have t208 : a'.tmps[208]?.getD undef = .bool true := by rw [HA.out]; exact (h.get 1 (hw _ rfl ⟨1, .data⟩ (by simp) rfl) (.con (.bool true)) (by rw [HV.out]; rfl) : f 208 = _)
     refine wpOp_step rfl fun K hK => ?_
     go_simp
     exact hK _ _ ⟨upd f 209 _, by rw [HA.out]; rfl, hf.upd 209 (by decide) _, h.same 2 _ (.con (.bool false)) (by rw [HV.out]; rfl) rfl⟩
   · have t209 : a'.tmps[209]?.getD undef = .bool false := by rw [HA.out]; exact (h.get 2 (hw _ rfl ⟨2, .data⟩ (by simp) rfl) (.con (.bool false)) (by rw [HV.out]; rfl) : f 209 = _)
     refine wpOp_step rfl fun K hK => ?_
     go_simp
     exact hK _ _ ⟨upd f 210 _, by rw [HA.out]; rfl, hf.upd 210 (by decide) _, h.same 3 _ (.con (.bool false)) (by rw [HV.out]; rfl) rfl⟩
   · have t210 : a'.tmps[210]? = some (.bool false) := by rw [HA.out]; exact congrArg some (h.get 3 (hw _ rfl ⟨3, .guard⟩ (by simp) rfl) (.con (.bool false)) (by rw [HV.out]; rfl) : f 210 = _)
     have t13 : a'.tmps[13]?.getD undef = .int .i64 0 := by rw [HA.out]; exact hf.h13
     refine wpOp_step rfl fun K hK => ?_
     go_simp
     exact hK _ _ ⟨upd f 211 _, by rw [HA.out]; rfl, hf.upd 211 (by decide) _, h.same 4 _ (.con (.int .i64 0)) (by rw [HV.out]; rfl) rfl⟩
   · have t210 : a'.tmps[210]? = some (.bool false) := by rw [HA.out]; exact congrArg some (h.get 3 (hw _ rfl ⟨3, .guard⟩ (by simp) rfl) (.con (.bool false)) (by rw [HV.out]; rfl) : f 210 = _)
     have t211 : a'.tmps[211]?.getD undef = .int .i64 0 := by rw [HA.out]; exact (h.get 4 (hw _ rfl ⟨4, .data⟩ (by simp) rfl) (.con (.int .i64 0)) (by rw [HV.out]; rfl) : f 211 = _)
     refine wpOp_step rfl fun K hK => ?_
     go_simp
     exact hK _ _ ⟨upd f 212 _, by rw [HA.out]; rfl, hf.upd 212 (by decide) _, h.same 5 _ (.con (.bool false)) (by rw [HV.out]; rfl) rfl⟩
   · have t210 : a'.tmps[210]?.getD undef = .bool false := by rw [HA.out]; exact (h.get 3 (hw _ rfl ⟨3, .data⟩ (by simp) rfl) (.con (.bool false)) (by rw [HV.out]; rfl) : f 210 = _)
     have t212 : a'.tmps[212]?.getD undef = .bool false := by rw [HA.out]; exact (h.get 5 (hw _ rfl ⟨5, .data⟩ (by simp) rfl) (.con (.bool false)) (by rw [HV.out]; rfl) : f 212 = _)
     refine wpOp_step rfl fun K hK => ?_
     go_simp
     exact hK _ _ ⟨upd f 213 _, by rw [HA.out]; rfl, hf.upd 213 (by decide) _, h.same 6 _ (.con (.bool false)) (by rw [HV.out]; rfl) rfl⟩
   · have t213 : a'.tmps[213]?.getD undef = .bool false := by rw [HA.out]; exact (h.get 6 (hw _ rfl ⟨6, .data⟩ (by simp) rfl) (.con (.bool false)) (by rw [HV.out]; rfl) : f 213 = _)
     refine wpOp_step rfl fun K hK => ?_
     go_simp
     exact hK _ _ ⟨upd f 214 _, by rw [HA.out]; rfl, hf.upd 214 (by decide) _, h.same 7 _ (.con (.bool false)) (by rw [HV.out]; rfl) rfl⟩
   · have t214 : a'.tmps[214]? = some (.bool false) := by rw [HA.out]; exact congrArg some (h.get 7 (hw _ rfl ⟨7, .guard⟩ (by simp) rfl) (.con (.bool false)) (by rw [HV.out]; rfl) : f 214 = _)
     have t15 : a'.tmps[15]?.getD undef = .int .i64 0 := by rw [HA.out]; exact hf.h15
     refine wpOp_step rfl fun K hK => ?_
     go_simp
     exact hK _ _ ⟨upd f 215 _, by rw [HA.out]; rfl, hf.upd 215 (by decide) _, h.same 8 _ (.con (.int .i64 0)) (by rw [HV.out]; rfl) rfl⟩
   · have t214 : a'.tmps[214]? = some (.bool false) := by rw [HA.out]; exact congrArg some (h.get 7 (hw _ rfl ⟨7, .guard⟩ (by simp) rfl) (.con (.bool false)) (by rw [HV.out]; rfl) : f 214 = _)
     have t215 : a'.tmps[215]?.getD undef = .int .i64 0 := by rw [HA.out]; exact (h.get 8 (hw _ rfl ⟨8, .data⟩ (by simp) rfl) (.con (.int .i64 0)) (by rw [HV.out]; rfl) : f 215 = _)
     refine wpOp_step rfl fun K hK => ?_
     go_simp
     exact hK _ _ ⟨upd f 216 _, by rw [HA.out]; rfl, hf.upd 216 (by decide) _, h.same 9 _ (.con (.bool false)) (by rw [HV.out]; rfl) rfl⟩
   · have t214 : a'.tmps[214]?.getD undef = .bool false := by rw [HA.out]; exact (h.get 7 (hw _ rfl ⟨7, .data⟩ (by simp) rfl) (.con (.bool false)) (by rw [HV.out]; rfl) : f 214 = _)
     have t216 : a'.tmps[216]?.getD undef = .bool false := by rw [HA.out]; exact (h.get 9 (hw _ rfl ⟨9, .data⟩ (by simp) rfl) (.con (.bool false)) (by rw [HV.out]; rfl) : f 216 = _)
     refine wpOp_step rfl fun K hK => ?_
     go_simp
     exact hK _ _ ⟨upd f 217 _, by rw [HA.out]; rfl, hf.upd 217 (by decide) _, h.same 10 _ (.con (.bool false)) (by rw [HV.out]; rfl) rfl⟩
   · have t217 : a'.tmps[217]?.getD undef = .bool false := by rw [HA.out]; exact (h.get 10 (hw _ rfl ⟨10, .data⟩ (by simp) rfl) (.con (.bool false)) (by rw [HV.out]; rfl) : f 217 = _)
     refine wpOp_step rfl fun K hK => ?_
     go_simp
     exact hK _ _ ⟨upd f 218 _, by rw [HA.out]; rfl, hf.upd 218 (by decide) _, h.same 11 _ (.con (.bool false)) (by rw [HV.out]; rfl) rfl⟩
   · have t218 : a'.tmps[218]? = some (.bool false) := by rw [HA.out]; exact congrArg some (h.get 11 (hw _ rfl ⟨11, .guard⟩ (by simp) rfl) (.con (.bool false)) (by rw [HV.out]; rfl) : f 218 = _)
     have t14 : a'.tmps[14]?.getD undef = .pointer (some ⟨bb, 0, none⟩) := by rw [HA.out]; exact hf.h14
     obtain ⟨m0, m1, m2, k0, k1, k2, a0, a1, a2, a3, a4, a5, a6, a7⟩ := HC.out w' h.1
     refine wpOp_step rfl fun K hK => ?_
     go_simp
     exact hK _ _ ⟨upd f 219 _, by rw [HA.out]; rfl, hf.upd 219 (by decide) _, h.same 12 _ (.con (.agg #[.int .i64 1, .int .i64 253402300799, .slice ta 256 tc])) (by rw [HV.out]; rfl) rfl⟩
   · have t218 : a'.tmps[218]? = some (.bool false) := by rw [HA.out]; exact congrArg some (h.get 11 (hw _ rfl ⟨11, .guard⟩ (by simp) rfl) (.con (.bool false)) (by rw [HV.out]; rfl) : f 218 = _)
     have t11 : a'.tmps[11]?.getD undef = .pointer (some ⟨bm, 0, none⟩) := by rw [HA.out]; exact hf.h11
     obtain ⟨m0, m1, m2, k0, k1, k2, a0, a1, a2, a3, a4, a5, a6, a7⟩ := HC.out w' h.1
     refine wpOp_step rfl fun K hK => ?_
     go_simp
     exact hK _ _ ⟨upd f 220 _, by rw [HA.out]; rfl, hf.upd 220 (by decide) _, h.same 13 _ (.con (.agg #[.int .i64 1, .int .i64 253402300799, .slice (some ⟨g, 0, none⟩) 256 c])) (by rw [HV.out]; rfl) rfl⟩
   · have t218 : a'.tmps[218]? = some (.bool false) := by rw [HA.out]; exact congrArg some (h.get 11 (hw _ rfl ⟨11, .chain⟩ (by simp) rfl) (.con (.bool false)) (by rw [HV.out]; rfl) : f 218 = _)
     have t219 : a'.tmps[219]?.getD undef = .agg #[.int .i64 1, .int .i64 253402300799, .slice ta 256 tc] := by rw [HA.out]; exact (h.get 12 (hw _ rfl ⟨12, .data⟩ (by simp) rfl) (.con (.agg #[.int .i64 1, .int .i64 253402300799, .slice ta 256 tc])) (by rw [HV.out]; rfl) : f 219 = _)
     have t220 : a'.tmps[220]?.getD undef = .agg #[.int .i64 1, .int .i64 253402300799, .slice (some ⟨g, 0, none⟩) 256 c] := by rw [HA.out]; exact (h.get 13 (hw _ rfl ⟨13, .data⟩ (by simp) rfl) (.con (.agg #[.int .i64 1, .int .i64 253402300799, .slice (some ⟨g, 0, none⟩) 256 c])) (by rw [HV.out]; rfl) : f 220 = _)
     refine wpOp_step rfl fun K hK => ?_
     go_simp
     refine (HSame.out w' h.1).mono ?_
     rintro e w2 ⟨rfl, hb2⟩
     exact hK _ _ ⟨upd f 221 _, by rw [HA.out]; rfl, hf.upd 221 (by decide) _, h.did hb2 14 _ (.con (.bool true)) (by rw [HV.out]; rfl) rfl⟩
   · have t218 : a'.tmps[218]? = some (.bool false) := by rw [HA.out]; exact congrArg some (h.get 11 (hw _ rfl ⟨11, .guard⟩ (by simp) rfl) (.con (.bool false)) (by rw [HV.out]; rfl) : f 218 = _)
     have t221 : a'.tmps[221]?.getD undef = .bool true := by rw [HA.out]; exact (h.get 14 (hw _ rfl ⟨14, .data⟩ (by simp) rfl) (.con (.bool true)) (by rw [HV.out]; rfl) : f 221 = _)
     refine wpOp_step rfl fun K hK => ?_
     go_simp
     exact hK _ _ ⟨upd f 222 _, by rw [HA.out]; rfl, hf.upd 222 (by decide) _, h.same 15 _ (.con (.bool false)) (by rw [HV.out]; rfl) rfl⟩
   · have t218 : a'.tmps[218]?.getD undef = .bool false := by rw [HA.out]; exact (h.get 11 (hw _ rfl ⟨11, .data⟩ (by simp) rfl) (.con (.bool false)) (by rw [HV.out]; rfl) : f 218 = _)
     have t222 : a'.tmps[222]?.getD undef = .bool false := by rw [HA.out]; exact (h.get 15 (hw _ rfl ⟨15, .data⟩ (by simp) rfl) (.con (.bool false)) (by rw [HV.out]; rfl) : f 222 = _)
     refine wpOp_step rfl fun K hK => ?_
     go_simp
     exact hK _ _ ⟨upd f 223 _, by rw [HA.out]; rfl, hf.upd 223 (by decide) _, h.same 16 _ (.con (.bool false)) (by rw [HV.out]; rfl) rfl⟩
   · have t223 : a'.tmps[223]?.getD undef = .bool false := by rw [HA.out]; exact (h.get 16 (hw _ rfl ⟨16, .data⟩ (by simp) rfl) (.con (.bool false)) (by rw [HV.out]; rfl) : f 223 = _)
     refine wpOp_step rfl fun K hK => ?_
     go_simp
     exact hK _ _ ⟨upd f 224 _, by rw [HA.out]; rfl, hf.upd 224 (by decide) _, h.same 17 _ (.con (.bool false)) (by rw [HV.out]; rfl) rfl⟩
   · have t224 : a'.tmps[224]? = some (.bool false) := by rw [HA.out]; exact congrArg some (h.get 17 (hw _ rfl ⟨17, .guard⟩ (by simp) rfl) (.con (.bool false)) (by rw [HV.out]; rfl) : f 224 = _)
     have t9 : a'.tmps[9]?.getD undef = .slice (some ⟨g, 0, none⟩) 257 c := by rw [HA.out]; exact hf.h9
     refine wpOp_step rfl fun K hK => ?_
     go_simp
     exact hK _ _ ⟨upd f 225 _, by rw [HA.out]; rfl, hf.upd 225 (by decide) _, h.same 18 _ (.con (.slice (some ⟨g, 0, none⟩) 257 c)) (by rw [HV.out]; rfl) rfl⟩
   · have t224 : a'.tmps[224]? = some (.bool false) := by rw [HA.out]; exact congrArg some (h.get 17 (hw _ rfl ⟨17, .guard⟩ (by simp) rfl) (.con (.bool false)) (by rw [HV.out]; rfl) : f 224 = _)
     have t225 : a'.tmps[225]?.getD undef = .slice (some ⟨g, 0, none⟩) 257 c := by rw [HA.out]; exact (h.get 18 (hw _ rfl ⟨18, .data⟩ (by simp) rfl) (.con (.slice (some ⟨g, 0, none⟩) 257 c)) (by rw [HV.out]; rfl) : f 225 = _)
     refine wpOp_step rfl fun K hK => ?_
     go_simp
     exact hK _ _ ⟨upd f 226 _, by rw [HA.out]; rfl, hf.upd 226 (by decide) _, h.same 19 _ (.con (.agg #[.int .i64 1, .int .i64 0, .slice (some ⟨g, 0, none⟩) 257 c])) (by rw [HV.out]; rfl) rfl⟩
   · have t224 : a'.tmps[224]? = some (.bool false) := by rw [HA.out]; exact congrArg some (h.get 17 (hw _ rfl ⟨17, .chain⟩ (by simp) rfl) (.con (.bool false)) (by rw [HV.out]; rfl) : f 224 = _)
     have t226 : a'.tmps[226]?.getD undef = .agg #[.int .i64 1, .int .i64 0, .slice (some ⟨g, 0, none⟩) 257 c] := by rw [HA.out]; exact (h.get 19 (hw _ rfl ⟨19, .data⟩ (by simp) rfl) (.con (.agg #[.int .i64 1, .int .i64 0, .slice (some ⟨g, 0, none⟩) 257 c])) (by rw [HV.out]; rfl) : f 226 = _)
     refine wpOp_step rfl fun K hK => ?_
     go_simp
     refine (HMany.out w' h.1).mono ?_
     rintro e w2 ⟨rfl, hb2⟩
     exact hK _ _ ⟨upd f 227 _, by rw [HA.out]; rfl, hf.upd 227 (by decide) _, h.did hb2 20 _ (.con (.bool false)) (by rw [HV.out]; rfl) rfl⟩
   · have t224 : a'.tmps[224]?.getD undef = .bool false := by rw [HA.out]; exact (h.get 17 (hw _ rfl ⟨17, .data⟩ (by simp) rfl) (.con (.bool false)) (by rw [HV.out]; rfl) : f 224 = _)
     have t227 : a'.tmps[227]?.getD undef = .bool false := by rw [HA.out]; exact (h.get 20 (hw _ rfl ⟨20, .data⟩ (by simp) rfl) (.con (.bool false)) (by rw [HV.out]; rfl) : f 227 = _)
     refine wpOp_step rfl fun K hK => ?_
     go_simp
     exact hK _ _ ⟨upd f 228 _, by rw [HA.out]; rfl, hf.upd 228 (by decide) _, h.same 21 _ (.con (.bool false)) (by rw [HV.out]; rfl) rfl⟩
   · have t228 : a'.tmps[228]?.getD undef = .bool false := by rw [HA.out]; exact (h.get 21 (hw _ rfl ⟨21, .data⟩ (by simp) rfl) (.con (.bool false)) (by rw [HV.out]; rfl) : f 228 = _)
     refine wpOp_step rfl fun K hK => ?_
     go_simp
     exact hK _ _ ⟨upd f 229 _, by rw [HA.out]; rfl, hf.upd 229 (by decide) _, h.same 22 _ (.con (.bool false)) (by rw [HV.out]; rfl) rfl⟩
   · have t229 : a'.tmps[229]? = some (.bool false) := by rw [HA.out]; exact congrArg some (h.get 22 (hw _ rfl ⟨22, .guard⟩ (by simp) rfl) (.con (.bool false)) (by rw [HV.out]; rfl) : f 229 = _)
     refine wpOp_step rfl fun K hK => ?_
     go_simp
     exact hK _ _ ⟨upd f 230 _, by rw [HA.out]; rfl, hf.upd 230 (by decide) _, h.same 23 _ (.con (.agg #[.int .i64 1, .int .i64 253402300800, .slice none 0 0])) (by rw [HV.out]; rfl) rfl⟩
   · have t229 : a'.tmps[229]? = some (.bool false) := by rw [HA.out]; exact congrArg some (h.get 22 (hw _ rfl ⟨22, .chain⟩ (by simp) rfl) (.con (.bool false)) (by rw [HV.out]; rfl) : f 229 = _)
     have t230 : a'.tmps[230]?.getD undef = .agg #[.int .i64 1, .int .i64 253402300800, .slice none 0 0] := by rw [HA.out]; exact (h.get 23 (hw _ rfl ⟨23, .data⟩ (by simp) rfl) (.con (.agg #[.int .i64 1, .int .i64 253402300800, .slice none 0 0])) (by rw [HV.out]; rfl) : f 230 = _)
     refine wpOp_step rfl fun K hK => ?_
     go_simp
     refine (HLate.out w' h.1).mono ?_
     rintro e w2 ⟨rfl, hb2⟩
     exact hK _ _ ⟨upd f 231 _, by rw [HA.out]; rfl, hf.upd 231 (by decide) _, h.did hb2 24 _ (.con (.bool false)) (by rw [HV.out]; rfl) rfl⟩
   · have t229 : a'.tmps[229]?.getD undef = .bool false := by rw [HA.out]; exact (h.get 22 (hw _ rfl ⟨22, .data⟩ (by simp) rfl) (.con (.bool false)) (by rw [HV.out]; rfl) : f 229 = _)
     have t231 : a'.tmps[231]?.getD undef = .bool false := by rw [HA.out]; exact (h.get 24 (hw _ rfl ⟨24, .data⟩ (by simp) rfl) (.con (.bool false)) (by rw [HV.out]; rfl) : f 231 = _)
     refine wpOp_step rfl fun K hK => ?_
     go_simp
     exact hK _ _ ⟨upd f 232 _, by rw [HA.out]; rfl, hf.upd 232 (by decide) _, h.same 25 _ (.con (.bool false)) (by rw [HV.out]; rfl) rfl⟩
   · have t232 : a'.tmps[232]?.getD undef = .bool false := by rw [HA.out]; exact (h.get 25 (hw _ rfl ⟨25, .data⟩ (by simp) rfl) (.con (.bool false)) (by rw [HV.out]; rfl) : f 232 = _)
     refine wpOp_step rfl fun K hK => ?_
     go_simp
     exact hK _ _ ⟨upd f 233 _, by rw [HA.out]; rfl, hf.upd 233 (by decide) _, h.same 26 _ (.con (.bool false)) (by rw [HV.out]; rfl) rfl⟩
   · have t233 : a'.tmps[233]? = some (.bool false) := by rw [HA.out]; exact congrArg some (h.get 26 (hw _ rfl ⟨26, .guard⟩ (by simp) rfl) (.con (.bool false)) (by rw [HV.out]; rfl) : f 233 = _)
     refine wpOp_step rfl fun K hK => ?_
     go_simp
     exact hK _ _ ⟨upd f 234 _, by rw [HA.out]; rfl, hf.upd 234 (by decide) _, h.same 27 _ (.con (.agg #[.int .i64 1, .int .i64 (-1), .slice none 0 0])) (by rw [HV.out]; rfl) rfl⟩
   · have t233 : a'.tmps[233]? = some (.bool false) := by rw [HA.out]; exact congrArg some (h.get 26 (hw _ rfl ⟨26, .chain⟩ (by simp) rfl) (.con (.bool false)) (by rw [HV.out]; rfl) : f 233 = _)
     have t234 : a'.tmps[234]?.getD undef = .agg #[.int .i64 1, .int .i64 (-1), .slice none 0 0] := by rw [HA.out]; exact (h.get 27 (hw _ rfl ⟨27, .data⟩ (by simp) rfl) (.con (.agg #[.int .i64 1, .int .i64 (-1), .slice none 0 0])) (by rw [HV.out]; rfl) : f 234 = _)
     refine wpOp_step rfl fun K hK => ?_
     go_simp
     refine (HNeg.out w' h.1).mono ?_
     rintro e w2 ⟨rfl, hb2⟩
     exact hK _ _ ⟨upd f 235 _, by rw [HA.out]; rfl, hf.upd 235 (by decide) _, h.did hb2 28 _ (.con (.bool false)) (by rw [HV.out]; rfl) rfl⟩
   · have t233 : a'.tmps[233]?.getD undef = .bool false := by rw [HA.out]; exact (h.get 26 (hw _ rfl ⟨26, .data⟩ (by simp) rfl) (.con (.bool false)) (by rw [HV.out]; rfl) : f 233 = _)
     have t235 : a'.tmps[235]?.getD undef = .bool false := by rw [HA.out]; exact (h.get 28 (hw _ rfl ⟨28, .data⟩ (by simp) rfl) (.con (.bool false)) (by rw [HV.out]; rfl) : f 235 = _)
     refine wpOp_step rfl fun K hK => ?_
     go_simp
     exact hK _ _ ⟨upd f 236 _, by rw [HA.out]; rfl, hf.upd 236 (by decide) _, h.same 29 _ (.con (.bool false)) (by rw [HV.out]; rfl) rfl⟩
   · have t236 : a'.tmps[236]?.getD undef = .bool false := by rw [HA.out]; exact (h.get 29 (hw _ rfl ⟨29, .data⟩ (by simp) rfl) (.con (.bool false)) (by rw [HV.out]; rfl) : f 236 = _)
     refine wpOp_step rfl fun K hK => ?_
     go_simp
     exact hK _ _ ⟨upd f 237 _, by rw [HA.out]; rfl, hf.upd 237 (by decide) _, h.same 30 _ (.con (.bool false)) (by rw [HV.out]; rfl) rfl⟩
   · have t237 : a'.tmps[237]? = some (.bool false) := by rw [HA.out]; exact congrArg some (h.get 30 (hw _ rfl ⟨30, .guard⟩ (by simp) rfl) (.con (.bool false)) (by rw [HV.out]; rfl) : f 237 = _)
     refine wpOp_step rfl fun K hK => ?_
     go_simp
     exact hK _ _ ⟨upd f 238 _, by rw [HA.out]; rfl, hf.upd 238 (by decide) _, h.same 31 _ (.con (.agg #[.int .i64 0, .int .i64 0, .slice none 0 0])) (by rw [HV.out]; rfl) rfl⟩
   · have t237 : a'.tmps[237]? = some (.bool false) := by rw [HA.out]; exact congrArg some (h.get 30 (hw _ rfl ⟨30, .chain⟩ (by simp) rfl) (.con (.bool false)) (by rw [HV.out]; rfl) : f 237 = _)
     have t238 : a'.tmps[238]?.getD undef = .agg #[.int .i64 0, .int .i64 0, .slice none 0 0] := by rw [HA.out]; exact (h.get 31 (hw _ rfl ⟨31, .data⟩ (by simp) rfl) (.con (.agg #[.int .i64 0, .int .i64 0, .slice none 0 0])) (by rw [HV.out]; rfl) : f 238 = _)
     refine wpOp_step rfl fun K hK => ?_
     go_simp
     refine (HZero.out w' h.1).mono ?_
     rintro e w2 ⟨rfl, hb2⟩
     exact hK _ _ ⟨upd f 239 _, by rw [HA.out]; rfl, hf.upd 239 (by decide) _, h.did hb2 32 _ (.con (.bool false)) (by rw [HV.out]; rfl) rfl⟩
   · have t237 : a'.tmps[237]?.getD undef = .bool false := by rw [HA.out]; exact (h.get 30 (hw _ rfl ⟨30, .data⟩ (by simp) rfl) (.con (.bool false)) (by rw [HV.out]; rfl) : f 237 = _)
     have t239 : a'.tmps[239]?.getD undef = .bool false := by rw [HA.out]; exact (h.get 32 (hw _ rfl ⟨32, .data⟩ (by simp) rfl) (.con (.bool false)) (by rw [HV.out]; rfl) : f 239 = _)
     refine wpOp_step rfl fun K hK => ?_
     go_simp
     exact hK _ _ ⟨upd f 240 _, by rw [HA.out]; rfl, hf.upd 240 (by decide) _, h.same 33 _ (.con (.bool false)) (by rw [HV.out]; rfl) rfl⟩
   · have t240 : a'.tmps[240]?.getD undef = .bool false := by rw [HA.out]; exact (h.get 33 (hw _ rfl ⟨33, .data⟩ (by simp) rfl) (.con (.bool false)) (by rw [HV.out]; rfl) : f 240 = _)
     refine wpOp_step rfl fun K hK => ?_
     go_simp
     exact hK _ _ ⟨upd f 241 _, by rw [HA.out]; rfl, hf.upd 241 (by decide) _, h.same 34 _ (.con (.bool false)) (by rw [HV.out]; rfl) rfl⟩
   · have t241 : a'.tmps[241]? = some (.bool false) := by rw [HA.out]; exact congrArg some (h.get 34 (hw _ rfl ⟨34, .guard⟩ (by simp) rfl) (.con (.bool false)) (by rw [HV.out]; rfl) : f 241 = _)
     refine wpOp_step rfl fun K hK => ?_
     go_simp
     exact hK _ _ ⟨upd f 242 _, by rw [HA.out]; rfl, hf.upd 242 (by decide) _, h.same 35 _ (.con (.agg #[.int .i64 1, .int .i64 0, .slice none 0 0])) (by rw [HV.out]; rfl) rfl⟩
   · have t241 : a'.tmps[241]? = some (.bool false) := by rw [HA.out]; exact congrArg some (h.get 34 (hw _ rfl ⟨34, .chain⟩ (by simp) rfl) (.con (.bool false)) (by rw [HV.out]; rfl) : f 241 = _)
     have t242 : a'.tmps[242]?.getD undef = .agg #[.int .i64 1, .int .i64 0, .slice none 0 0] := by rw [HA.out]; exact (h.get 35 (hw _ rfl ⟨35, .data⟩ (by simp) rfl) (.con (.agg #[.int .i64 1, .int .i64 0, .slice none 0 0])) (by rw [HV.out]; rfl) : f 242 = _)
     refine wpOp_step rfl fun K hK => ?_
     go_simp
     refine (HOne.out w' h.1).mono ?_
     rintro e w2 ⟨rfl, hb2⟩
     exact hK _ _ ⟨upd f 243 _, by rw [HA.out]; rfl, hf.upd 243 (by decide) _, h.did hb2 36 _ (.con (.bool true)) (by rw [HV.out]; rfl) rfl⟩
   · have t241 : a'.tmps[241]? = some (.bool false) := by rw [HA.out]; exact congrArg some (h.get 34 (hw _ rfl ⟨34, .guard⟩ (by simp) rfl) (.con (.bool false)) (by rw [HV.out]; rfl) : f 241 = _)
     have t243 : a'.tmps[243]?.getD undef = .bool true := by rw [HA.out]; exact (h.get 36 (hw _ rfl ⟨36, .data⟩ (by simp) rfl) (.con (.bool true)) (by rw [HV.out]; rfl) : f 243 = _)
     refine wpOp_step rfl fun K hK => ?_
     go_simp
     exact hK _ _ ⟨upd f 244 _, by rw [HA.out]; rfl, hf.upd 244 (by decide) _, h.same 37 _ (.con (.bool false)) (by rw [HV.out]; rfl) rfl⟩
   · have t241 : a'.tmps[241]?.getD undef = .bool false := by rw [HA.out]; exact (h.get 34 (hw _ rfl ⟨34, .data⟩ (by simp) rfl) (.con (.bool false)) (by rw [HV.out]; rfl) : f 241 = _)
     have t244 : a'.tmps[244]?.getD undef = .bool false := by rw [HA.out]; exact (h.get 37 (hw _ rfl ⟨37, .data⟩ (by simp) rfl) (.con (.bool false)) (by rw [HV.out]; rfl) : f 244 = _)
     refine wpOp_step rfl fun K hK => ?_
     go_simp
     exact hK _ _ ⟨upd f 245 _, by rw [HA.out]; rfl, hf.upd 245 (by decide) _, h.same 38 _ (.con (.bool false)) (by rw [HV.out]; rfl) rfl⟩
   · have t245 : a'.tmps[245]?.getD undef = .bool false := by rw [HA.out]; exact (h.get 38 (hw _ rfl ⟨38, .data⟩ (by simp) rfl) (.con (.bool false)) (by rw [HV.out]; rfl) : f 245 = _)
     refine wpOp_step rfl fun K hK => ?_
     go_simp
     exact hK _ _ ⟨upd f 246 _, by rw [HA.out]; rfl, hf.upd 246 (by decide) _, h.same 39 _ (.con (.bool false)) (by rw [HV.out]; rfl) rfl⟩
   · have t246 : a'.tmps[246]? = some (.bool false) := by rw [HA.out]; exact congrArg some (h.get 39 (hw _ rfl ⟨39, .guard⟩ (by simp) rfl) (.con (.bool false)) (by rw [HV.out]; rfl) : f 246 = _)
     have t9 : a'.tmps[9]?.getD undef = .slice (some ⟨g, 0, none⟩) 257 c := by rw [HA.out]; exact hf.h9
     refine wpOp_step rfl fun K hK => ?_
     go_simp
     exact hK _ _ ⟨upd f 247 _, by rw [HA.out]; rfl, hf.upd 247 (by decide) _, h.same 40 _ (.con (.slice (some ⟨g, 0, none⟩) 257 c)) (by rw [HV.out]; rfl) rfl⟩
   · have t246 : a'.tmps[246]? = some (.bool false) := by rw [HA.out]; exact congrArg some (h.get 39 (hw _ rfl ⟨39, .guard⟩ (by simp) rfl) (.con (.bool false)) (by rw [HV.out]; rfl) : f 246 = _)
     have t247 : a'.tmps[247]?.getD undef = .slice (some ⟨g, 0, none⟩) 257 c := by rw [HA.out]; exact (h.get 40 (hw _ rfl ⟨40, .data⟩ (by simp) rfl) (.con (.slice (some ⟨g, 0, none⟩) 257 c)) (by rw [HV.out]; rfl) : f 247 = _)
     have hgc : 257 ≤ c := HGC.out
     refine wpOp_step rfl fun K hK => ?_
     go_simp
     exact hK _ _ ⟨upd f 248 _, by rw [HA.out]; rfl, hf.upd 248 (by decide) _, h.same 41 _ (.con (.pointer (some ⟨g, 4, none⟩))) (by rw [HV.out]; rfl) rfl⟩
   · have t246 : a'.tmps[246]? = some (.bool false) := by rw [HA.out]; exact congrArg some (h.get 39 (hw _ rfl ⟨39, .guard⟩ (by simp) rfl) (.con (.bool false)) (by rw [HV.out]; rfl) : f 246 = _)
     have t248 : a'.tmps[248]?.getD undef = .pointer (some ⟨g, 4, none⟩) := by rw [HA.out]; exact (h.get 41 (hw _ rfl ⟨41, .data⟩ (by simp) rfl) (.con (.pointer (some ⟨g, 4, none⟩))) (by rw [HV.out]; rfl) : f 248 = _)
     obtain ⟨m0, m1, m2, k0, k1, k2, a0, a1, a2, a3, a4, a5, a6, a7⟩ := HC.out w' h.1
     refine wpOp_step rfl fun K hK => ?_
     go_simp
     exact hK _ _ ⟨upd f 249 _, by rw [HA.out]; rfl, hf.upd 249 (by decide) _, h.same 42 _ (.con (.agg #[.string (nameN 1), .int .i64 1, .int .i64 (-1), .slice none 0 0])) (by rw [HV.out]; rfl) rfl⟩
   · have t246 : a'.tmps[246]? = some (.bool false) := by rw [HA.out]; exact congrArg some (h.get 39 (hw _ rfl ⟨39, .guard⟩ (by simp) rfl) (.con (.bool false)) (by rw [HV.out]; rfl) : f 246 = _)
     have t9 : a'.tmps[9]?.getD undef = .slice (some ⟨g, 0, none⟩) 257 c := by rw [HA.out]; exact hf.h9
     refine wpOp_step rfl fun K hK => ?_
     go_simp
     exact hK _ _ ⟨upd f 250 _, by rw [HA.out]; rfl, hf.upd 250 (by decide) _, h.same 43 _ (.con (.slice (some ⟨g, 0, none⟩) 257 c)) (by rw [HV.out]; rfl) rfl⟩
   · have t246 : a'.tmps[246]? = some (.bool false) := by rw [HA.out]; exact congrArg some (h.get 39 (hw _ rfl ⟨39, .guard⟩ (by simp) rfl) (.con (.bool false)) (by rw [HV.out]; rfl) : f 246 = _)
     have t250 : a'.tmps[250]?.getD undef = .slice (some ⟨g, 0, none⟩) 257 c := by rw [HA.out]; exact (h.get 43 (hw _ rfl ⟨43, .data⟩ (by simp) rfl) (.con (.slice (some ⟨g, 0, none⟩) 257 c)) (by rw [HV.out]; rfl) : f 250 = _)
     have hgc : 257 ≤ c := HGC.out
     refine wpOp_step rfl fun K hK => ?_
     go_simp
     exact hK _ _ ⟨upd f 251 _, by rw [HA.out]; rfl, hf.upd 251 (by decide) _, h.same 44 _ (.con (.pointer (some ⟨g, 0, none⟩))) (by rw [HV.out]; rfl) rfl⟩
   · have t246 : a'.tmps[246]? = some (.bool false) := by rw [HA.out]; exact congrArg some (h.get 39 (hw _ rfl ⟨39, .guard⟩ (by simp) rfl) (.con (.bool false)) (by rw [HV.out]; rfl) : f 246 = _)
     have t251 : a'.tmps[251]?.getD undef = .pointer (some ⟨g, 0, none⟩) := by rw [HA.out]; exact (h.get 44 (hw _ rfl ⟨44, .data⟩ (by simp) rfl) (.con (.pointer (some ⟨g, 0, none⟩))) (by rw [HV.out]; rfl) : f 251 = _)
     obtain ⟨m0, m1, m2, k0, k1, k2, a0, a1, a2, a3, a4, a5, a6, a7⟩ := HC.out w' h.1
     refine wpOp_step rfl fun K hK => ?_
     go_simp
     exact hK _ _ ⟨upd f 252 _, by rw [HA.out]; rfl, hf.upd 252 (by decide) _, h.same 45 _ (.con (.agg #[.string (nameN 0), .int .i64 1, .int .i64 (-1), .slice none 0 0])) (by rw [HV.out]; rfl) rfl⟩
   · have t246 : a'.tmps[246]? = some (.bool false) := by rw [HA.out]; exact congrArg some (h.get 39 (hw _ rfl ⟨39, .guard⟩ (by simp) rfl) (.con (.bool false)) (by rw [HV.out]; rfl) : f 246 = _)
     have t249 : a'.tmps[249]?.getD undef = .agg #[.string (nameN 1), .int .i64 1, .int .i64 (-1), .slice none 0 0] := by rw [HA.out]; exact (h.get 42 (hw _ rfl ⟨42, .data⟩ (by simp) rfl) (.con (.agg #[.string (nameN 1), .int .i64 1, .int .i64 (-1), .slice none 0 0])) (by rw [HV.out]; rfl) : f 249 = _)
     have t252 : a'.tmps[252]?.getD undef = .agg #[.string (nameN 0), .int .i64 1, .int .i64 (-1), .slice none 0 0] := by rw [HA.out]; exact (h.get 45 (hw _ rfl ⟨45, .data⟩ (by simp) rfl) (.con (.agg #[.string (nameN 0), .int .i64 1, .int .i64 (-1), .slice none 0 0])) (by rw [HV.out]; rfl) : f 252 = _)
     refine wpOp_step rfl fun K hK => ?_
     go_simp
     exact hK _ _ ⟨upd f 253 _, by rw [HA.out]; rfl, hf.upd 253 (by decide) _, h.new _ 46 _ (.row W.heap.size 2 36 #[.string (nameN 1), .int .i64 1, .int .i64 (-1), .slice none 0 0, .string (nameN 0), .int .i64 1, .int .i64 (-1), .slice none 0 0]) (by rw [HV.out]; rfl) (IsRow.made _ hsz)⟩
   · have t246 : a'.tmps[246]? = some (.bool false) := by rw [HA.out]; exact congrArg some (h.get 39 (hw _ rfl ⟨39, .guard⟩ (by simp) rfl) (.con (.bool false)) (by rw [HV.out]; rfl) : f 246 = _)
     obtain ⟨bq, kq, eq, mq⟩ := h.get 46 (hw _ rfl ⟨46, .data⟩ (by simp) rfl) (.row W.heap.size 2 36 #[.string (nameN 1), .int .i64 1, .int .i64 (-1), .slice none 0 0, .string (nameN 0), .int .i64 1, .int .i64 (-1), .slice none 0 0]) (by rw [HV.out]; rfl)
     have t253 : a'.tmps[253]?.getD undef = .slice (some ⟨bq, 0, none⟩) 2 2 := by rw [HA.out]; exact eq
     clear eq
     refine wpOp_step rfl fun K hK => ?_
     go_simp
     exact hK _ _ ⟨upd f 254 _, by rw [HA.out]; rfl, hf.upd 254 (by decide) _, h.same 47 _ (.snap2 36 #[.string (nameN 1), .int .i64 1, .int .i64 (-1), .slice none 0 0, .string (nameN 0), .int .i64 1, .int .i64 (-1), .slice none 0 0]) (by rw [HV.out]; rfl) ⟨bq, rfl, mq⟩⟩
   · have t246 : a'.tmps[246]? = some (.bool false) := by rw [HA.out]; exact congrArg some (h.get 39 (hw _ rfl ⟨39, .chain⟩ (by simp) rfl) (.con (.bool false)) (by rw [HV.out]; rfl) : f 246 = _)
     obtain ⟨bq, eq, mq⟩ := h.get 47 (hw _ rfl ⟨47, .data⟩ (by simp) rfl) (.snap2 36 #[.string (nameN 1), .int .i64 1, .int .i64 (-1), .slice none 0 0, .string (nameN 0), .int .i64 1, .int .i64 (-1), .slice none 0 0]) (by rw [HV.out]; rfl)
     have t254 : a'.tmps[254]?.getD undef = .agg #[.int .i64 1, .int .i64 0, .slice (some ⟨bq, 0, none⟩) 2 2] := by rw [HA.out]; exact eq
     clear eq
     refine wpOp_step rfl fun K hK => ?_
     go_simp
     refine (mayTwo 1 0 (by decide) (by decide) few_may.2.2.2.2.1 mq (HT.out w' h.1).1 (HT.out w' h.1).2).mono ?_
     rintro e w2 ⟨rfl, hb2⟩
     exact hK _ _ ⟨upd f 255 _, by rw [HA.out]; rfl, hf.upd 255 (by decide) _, h.did hb2 48 _ (.con (.bool false)) (by rw [HV.out]; rfl) rfl⟩
   · have t246 : a'.tmps[246]?.getD undef = .bool false := by rw [HA.out]; exact (h.get 39 (hw _ rfl ⟨39, .data⟩ (by simp) rfl) (.con (.bool false)) (by rw [HV.out]; rfl) : f 246 = _)
     have t255 : a'.tmps[255]?.getD undef = .bool false := by rw [HA.out]; exact (h.get 48 (hw _ rfl ⟨48, .data⟩ (by simp) rfl) (.con (.bool false)) (by rw [HV.out]; rfl) : f 255 = _)
     refine wpOp_step rfl fun K hK => ?_
     go_simp
     exact hK _ _ ⟨upd f 256 _, by rw [HA.out]; rfl, hf.upd 256 (by decide) _, h.same 49 _ (.con (.bool false)) (by rw [HV.out]; rfl) rfl⟩
   · have t256 : a'.tmps[256]?.getD undef = .bool false := by rw [HA.out]; exact (h.get 49 (hw _ rfl ⟨49, .data⟩ (by simp) rfl) (.con (.bool false)) (by rw [HV.out]; rfl) : f 256 = _)
     refine wpOp_step rfl fun K hK => ?_
     go_simp
     exact hK _ _ ⟨upd f 257 _, by rw [HA.out]; rfl, hf.upd 257 (by decide) _, h.same 50 _ (.con (.bool false)) (by rw [HV.out]; rfl) rfl⟩
   · have t257 : a'.tmps[257]? = some (.bool false) := by rw [HA.out]; exact congrArg some (h.get 50 (hw _ rfl ⟨50, .guard⟩ (by simp) rfl) (.con (.bool false)) (by rw [HV.out]; rfl) : f 257 = _)
     have t9 : a'.tmps[9]?.getD undef = .slice (some ⟨g, 0, none⟩) 257 c := by rw [HA.out]; exact hf.h9
     refine wpOp_step rfl fun K hK => ?_
     go_simp
     exact hK _ _ ⟨upd f 258 _, by rw [HA.out]; rfl, hf.upd 258 (by decide) _, h.same 51 _ (.con (.slice (some ⟨g, 0, none⟩) 257 c)) (by rw [HV.out]; rfl) rfl⟩
   · have t257 : a'.tmps[257]? = some (.bool false) := by rw [HA.out]; exact congrArg some (h.get 50 (hw _ rfl ⟨50, .guard⟩ (by simp) rfl) (.con (.bool false)) (by rw [HV.out]; rfl) : f 257 = _)
     have t258 : a'.tmps[258]?.getD undef = .slice (some ⟨g, 0, none⟩) 257 c := by rw [HA.out]; exact (h.get 51 (hw _ rfl ⟨51, .data⟩ (by simp) rfl) (.con (.slice (some ⟨g, 0, none⟩) 257 c)) (by rw [HV.out]; rfl) : f 258 = _)
     have hgc : 257 ≤ c := HGC.out
     refine wpOp_step rfl fun K hK => ?_
     go_simp
     exact hK _ _ ⟨upd f 259 _, by rw [HA.out]; rfl, hf.upd 259 (by decide) _, h.same 52 _ (.con (.pointer (some ⟨g, 0, none⟩))) (by rw [HV.out]; rfl) rfl⟩
   · have t257 : a'.tmps[257]? = some (.bool false) := by rw [HA.out]; exact congrArg some (h.get 50 (hw _ rfl ⟨50, .guard⟩ (by simp) rfl) (.con (.bool false)) (by rw [HV.out]; rfl) : f 257 = _)
     have t259 : a'.tmps[259]?.getD undef = .pointer (some ⟨g, 0, none⟩) := by rw [HA.out]; exact (h.get 52 (hw _ rfl ⟨52, .data⟩ (by simp) rfl) (.con (.pointer (some ⟨g, 0, none⟩))) (by rw [HV.out]; rfl) : f 259 = _)
     obtain ⟨m0, m1, m2, k0, k1, k2, a0, a1, a2, a3, a4, a5, a6, a7⟩ := HC.out w' h.1
     refine wpOp_step rfl fun K hK => ?_
     go_simp
     exact hK _ _ ⟨upd f 260 _, by rw [HA.out]; rfl, hf.upd 260 (by decide) _, h.same 53 _ (.con (.agg #[.string (nameN 0), .int .i64 1, .int .i64 (-1), .slice none 0 0])) (by rw [HV.out]; rfl) rfl⟩
   · have t257 : a'.tmps[257]? = some (.bool false) := by rw [HA.out]; exact congrArg some (h.get 50 (hw _ rfl ⟨50, .guard⟩ (by simp) rfl) (.con (.bool false)) (by rw [HV.out]; rfl) : f 257 = _)
     have t9 : a'.tmps[9]?.getD undef = .slice (some ⟨g, 0, none⟩) 257 c := by rw [HA.out]; exact hf.h9
     refine wpOp_step rfl fun K hK => ?_
     go_simp
     exact hK _ _ ⟨upd f 261 _, by rw [HA.out]; rfl, hf.upd 261 (by decide) _, h.same 54 _ (.con (.slice (some ⟨g, 0, none⟩) 257 c)) (by rw [HV.out]; rfl) rfl⟩
   · have t257 : a'.tmps[257]? = some (.bool false) := by rw [HA.out]; exact congrArg some (h.get 50 (hw _ rfl ⟨50, .guard⟩ (by simp) rfl) (.con (.bool false)) (by rw [HV.out]; rfl) : f 257 = _)
     have t261 : a'.tmps[261]?.getD undef = .slice (some ⟨g, 0, none⟩) 257 c := by rw [HA.out]; exact (h.get 54 (hw _ rfl ⟨54, .data⟩ (by simp) rfl) (.con (.slice (some ⟨g, 0, none⟩) 257 c)) (by rw [HV.out]; rfl) : f 261 = _)
     have hgc : 257 ≤ c := HGC.out
     refine wpOp_step rfl fun K hK => ?_
     go_simp
     exact hK _ _ ⟨upd f 262 _, by rw [HA.out]; rfl, hf.upd 262 (by decide) _, h.same 55 _ (.con (.pointer (some ⟨g, 0, none⟩))) (by rw [HV.out]; rfl) rfl⟩
   · have t257 : a'.tmps[257]? = some (.bool false) := by rw [HA.out]; exact congrArg some (h.get 50 (hw _ rfl ⟨50, .guard⟩ (by simp) rfl) (.con (.bool false)) (by rw [HV.out]; rfl) : f 257 = _)
     have t262 : a'.tmps[262]?.getD undef = .pointer (some ⟨g, 0, none⟩) := by rw [HA.out]; exact (h.get 55 (hw _ rfl ⟨55, .data⟩ (by simp) rfl) (.con (.pointer (some ⟨g, 0, none⟩))) (by rw [HV.out]; rfl) : f 262 = _)
     obtain ⟨m0, m1, m2, k0, k1, k2, a0, a1, a2, a3, a4, a5, a6, a7⟩ := HC.out w' h.1
     refine wpOp_step rfl fun K hK => ?_
     go_simp
     exact hK _ _ ⟨upd f 263 _, by rw [HA.out]; rfl, hf.upd 263 (by decide) _, h.same 56 _ (.con (.agg #[.string (nameN 0), .int .i64 1, .int .i64 (-1), .slice none 0 0])) (by rw [HV.out]; rfl) rfl⟩
   · have t257 : a'.tmps[257]? = some (.bool false) := by rw [HA.out]; exact congrArg some (h.get 50 (hw _ rfl ⟨50, .guard⟩ (by simp) rfl) (.con (.bool false)) (by rw [HV.out]; rfl) : f 257 = _)
     have t260 : a'.tmps[260]?.getD undef = .agg #[.string (nameN 0), .int .i64 1, .int .i64 (-1), .slice none 0 0] := by rw [HA.out]; exact (h.get 53 (hw _ rfl ⟨53, .data⟩ (by simp) rfl) (.con (.agg #[.string (nameN 0), .int .i64 1, .int .i64 (-1), .slice none 0 0])) (by rw [HV.out]; rfl) : f 260 = _)
     have t263 : a'.tmps[263]?.getD undef = .agg #[.string (nameN 0), .int .i64 1, .int .i64 (-1), .slice none 0 0] := by rw [HA.out]; exact (h.get 56 (hw _ rfl ⟨56, .data⟩ (by simp) rfl) (.con (.agg #[.string (nameN 0), .int .i64 1, .int .i64 (-1), .slice none 0 0])) (by rw [HV.out]; rfl) : f 263 = _)
     refine wpOp_step rfl fun K hK => ?_
     go_simp
     exact hK _ _ ⟨upd f 264 _, by rw [HA.out]; rfl, hf.upd 264 (by decide) _, h.new _ 57 _ (.row W.heap.size 2 36 #[.string (nameN 0), .int .i64 1, .int .i64 (-1), .slice none 0 0, .string (nameN 0), .int .i64 1, .int .i64 (-1), .slice none 0 0]) (by rw [HV.out]; rfl) (IsRow.made _ hsz)⟩
   · have t257 : a'.tmps[257]? = some (.bool false) := by rw [HA.out]; exact congrArg some (h.get 50 (hw _ rfl ⟨50, .guard⟩ (by simp) rfl) (.con (.bool false)) (by rw [HV.out]; rfl) : f 257 = _)
     obtain ⟨bq, kq, eq, mq⟩ := h.get 57 (hw _ rfl ⟨57, .data⟩ (by simp) rfl) (.row W.heap.size 2 36 #[.string (nameN 0), .int .i64 1, .int .i64 (-1), .slice none 0 0, .string (nameN 0), .int .i64 1, .int .i64 (-1), .slice none 0 0]) (by rw [HV.out]; rfl)
     have t264 : a'.tmps[264]?.getD undef = .slice (some ⟨bq, 0, none⟩) 2 2 := by rw [HA.out]; exact eq
     clear eq
     refine wpOp_step rfl fun K hK => ?_
     go_simp
     exact hK _ _ ⟨upd f 265 _, by rw [HA.out]; rfl, hf.upd 265 (by decide) _, h.same 58 _ (.snap2 36 #[.string (nameN 0), .int .i64 1, .int .i64 (-1), .slice none 0 0, .string (nameN 0), .int .i64 1, .int .i64 (-1), .slice none 0 0]) (by rw [HV.out]; rfl) ⟨bq, rfl, mq⟩⟩
   · have t257 : a'.tmps[257]? = some (.bool false) := by rw [HA.out]; exact congrArg some (h.get 50 (hw _ rfl ⟨50, .chain⟩ (by simp) rfl) (.con (.bool false)) (by rw [HV.out]; rfl) : f 257 = _)
     obtain ⟨bq, eq, mq⟩ := h.get 58 (hw _ rfl ⟨58, .data⟩ (by simp) rfl) (.snap2 36 #[.string (nameN 0), .int .i64 1, .int .i64 (-1), .slice none 0 0, .string (nameN 0), .int .i64 1, .int .i64 (-1), .slice none 0 0]) (by rw [HV.out]; rfl)
     have t265 : a'.tmps[265]?.getD undef = .agg #[.int .i64 1, .int .i64 0, .slice (some ⟨bq, 0, none⟩) 2 2] := by rw [HA.out]; exact eq
     clear eq
     refine wpOp_step rfl fun K hK => ?_
     go_simp
     refine (mayTwo 0 0 (by decide) (by decide) few_may.2.2.2.2.2 mq (HT.out w' h.1).1 (HT.out w' h.1).2).mono ?_
     rintro e w2 ⟨rfl, hb2⟩
     exact hK _ _ ⟨upd f 266 _, by rw [HA.out]; rfl, hf.upd 266 (by decide) _, h.did hb2 59 _ (.con (.bool false)) (by rw [HV.out]; rfl) rfl⟩
   · have t257 : a'.tmps[257]?.getD undef = .bool false := by rw [HA.out]; exact (h.get 50 (hw _ rfl ⟨50, .data⟩ (by simp) rfl) (.con (.bool false)) (by rw [HV.out]; rfl) : f 257 = _)
     have t266 : a'.tmps[266]?.getD undef = .bool false := by rw [HA.out]; exact (h.get 59 (hw _ rfl ⟨59, .data⟩ (by simp) rfl) (.con (.bool false)) (by rw [HV.out]; rfl) : f 266 = _)
     refine wpOp_step rfl fun K hK => ?_
     go_simp
     exact hK _ _ ⟨upd f 267 _, by rw [HA.out]; rfl, hf.upd 267 (by decide) _, h.same 60 _ (.con (.bool false)) (by rw [HV.out]; rfl) rfl⟩
   · omega
 case last =>
   rintro d a' w' hall ⟨f, rfl, hf, h⟩
   have hle := h.1
   have e267 : f 267 = .bool false := h.get 60 (hall 60 (by omega)) (.con (.bool false)) (by rw [HV.out]; rfl)
   go_step
   go_step
   exact HK.out f w' hf.fix hle e267
theorem pinsN_two : (pinsN 257).take 2 = [pinN 0, pinN 1] := by kernel_rfl
theorem pinsN_hs (k : Nat) : ∀ p ∈ pinsN k, p.hs = [] := fun p hp => by
 unfold pinsN at hp
 obtain ⟨i, _, rfl⟩ := List.mem_map.1 hp
 rfl
theorem most_of : snapOfA (snapJ ⟨1, 253402300799, pinsN 256⟩) = (⟨1, 253402300799, pinsN 256⟩, 0) := by
 unfold snapOfA
 rw [if_neg (by rw [snapJ_may most_may]; decide), if_neg (by simp [snapJ, snapO, JV.kind]), snap_back most_may]
set_option maxHeartbeats 16000000 in
set_option maxRecDepth 100000 in
theorem lawNamesF (W : World) (B0 : Nat) (p1 p2 p4 : Value) (f : Nat → Value) (Q : Exit → Act → World → Prop) (hfix : FixN p1 p2 p4 f) (hown : W.ownsRow B0 36 4 (f 9) 257 ((pinsN 257).flatMap encP)) (hT : TabW W) (hP10 : Pow10 W)
   (hK : ∀ (f' : Nat → Value) (w' : World), FixN p1 p2 p4 f' → Below W.heap.size W w' → Code.wp Tryz.prog (tailCode 12 (Tryz.f6.body.getD .skip)) Q (frN f') w') :
   Code.wp Tryz.prog (tailCode 8 (Tryz.f6.body.getD .skip)) Q (frN f) W := by
 conv => arg 2; whnf
 obtain ⟨g, c, e9, hgc, hgl⟩ : ∃ g c, f 9 = .slice (some ⟨g, 0, none⟩) 257 c ∧ 257 ≤ c ∧ g < W.heap.size := by
   rcases hown.2 with ⟨h0, h1⟩ | ⟨g, cap, cur, hv, hg, hh, hc, _⟩
   · exact absurd h1 (by decide)
   · exact ⟨g, cap, hv, hc, heap_lt hh⟩
 rw [e9] at hown
 have hx0 : ∀ j u, (encP (pinN 0) ++ encP (pinN 1))[j]? = some u → W.cell? ⟨g, j, none⟩ = some u := fun j u hj => by
   have e : (pinsN 257).flatMap encP = (encP (pinN 0) ++ encP (pinN 1)) ++ ((pinsN 257).drop 2).flatMap encP := by
     rw [← List.take_append_drop 2 (pinsN 257), List.flatMap_append, pinsN_two]
     simp
   have := hown.cells (g := g) rfl j u (by rw [e, List.getElem?_append_left (List.getElem?_eq_some_iff.1 hj).1]; exact hj)
   rw [addr_addN] at this
   exact this
 have hp0 : PinsAt W 0 W.heap.size (some ⟨g, 0, none⟩) (pinsN 257) := by
   have := owns_pins (l := pinsN 257) (by rw [pinsN_len]; exact hown) (pinsN_hs 257)
   exact this.carry (Nat.zero_le _) (Nat.le_refl _) (fun _ _ _ => rfl)
 have hfr : frN f = ⟨#[f 0, f 1, f 2, f 3, f 4, f 5, f 6, f 7, f 8, .slice (some ⟨g, 0, none⟩) 257 c, f 10, f 11, f 12, f 13, f 14, f 15, f 16, f 17, f 18, f 19, f 20, f 21, f 22, f 23, f 24, f 25, f 26, f 27, f 28, f 29, f 30, f 31, f 32, f 33, f 34, f 35, f 36, f 37, f 38, f 39, f 40, f 41, f 42, f 43, f 44, f 45, f 46, f 47, f 48, f 49, f 50, f 51, f 52, f 53, f 54, f 55, f 56, f 57, f 58, f 59, f 60, f 61, f 62, f 63, f 64, f 65, f 66, f 67, f 68, f 69, f 70, f 71, f 72, f 73, f 74, f 75, f 76, f 77, f 78, f 79, f 80, f 81, f 82, f 83, f 84, f 85, f 86, f 87, f 88, f 89, f 90, f 91, f 92, f 93, f 94, f 95, f 96, f 97, f 98, f 99, f 100, f 101, f 102, f 103, f 104, f 105, f 106, f 107, f 108, f 109, f 110, f 111, f 112, f 113, f 114, f 115, f 116, f 117, f 118, f 119, f 120, f 121, f 122, f 123, f 124, f 125, f 126, f 127, f 128, f 129, f 130, f 131, f 132, f 133, f 134, f 135, f 136, f 137, f 138, f 139, f 140, f 141, f 142, f 143, f 144, f 145, f 146, f 147, f 148, f 149, f 150, f 151, f 152, f 153, f 154, f 155, f 156, f 157, f 158, f 159, f 160, f 161, f 162, f 163, f 164, f 165, f 166, f 167, f 168, f 169, f 170, f 171, f 172, f 173, f 174, f 175, f 176, f 177, f 178, f 179, f 180, f 181, f 182, f 183, f 184, f 185, f 186, f 187, f 188, f 189, f 190, f 191, f 192, f 193, f 194, f 195, f 196, f 197, f 198, f 199, f 200, f 201, f 202, f 203, f 204, f 205, f 206, f 207, f 208, f 209, f 210, f 211, f 212, f 213, f 214, f 215, f 216, f 217, f 218, f 219, f 220, f 221, f 222, f 223, f 224, f 225, f 226, f 227, f 228, f 229, f 230, f 231, f 232, f 233, f 234, f 235, f 236, f 237, f 238, f 239, f 240, f 241, f 242, f 243, f 244, f 245, f 246, f 247, f 248, f 249, f 250, f 251, f 252, f 253, f 254, f 255, f 256, f 257, f 258, f 259, f 260, f 261, f 262, f 263, f 264, f 265, f 266, f 267, f 268, f 269, f 270, f 271, f 272, f 273, f 274, f 275, f 276, f 277, f 278, f 279, f 280, f 281, f 282, f 283, f 284, f 285, f 286, f 287, f 288, f 289, f 290, f 291, f 292, f 293, f 294, f 295, f 296, f 297, f 298, f 299, f 300, f 301, f 302, f 303, f 304, f 305], []⟩ := by simp only [frN, e9]
 rw [hfr]
 dsimp only
 have HP := Lib.hid (show ∀ w', Below W.heap.size W w' → PinsAt w' 0 w'.heap.size (some ⟨g, 0, none⟩) (pinsN 257) from fun w' h => hp0.below h (Nat.le_refl _) (Nat.le_refl _) h.size)
 have HT := Lib.hid (show ∀ w', Below W.heap.size W w' → TabW w' ∧ Pow10 w' from fun w' h => ⟨hT.below h, hP10.below h⟩)
 have HF := Lib.hid hfix
 have HK := Lib.hid hK
 have HX0 := Lib.hid hx0
 have hgz : 0 < W.heap.size := by omega
 clear hfix hown hT hP10 hK hx0 hp0 hfr e9
 obtain ⟨W2, hW2⟩ : ∃ W2, W2 = W.alloc (.cells #[.int .i64 1, .int .i64 253402300799, .slice (some ⟨g, 0, none⟩) 256 c] 24) := ⟨_, rfl⟩
 have hb2 : Below W.heap.size W W2 := by rw [hW2]; exact (Below.refl _ _).alloc (Nat.le_refl _) _
 have HM := Lib.hid (show W2.heap[W.heap.size]? = some (.cells #[.int .i64 1, .int .i64 253402300799, .slice (some ⟨g, 0, none⟩) 256 c] 24 (0, 0)) by rw [hW2]; exact heap_alloc_new W _)
 have HB2 := Lib.hid hb2
 have HW2 := Lib.hid hW2
 clear hW2 hb2
 go_upto_region 19 with fail
 rw [← HW2.out]
 clear HW2
 have hsv := snapValue 1 253402300799 (pinsN 256) (some ⟨g, 0, none⟩) c W2 (pins_take (HP.out W2 HB2.out) (by decide)) (pinsN_fits 256 (by decide)) (HT.out W2 HB2.out).1 (HT.out W2 HB2.out).2 most_may (pins_made (maySnap_parts.1 most_may).2.2.2.1) (fun p hp => Nat.le_trans (pinJ_wt (List.all_eq_true.1 (maySnap_parts.1 most_may).2.2.2.1 p hp)) (by decide)) (Nat.le_trans (metaJ_wt (maySnap_parts.1 most_may).2.2.2.1 (maySnap_parts.1 most_may).2.2.1) (by decide))
 rw [pinsN_len] at hsv
 have HSV := Lib.hid hsv
 clear hsv
 have x0 := box_cell HM.out (j := 0) rfl; have x1 := box_cell HM.out (j := 1) rfl; have x2 := box_cell HM.out (j := 2) rfl
 go_wp2_with fail
 refine HSV.out.mono ?_
 rintro r w3 ⟨an, cn, ai, ci, rfl, hr3, hb3⟩
 clear x0 x1 x2 HSV
 obtain ⟨W4, hW4⟩ : ∃ W4, W4 = w3.alloc (.cells #[.int .u8 5, .int .i64 0, .string { data := #[] }, .slice an 4 cn, .slice ai 4 ci] 30) := ⟨_, rfl⟩
 have hb4 : Below w3.heap.size w3 W4 := by rw [hW4]; exact (Below.refl _ _).alloc (Nat.le_refl _) _
 have HV := Lib.hid (show W4.heap[w3.heap.size]? = some (.cells #[.int .u8 5, .int .i64 0, .string { data := #[] }, .slice an 4 cn, .slice ai 4 ci] 30 (0, 0)) by rw [hW4]; exact heap_alloc_new w3 _)
 have hb24 : Below W2.heap.size W2 W4 := hb3.trans (hb4.mono hb3.size)
 have HB4 := Lib.hid (HB2.out.trans (hb24.mono HB2.out.size))
 replace HM := Lib.hid ((hb24.block _ (heap_lt HM.out)).trans HM.out)
 have hr4 : Rep W4 W2.heap.size W4.heap.size (snapJ ⟨1, 253402300799, pinsN 256⟩) (.agg #[.int .u8 5, .int .i64 0, .string { data := #[] }, .slice an 4 cn, .slice ai 4 ci]) := hr3.below (B := w3.heap.size) hb4 (Nat.le_refl _) (Nat.le_refl _) hb4.size
 have hof := snapOfOwn (snapJ ⟨1, 253402300799, pinsN 256⟩) _ W4 W2.heap.size (Nat.lt_of_lt_of_le hgz HB2.out.size) (by have := @valR_wt ⟨1, 253402300799, pinsN 256⟩; unfold valR at this; rwa [if_pos most_may] at this) hr4 (HT.out W4 HB4.out).1
 rw [most_of] at hof
 dsimp only at hof
 rw [pinsN_len] at hof
 have HOF := Lib.hid hof
 have HW4 := Lib.hid hW4
 clear hW4 hb3 hb4 hb24 hr3 hr4 hof
 go_upto_region 20 with fail
 rw [← HW4.out]
 clear HW4
 have x0 := box_cell HV.out (j := 0) rfl; have x1 := box_cell HV.out (j := 1) rfl; have x2 := box_cell HV.out (j := 2) rfl; have x3 := box_cell HV.out (j := 3) rfl; have x4 := box_cell HV.out (j := 4) rfl
 go_wp2_with fail
 refine HOF.out.mono ?_
 rintro r w5 ⟨qs, ta, tc, rfl, hown5, hqs, hb5⟩
 clear x0 x1 x2 x3 x4 HOF
 obtain ⟨W6, hW6⟩ : ∃ W6, W6 = w5.alloc (.cells #[.int .i64 1, .int .i64 253402300799, .slice ta 256 tc] 24) := ⟨_, rfl⟩
 have hb6 : Below w5.heap.size w5 W6 := by rw [hW6]; exact (Below.refl _ _).alloc (Nat.le_refl _) _
 have HS := Lib.hid (show W6.heap[w5.heap.size]? = some (.cells #[.int .i64 1, .int .i64 253402300799, .slice ta 256 tc] 24 (0, 0)) by rw [hW6]; exact heap_alloc_new w5 _)
 have hb46 : Below W4.heap.size W4 W6 := hb5.trans (hb6.mono hb5.size)
 have HB6 := Lib.hid (HB4.out.trans (hb46.mono HB4.out.size))
 replace HM := Lib.hid ((hb46.block _ (heap_lt HM.out)).trans HM.out)
 obtain ⟨hql, hpt⟩ := hown5.pins
 rw [hqs] at hpt
 have HPT := Lib.hid (hpt.below hb6 (Nat.le_refl _) (Nat.zero_le _) hb6.size)
 have HW6 := Lib.hid hW6
 clear hW6 hb5 hb6 hb46 hown5 hqs hql hpt HV
 go_upto_region 21 with fail
 rw [← HW6.out]
 clear HW6
 refine Eq.mpr (congrArg (fun a => Code.wp _ _ _ a _) (frN_of _ rfl)) ?_
 refine lawNamesH W6 p1 p2 p4 _ g c W.heap.size w5.heap.size tc ta _ _ ⟨HF.out.h1, HF.out.h2, HF.out.h3, HF.out.h4⟩ hgc (HT.out W6 HB6.out).1 (HT.out W6 HB6.out).2 rfl rfl rfl rfl rfl HM.out HS.out (HP.out W6 HB6.out) HPT.out (fun j u hj => (World.cell?_of_block (HB6.out.block g hgl)).trans (HX0.out j u hj)) (Nat.lt_of_lt_of_le hgl HB6.out.size) (fun f' w' hf' hb' e267 => ?_)
 go_step
 rw [show frN f' = ⟨#[f' 0, f' 1, f' 2, f' 3, f' 4, f' 5, f' 6, f' 7, f' 8, f' 9, f' 10, f' 11, f' 12, f' 13, f' 14, f' 15, f' 16, f' 17, f' 18, f' 19, f' 20, f' 21, f' 22, f' 23, f' 24, f' 25, f' 26, f' 27, f' 28, f' 29, f' 30, f' 31, f' 32, f' 33, f' 34, f' 35, f' 36, f' 37, f' 38, f' 39, f' 40, f' 41, f' 42, f' 43, f' 44, f' 45, f' 46, f' 47, f' 48, f' 49, f' 50, f' 51, f' 52, f' 53, f' 54, f' 55, f' 56, f' 57, f' 58, f' 59, f' 60, f' 61, f' 62, f' 63, f' 64, f' 65, f' 66, f' 67, f' 68, f' 69, f' 70, f' 71, f' 72, f' 73, f' 74, f' 75, f' 76, f' 77, f' 78, f' 79, f' 80, f' 81, f' 82, f' 83, f' 84, f' 85, f' 86, f' 87, f' 88, f' 89, f' 90, f' 91, f' 92, f' 93, f' 94, f' 95, f' 96, f' 97, f' 98, f' 99, f' 100, f' 101, f' 102, f' 103, f' 104, f' 105, f' 106, f' 107, f' 108, f' 109, f' 110, f' 111, f' 112, f' 113, f' 114, f' 115, f' 116, f' 117, f' 118, f' 119, f' 120, f' 121, f' 122, f' 123, f' 124, f' 125, f' 126, f' 127, f' 128, f' 129, f' 130, f' 131, f' 132, f' 133, f' 134, f' 135, f' 136, f' 137, f' 138, f' 139, f' 140, f' 141, f' 142, f' 143, f' 144, f' 145, f' 146, f' 147, f' 148, f' 149, f' 150, f' 151, f' 152, f' 153, f' 154, f' 155, f' 156, f' 157, f' 158, f' 159, f' 160, f' 161, f' 162, f' 163, f' 164, f' 165, f' 166, f' 167, f' 168, f' 169, f' 170, f' 171, f' 172, f' 173, f' 174, f' 175, f' 176, f' 177, f' 178, f' 179, f' 180, f' 181, f' 182, f' 183, f' 184, f' 185, f' 186, f' 187, f' 188, f' 189, f' 190, f' 191, f' 192, f' 193, f' 194, f' 195, f' 196, f' 197, f' 198, f' 199, f' 200, f' 201, f' 202, f' 203, f' 204, f' 205, f' 206, f' 207, f' 208, f' 209, f' 210, f' 211, f' 212, f' 213, f' 214, f' 215, f' 216, f' 217, f' 218, f' 219, f' 220, f' 221, f' 222, f' 223, f' 224, f' 225, f' 226, f' 227, f' 228, f' 229, f' 230, f' 231, f' 232, f' 233, f' 234, f' 235, f' 236, f' 237, f' 238, f' 239, f' 240, f' 241, f' 242, f' 243, f' 244, f' 245, f' 246, f' 247, f' 248, f' 249, f' 250, f' 251, f' 252, f' 253, f' 254, f' 255, f' 256, f' 257, f' 258, f' 259, f' 260, f' 261, f' 262, f' 263, f' 264, f' 265, f' 266, .bool false, f' 268, f' 269, f' 270, f' 271, f' 272, f' 273, f' 274, f' 275, f' 276, f' 277, f' 278, f' 279, f' 280, f' 281, f' 282, f' 283, f' 284, f' 285, f' 286, f' 287, f' 288, f' 289, f' 290, f' 291, f' 292, f' 293, f' 294, f' 295, f' 296, f' 297, f' 298, f' 299, f' 300, f' 301, f' 302, f' 303, f' 304, f' 305], []⟩ from by simp only [frN, e267]]
 dsimp only
 clear e267
 go_step
 go_step
 go_step
 rw [frN_of]
 · go_step
   exact HK.out _ w' ⟨hf'.h1, hf'.h2, hf'.h3, hf'.h4⟩ (HB6.out.trans (hb'.mono HB6.out.size))
 · rfl
def rows8 : List (PinV × Bool) := [(⟨aJsN, 1, 0, []⟩, true), (⟨aN, 1, 0, []⟩, false), (⟨aJsN, 0, 0, []⟩, false), (⟨aJsN, 1099511627776, 1099511627776, []⟩, true), (⟨aJsN, 1, (-2), []⟩, false), (⟨aJsN, 1, 1099511627777, []⟩, false), (⟨aJsN, 1099511627777, 0, []⟩, false), (⟨aJsN, 1, 0, [({ data := #[] }, { data := #[] })]⟩, false)]
theorem rows8_may : ∀ r ∈ rows8, mayPin r.1 = r.2 := by decide +kernel
theorem rows8_small : ∀ r ∈ rows8, r.1.name.size ≤ 9223372036854775807 ∧ r.1.hs.length ≤ 9223372036854775807 ∧ ∀ k ∈ r.1.hs, k.1.size ≤ 9223372036854775807 ∧ k.2.size ≤ 9223372036854775807 := by decide +kernel
theorem aPin_of : pinOfA aN pJ1 = (pinZ, 3) := by kernel_rfl
theorem pJ1_wt : pJ1.wt ≤ 4294967296 := by decide +kernel
def PinB (w : World) (cs : Array Value) (o : Nat) (r : PinV × Bool) : Prop := ∃ ha hc, cs[o]? = some (.string r.1.name) ∧ cs[o + 1]? = some (.int .i64 r.1.ver) ∧ cs[o + 2]? = some (.int .i64 r.1.len) ∧ cs[o + 3]? = some (.slice ha r.1.hs.length hc) ∧ cs[o + 4]? = some (.bool r.2) ∧ KeysAt w 0 w.heap.size ha r.1.hs
theorem keys_one {w : World} {b : Nat} (h : w.heap[b]? = some (.cells #[.string { data := #[] }, .string { data := #[] }] 62 (0, 0))) : KeysAt w 0 w.heap.size (some ⟨b, 0, none⟩) [({ data := #[] }, { data := #[] })] := by
 refine .inr ⟨b, 0, rfl, Nat.zero_le _, heap_lt h, fun i hi => ?_⟩
 match i, hi with
 | 0, _ => exact ⟨box_cell h rfl, box_cell h rfl⟩
set_option maxHeartbeats 16000000 in
set_option maxRecDepth 100000 in
theorem lawNamesI (w0 W : World) (B b1 : Nat) (p2 p4 c0 c1 c2 c3 c4 : Value) (f : Nat → Value) (hfix : FixN (.pointer (some ⟨b1, 0, none⟩)) p2 p4 f) (hB0 : 0 < B) (hb0 : Below w0.heap.size w0 W)
   (hx : W.heap[b1]? = some (.cells #[c0, c1, c2, c3, c4] 30 (0, 0))) (hr : HasRep B pJ1 W (.agg #[c0, c1, c2, c3, c4])) :
   Code.wp Tryz.prog (tailCode 12 (Tryz.f6.body.getD .skip)) (bodyPost Tryz.prog Tryz.f6 fun r w' => r = .returned (.bool true) ∧ Below w0.heap.size w0 w') (frN f) W := by
 conv => arg 2; whnf
 have hfr : frN f = ⟨#[f 0, .pointer (some ⟨b1, 0, none⟩), f 2, f 3, f 4, f 5, f 6, f 7, f 8, f 9, f 10, f 11, f 12, f 13, f 14, f 15, f 16, f 17, f 18, f 19, f 20, f 21, f 22, f 23, f 24, f 25, f 26, f 27, f 28, f 29, f 30, f 31, f 32, f 33, f 34, f 35, f 36, f 37, f 38, f 39, f 40, f 41, f 42, f 43, f 44, f 45, f 46, f 47, f 48, f 49, f 50, f 51, f 52, f 53, f 54, f 55, f 56, f 57, f 58, f 59, f 60, f 61, f 62, f 63, f 64, f 65, f 66, f 67, f 68, f 69, f 70, f 71, f 72, f 73, f 74, f 75, f 76, f 77, f 78, f 79, f 80, f 81, f 82, f 83, f 84, f 85, f 86, f 87, f 88, f 89, f 90, f 91, f 92, f 93, f 94, f 95, f 96, f 97, f 98, f 99, f 100, f 101, f 102, f 103, f 104, f 105, f 106, f 107, f 108, f 109, f 110, f 111, f 112, f 113, f 114, f 115, f 116, f 117, f 118, f 119, f 120, f 121, f 122, f 123, f 124, f 125, f 126, f 127, f 128, f 129, f 130, f 131, f 132, f 133, f 134, f 135, f 136, f 137, f 138, f 139, f 140, f 141, f 142, f 143, f 144, f 145, f 146, f 147, f 148, f 149, f 150, f 151, f 152, f 153, f 154, f 155, f 156, f 157, f 158, f 159, f 160, f 161, f 162, f 163, f 164, f 165, f 166, f 167, f 168, f 169, f 170, f 171, f 172, f 173, f 174, f 175, f 176, f 177, f 178, f 179, f 180, f 181, f 182, f 183, f 184, f 185, f 186, f 187, f 188, f 189, f 190, f 191, f 192, f 193, f 194, f 195, f 196, f 197, f 198, f 199, f 200, f 201, f 202, f 203, f 204, f 205, f 206, f 207, f 208, f 209, f 210, f 211, f 212, f 213, f 214, f 215, f 216, f 217, f 218, f 219, f 220, f 221, f 222, f 223, f 224, f 225, f 226, f 227, f 228, f 229, f 230, f 231, f 232, f 233, f 234, f 235, f 236, f 237, f 238, f 239, f 240, f 241, f 242, f 243, f 244, f 245, f 246, f 247, f 248, f 249, f 250, f 251, f 252, f 253, f 254, f 255, f 256, f 257, f 258, f 259, f 260, f 261, f 262, f 263, f 264, f 265, f 266, f 267, f 268, f 269, f 270, f 271, f 272, f 273, f 274, f 275, f 276, f 277, f 278, f 279, f 280, f 281, f 282, f 283, f 284, f 285, f 286, f 287, f 288, f 289, f 290, f 291, f 292, f 293, f 294, f 295, f 296, f 297, f 298, f 299, f 300, f 301, f 302, f 303, f 304, f 305], []⟩ := by simp only [frN, hfix.h1]
 rw [hfr]
 dsimp only
 have HB0 := Lib.hid hb0
 have HX := Lib.hid hx
 have HR := Lib.hid hr
 obtain ⟨W1, hW1⟩ : ∃ W1, W1 = W.alloc (.cells #[.string { data := #[] }, .string { data := #[] }] 62) := ⟨_, rfl⟩
 obtain ⟨W2, hW2⟩ : ∃ W2, W2 = W1.alloc (.cells #[.string { data := #[97, 46, 106, 115, 111, 110] }, .int .i64 1, .int .i64 0, .slice none 0 0, .bool true, .string { data := #[97] }, .int .i64 1, .int .i64 0, .slice none 0 0, .bool false, .string { data := #[97, 46, 106, 115, 111, 110] }, .int .i64 0, .int .i64 0, .slice none 0 0, .bool false, .string { data := #[97, 46, 106, 115, 111, 110] }, .int .i64 1099511627776, .int .i64 1099511627776, .slice none 0 0, .bool true, .string { data := #[97, 46, 106, 115, 111, 110] }, .int .i64 1, .int .i64 (-2), .slice none 0 0, .bool false, .string { data := #[97, 46, 106, 115, 111, 110] }, .int .i64 1, .int .i64 1099511627777, .slice none 0 0, .bool false, .string { data := #[97, 46, 106, 115, 111, 110] }, .int .i64 1099511627777, .int .i64 0, .slice none 0 0, .bool false, .string { data := #[97, 46, 106, 115, 111, 110] }, .int .i64 1, .int .i64 0, .slice (some ⟨W.heap.size, 0, none⟩) 1 1, .bool false] 60) := ⟨_, rfl⟩
 have hb1 : Below W.heap.size W W1 := by rw [hW1]; exact (Below.refl _ _).alloc (Nat.le_refl _) _
 have hb2 : Below W1.heap.size W1 W2 := by rw [hW2]; exact (Below.refl _ _).alloc (Nat.le_refl _) _
 have hz1 : W1.heap.size = W.heap.size + 1 := by rw [hW1]; simp
 have hh1 : W2.heap[W.heap.size]? = some (.cells #[.string { data := #[] }, .string { data := #[] }] 62 (0, 0)) := by rw [hb2.block _ (by omega), hW1]; exact heap_alloc_new W _
 have hh2 : W2.heap[W.heap.size + 1]? = some (.cells #[.string { data := #[97, 46, 106, 115, 111, 110] }, .int .i64 1, .int .i64 0, .slice none 0 0, .bool true, .string { data := #[97] }, .int .i64 1, .int .i64 0, .slice none 0 0, .bool false, .string { data := #[97, 46, 106, 115, 111, 110] }, .int .i64 0, .int .i64 0, .slice none 0 0, .bool false, .string { data := #[97, 46, 106, 115, 111, 110] }, .int .i64 1099511627776, .int .i64 1099511627776, .slice none 0 0, .bool true, .string { data := #[97, 46, 106, 115, 111, 110] }, .int .i64 1, .int .i64 (-2), .slice none 0 0, .bool false, .string { data := #[97, 46, 106, 115, 111, 110] }, .int .i64 1, .int .i64 1099511627777, .slice none 0 0, .bool false, .string { data := #[97, 46, 106, 115, 111, 110] }, .int .i64 1099511627777, .int .i64 0, .slice none 0 0, .bool false, .string { data := #[97, 46, 106, 115, 111, 110] }, .int .i64 1, .int .i64 0, .slice (some ⟨W.heap.size, 0, none⟩) 1 1, .bool false] 60 (0, 0)) := by rw [hW2, ← hz1]; exact heap_alloc_new W1 _
 obtain ⟨cs, hcs⟩ : ∃ cs : Array Value, cs = #[.string { data := #[97, 46, 106, 115, 111, 110] }, .int .i64 1, .int .i64 0, .slice none 0 0, .bool true, .string { data := #[97] }, .int .i64 1, .int .i64 0, .slice none 0 0, .bool false, .string { data := #[97, 46, 106, 115, 111, 110] }, .int .i64 0, .int .i64 0, .slice none 0 0, .bool false, .string { data := #[97, 46, 106, 115, 111, 110] }, .int .i64 1099511627776, .int .i64 1099511627776, .slice none 0 0, .bool true, .string { data := #[97, 46, 106, 115, 111, 110] }, .int .i64 1, .int .i64 (-2), .slice none 0 0, .bool false, .string { data := #[97, 46, 106, 115, 111, 110] }, .int .i64 1, .int .i64 1099511627777, .slice none 0 0, .bool false, .string { data := #[97, 46, 106, 115, 111, 110] }, .int .i64 1099511627777, .int .i64 0, .slice none 0 0, .bool false, .string { data := #[97, 46, 106, 115, 111, 110] }, .int .i64 1, .int .i64 0, .slice (some ⟨W.heap.size, 0, none⟩) 1 1, .bool false] := ⟨_, rfl⟩
 have HPB := Lib.hid (show ∀ i (h : i < rows8.length), PinB W2 cs (i * 5) rows8[i] from fun i hi => by
   subst hcs
   match i, hi with
   | 0, _ => exact ⟨none, 0, rfl, rfl, rfl, rfl, rfl, .inl rfl⟩
   | 1, _ => exact ⟨none, 0, rfl, rfl, rfl, rfl, rfl, .inl rfl⟩
   | 2, _ => exact ⟨none, 0, rfl, rfl, rfl, rfl, rfl, .inl rfl⟩
   | 3, _ => exact ⟨none, 0, rfl, rfl, rfl, rfl, rfl, .inl rfl⟩
   | 4, _ => exact ⟨none, 0, rfl, rfl, rfl, rfl, rfl, .inl rfl⟩
   | 5, _ => exact ⟨none, 0, rfl, rfl, rfl, rfl, rfl, .inl rfl⟩
   | 6, _ => exact ⟨none, 0, rfl, rfl, rfl, rfl, rfl, .inl rfl⟩
   | 7, _ => exact ⟨_, _, rfl, rfl, rfl, rfl, rfl, keys_one hh1⟩
   | n + 8, hn => exact absurd (show n + 8 < 8 from hn) (by omega))
 have HH := Lib.hid (show W2.heap[W.heap.size + 1]? = some (.cells cs 60 (0, 0)) by rw [hcs]; exact hh2)
 have HB2 := Lib.hid (show Below W.heap.size W W2 from hb1.trans (hb2.mono (by omega)))
 have HW := Lib.hid (show W2 = (W.alloc (.cells #[.string { data := #[] }, .string { data := #[] }] 62)).alloc (.cells #[.string { data := #[97, 46, 106, 115, 111, 110] }, .int .i64 1, .int .i64 0, .slice none 0 0, .bool true, .string { data := #[97] }, .int .i64 1, .int .i64 0, .slice none 0 0, .bool false, .string { data := #[97, 46, 106, 115, 111, 110] }, .int .i64 0, .int .i64 0, .slice none 0 0, .bool false, .string { data := #[97, 46, 106, 115, 111, 110] }, .int .i64 1099511627776, .int .i64 1099511627776, .slice none 0 0, .bool true, .string { data := #[97, 46, 106, 115, 111, 110] }, .int .i64 1, .int .i64 (-2), .slice none 0 0, .bool false, .string { data := #[97, 46, 106, 115, 111, 110] }, .int .i64 1, .int .i64 1099511627777, .slice none 0 0, .bool false, .string { data := #[97, 46, 106, 115, 111, 110] }, .int .i64 1099511627777, .int .i64 0, .slice none 0 0, .bool false, .string { data := #[97, 46, 106, 115, 111, 110] }, .int .i64 1, .int .i64 0, .slice (some ⟨W.heap.size, 0, none⟩) 1 1, .bool false] 60) by rw [hW2, hW1])
 have HBL := Lib.hid (heap_lt hh2)
 clear hfr hfix hb0 hx hr hW1 hW2 hb1 hb2 hz1 hh1 hh2 hcs
 go_wp2
 rw [← HW.out]
 clear HW
 go_loopw [288] (fun i wr => ∃ k : Nat, k ≤ 8 ∧ i = .int .i64 k ∧ Below W2.heap.size W2 wr) (fun i _ => 8 - (intOf i).toNat)
 case atStart => exact ⟨0, by omega, rfl, Below.refl _ _⟩
 case round =>
   obtain ⟨k, hk, rfl, hbw⟩ := hrel
   have HB := Lib.hid hbw
   clear hbw
   by_cases hlt : k < 8
   · have hkl : k < rows8.length := hlt
     have hlt' : (k : Int) < 8 := by omega
     obtain ⟨ha, hc, y0, y1, y2, y3, y4, hkeys⟩ := HPB.out k hkl
     have hmay := rows8_may rows8[k] (List.getElem_mem hkl)
     obtain ⟨s1, s2, s3⟩ := rows8_small rows8[k] (List.getElem_mem hkl)
     generalize rows8[k] = r at y0 y1 y2 y3 y4 hkeys hmay s1 s2 s3
     obtain ⟨p, bt⟩ := r
     dsimp only at y0 y1 y2 y3 y4 hkeys hmay s1 s2 s3
     have hmw := (HB.out.block _ HBL.out).trans HH.out
     replace y0 := box_cell hmw y0; replace y1 := box_cell hmw y1; replace y2 := box_cell hmw y2; replace y3 := box_cell hmw y3; replace y4 := box_cell hmw y4
     have HMP := Lib.hid (show ∀ w', Below W2.heap.size W2 w' → Calls Tryz.prog 31 #[.agg #[.string p.name, .int .i64 p.ver, .int .i64 p.len, .slice ha p.hs.length hc]] w' (fun e w2 => e = .returned (.bool bt) ∧ Below w'.heap.size w' w2) from fun w' h => by
       have := snapMayPin p.name p.ver p.len p.hs ha hc w' (hkeys.below h (Nat.le_refl _) (Nat.le_refl _) h.size) s1 s2 s3
       rw [show mayPin ⟨p.name, p.ver, p.len, p.hs⟩ = bt from hmay] at this
       exact this)
     clear hkeys hmay s1 s2 s3 hmw
     obtain ⟨W3, hW3⟩ : ∃ W3, W3 = wr.alloc (.cells #[.string p.name, .int .i64 p.ver, .int .i64 p.len, .slice ha p.hs.length hc, .bool bt] 60) := ⟨_, rfl⟩
     have hbx : Below wr.heap.size wr W3 := by rw [hW3]; exact (Below.refl _ _).alloc (Nat.le_refl _) _
     have HX3 := Lib.hid (show W3.heap[wr.heap.size]? = some (.cells #[.string p.name, .int .i64 p.ver, .int .i64 p.len, .slice ha p.hs.length hc, .bool bt] 60 (0, 0)) by rw [hW3]; exact heap_alloc_new wr _)
     have HB3 := Lib.hid (HB.out.trans (hbx.mono HB.out.size))
     have HW3 := Lib.hid hW3
     clear hW3 hbx
     go_upto_region 26 with fail
     rw [← HW3.out]
     clear HW3 y0 y1 y2 y3 y4
     have HC3 := Lib.hid (show ∀ w', Below W3.heap.size W3 w' → w'.cell? ⟨wr.heap.size, 0, none⟩ = some (.string p.name) ∧ w'.cell? ⟨wr.heap.size, 1, none⟩ = some (.int .i64 p.ver) ∧ w'.cell? ⟨wr.heap.size, 2, none⟩ = some (.int .i64 p.len) ∧ w'.cell? ⟨wr.heap.size, 3, none⟩ = some (.slice ha p.hs.length hc) ∧ w'.cell? ⟨wr.heap.size, 4, none⟩ = some (.bool bt) from fun w' h => by
       have e := (h.block _ (heap_lt HX3.out)).trans HX3.out
       exact ⟨box_cell e rfl, box_cell e rfl, box_cell e rfl, box_cell e rfl, box_cell e rfl⟩)
     obtain ⟨V, hV⟩ : ∃ V : List MP, V = [.con (.pointer (some ⟨wr.heap.size, 0, none⟩)), .con (.agg #[.string p.name, .int .i64 p.ver, .int .i64 p.len, .slice ha p.hs.length hc]), .con (.bool bt), .con (.pointer (some ⟨wr.heap.size, 4, none⟩)), .con (.bool bt)] := ⟨_, rfl⟩
     have HV := Lib.hid hV
     clear hV
     refine wp_region_inv 5 (fun d a' w' => ∃ x292 x293 x294 x295 x296, a' = ⟨#[u0, Value.pointer (some { block := b1, off := 0 }), f 2, f 3, f 4, f 5, f 6, f 7, f 8, f 9, f 10, f 11, f 12, f 13, f 14, f 15, f 16, Value.pointer (some { block := wr.heap.size, off := 0 }), f 18, f 19, f 20, f 21, f 22, f 23, f 24, f 25, f 26, f 27, f 28, f 29, f 30, f 31, f 32, f 33, f 34, f 35, f 36, f 37, f 38, f 39, f 40, f 41, f 42, f 43, f 44, f 45, f 46, f 47, f 48, f 49, f 50, f 51, f 52, f 53, f 54, f 55, f 56, f 57, f 58, f 59, f 60, f 61, f 62, f 63, f 64, f 65, f 66, f 67, f 68, f 69, f 70, f 71, f 72, f 73, f 74, f 75, f 76, f 77, f 78, f 79, f 80, f 81, f 82, f 83, f 84, f 85, f 86, f 87, f 88, f 89, f 90, f 91, f 92, f 93, f 94, f 95, f 96, f 97, f 98, f 99, f 100, f 101, f 102, f 103, f 104, f 105, f 106, f 107, f 108, f 109, f 110, f 111, f 112, f 113, f 114, f 115, f 116, f 117, f 118, f 119, f 120, f 121, f 122, f 123, f 124, f 125, f 126, f 127, f 128, f 129, f 130, f 131, f 132, f 133, f 134, f 135, f 136, f 137, f 138, f 139, f 140, f 141, f 142, f 143, f 144, f 145, f 146, f 147, f 148, f 149, f 150, f 151, f 152, f 153, f 154, f 155, f 156, f 157, f 158, f 159, f 160, f 161, f 162, f 163, f 164, f 165, f 166, f 167, f 168, f 169, f 170, f 171, f 172, f 173, f 174, f 175, f 176, f 177, f 178, f 179, f 180, f 181, f 182, f 183, f 184, f 185, f 186, f 187, f 188, f 189, f 190, f 191, f 192, f 193, f 194, f 195, f 196, f 197, f 198, f 199, f 200, f 201, f 202, f 203, f 204, f 205, f 206, f 207, f 208, f 209, f 210, f 211, f 212, f 213, f 214, f 215, f 216, f 217, f 218, f 219, f 220, f 221, f 222, f 223, f 224, f 225, f 226, f 227, f 228, f 229, f 230, f 231, f 232, f 233, f 234, f 235, f 236, f 237, f 238, f 239, f 240, f 241, f 242, f 243, f 244, f 245, f 246, f 247, f 248, f 249, f 250, f 251, f 252, f 253, f 254, f 255, f 256, f 257, f 258, f 259, f 260, f 261, f 262, f 263, f 264, f 265, f 266, f 267, Value.agg #[Value.string { data := #[97, 46, 106, 115, 111, 110] }, Value.int IntKind.i64 1, Value.int IntKind.i64 0, Value.slice none 0 0], Value.agg #[Value.string { data := #[97, 46, 106, 115, 111, 110] }, Value.int IntKind.i64 1, Value.int IntKind.i64 0, Value.slice none 0 0, Value.bool true], Value.agg #[Value.string { data := #[97] }, Value.int IntKind.i64 1, Value.int IntKind.i64 0, Value.slice none 0 0], Value.agg #[Value.string { data := #[97] }, Value.int IntKind.i64 1, Value.int IntKind.i64 0, Value.slice none 0 0, Value.bool false], Value.agg #[Value.string { data := #[97, 46, 106, 115, 111, 110] }, Value.int IntKind.i64 0, Value.int IntKind.i64 0, Value.slice none 0 0], Value.agg #[Value.string { data := #[97, 46, 106, 115, 111, 110] }, Value.int IntKind.i64 0, Value.int IntKind.i64 0, Value.slice none 0 0, Value.bool false], Value.agg #[Value.string { data := #[97, 46, 106, 115, 111, 110] }, Value.int IntKind.i64 1099511627776, Value.int IntKind.i64 1099511627776, Value.slice none 0 0], Value.agg #[Value.string { data := #[97, 46, 106, 115, 111, 110] }, Value.int IntKind.i64 1099511627776, Value.int IntKind.i64 1099511627776, Value.slice none 0 0, Value.bool true], Value.agg #[Value.string { data := #[97, 46, 106, 115, 111, 110] }, Value.int IntKind.i64 1, Value.int IntKind.i64 (-2), Value.slice none 0 0], Value.agg #[Value.string { data := #[97, 46, 106, 115, 111, 110] }, Value.int IntKind.i64 1, Value.int IntKind.i64 (-2), Value.slice none 0 0, Value.bool false], Value.agg #[Value.string { data := #[97, 46, 106, 115, 111, 110] }, Value.int IntKind.i64 1, Value.int IntKind.i64 1099511627777, Value.slice none 0 0], Value.agg #[Value.string { data := #[97, 46, 106, 115, 111, 110] }, Value.int IntKind.i64 1, Value.int IntKind.i64 1099511627777, Value.slice none 0 0, Value.bool false], Value.agg #[Value.string { data := #[97, 46, 106, 115, 111, 110] }, Value.int IntKind.i64 1099511627777, Value.int IntKind.i64 0, Value.slice none 0 0], Value.agg #[Value.string { data := #[97, 46, 106, 115, 111, 110] }, Value.int IntKind.i64 1099511627777, Value.int IntKind.i64 0, Value.slice none 0 0, Value.bool false], Value.agg #[Value.string { data := #[] }, Value.string { data := #[] }], Value.slice (some { block := W.heap.size, off := 0 }) 1 1, Value.agg #[Value.string { data := #[97, 46, 106, 115, 111, 110] }, Value.int IntKind.i64 1, Value.int IntKind.i64 0, Value.slice (some { block := W.heap.size, off := 0 }) 1 1], Value.agg #[Value.string { data := #[97, 46, 106, 115, 111, 110] }, Value.int IntKind.i64 1, Value.int IntKind.i64 0, Value.slice (some { block := W.heap.size, off := 0 }) 1 1, Value.bool false], Value.slice (some { block := W.heap.size + 1, off := 0 }) 8 8, Value.int IntKind.i64 8, Value.int IntKind.i64 (k : Int), .bool true, Value.pointer (some { block := W.heap.size + 1, off := k * 5 }), Value.agg #[Value.string p.name, Value.int IntKind.i64 p.ver, Value.int IntKind.i64 p.len, Value.slice ha p.hs.length hc, Value.bool bt], x292, x293, x294, x295, x296, u297, u298, f 299, f 300, f 301, f 302, f 303, f 304, f 305], []⟩ ∧ RegI W3 V d w' [x292, x293, x294, x295, x296]) (by kernel_rfl) (by kernel_rfl) ?first ?step ?last
     case first => exact ⟨_, _, _, _, _, rfl, RegI.first _ _ _ (by rw [HV.out]; rfl)⟩
     case step =>
       rintro d a' w' ⟨x292, x293, x294, x295, x296, rfl, h⟩ q hq hn hw
       rcases q with _ | _ | _ | _ | _ | q
       · refine wpOp_step rfl fun K hK => ?_
         go_simp
         exact hK _ _ ⟨_, x293, x294, x295, x296, rfl, h.same 0 _ (.con (.pointer (some ⟨wr.heap.size, 0, none⟩))) (by rw [HV.out]; rfl) rfl⟩
       · obtain rfl : x292 = .pointer (some ⟨wr.heap.size, 0, none⟩) := h.get 0 (hw _ rfl ⟨0, .data⟩ (by simp) rfl) (.con (.pointer (some ⟨wr.heap.size, 0, none⟩))) (by rw [HV.out]; rfl) _ rfl
         obtain ⟨x0, x1, x2, x3, x4⟩ := HC3.out w' h.1
         refine wpOp_step rfl fun K hK => ?_
         go_simp
         exact hK _ _ ⟨_, _, x294, x295, x296, rfl, h.same 1 _ (.con (.agg #[.string p.name, .int .i64 p.ver, .int .i64 p.len, .slice ha p.hs.length hc])) (by rw [HV.out]; rfl) rfl⟩
       · obtain rfl : x293 = .agg #[.string p.name, .int .i64 p.ver, .int .i64 p.len, .slice ha p.hs.length hc] := h.get 1 (hw _ rfl ⟨1, .data⟩ (by simp) rfl) (.con (.agg #[.string p.name, .int .i64 p.ver, .int .i64 p.len, .slice ha p.hs.length hc])) (by rw [HV.out]; rfl) _ rfl
         obtain ⟨x0, x1, x2, x3, x4⟩ := HC3.out w' h.1
         refine wpOp_step rfl fun K hK => ?_
         go_simp
         refine (HMP.out w' (HB3.out.trans (h.1.mono HB3.out.size))).mono ?_
         rintro e w2 ⟨rfl, hb2⟩
         exact hK _ _ ⟨x292, _, _, x295, x296, rfl, h.did hb2 2 _ (.con (.bool bt)) (by rw [HV.out]; rfl) rfl⟩
       · refine wpOp_step rfl fun K hK => ?_
         go_simp
         exact hK _ _ ⟨x292, x293, x294, _, x296, rfl, h.same 3 _ (.con (.pointer (some ⟨wr.heap.size, 4, none⟩))) (by rw [HV.out]; rfl) rfl⟩
       · obtain rfl : x295 = .pointer (some ⟨wr.heap.size, 4, none⟩) := h.get 3 (hw _ rfl ⟨3, .data⟩ (by simp) rfl) (.con (.pointer (some ⟨wr.heap.size, 4, none⟩))) (by rw [HV.out]; rfl) _ rfl
         obtain ⟨x0, x1, x2, x3, x4⟩ := HC3.out w' h.1
         refine wpOp_step rfl fun K hK => ?_
         go_simp
         exact hK _ _ ⟨x292, x293, x294, _, _, rfl, h.same 4 _ (.con (.bool bt)) (by rw [HV.out]; rfl) rfl⟩
       · omega
     case last =>
       rintro d a' w' hall ⟨x292, x293, x294, x295, x296, rfl, h⟩
       have hle := h.1
       obtain rfl : x294 = .bool bt := h.get 2 (hall _ (by omega)) (.con (.bool bt)) (by rw [HV.out]; rfl) _ rfl
       obtain rfl : x296 = .bool bt := h.get 4 (hall _ (by omega)) (.con (.bool bt)) (by rw [HV.out]; rfl) _ rfl
       have HLE := Lib.hid hle
       clear h hall hle HV
       have hbb : (bt != bt) = false := by cases bt <;> rfl
       go_wp2
       go_roundw
       case rel => exact ⟨k + 1, by omega, by go_num, HB3.out.trans (HLE.out.mono HB3.out.size)⟩
       case measure => simp [intOf]; omega
   · obtain rfl : k = 8 := by omega
     have HBE := Lib.hid (HB2.out.trans (HB.out.mono HB2.out.size))
     have hx1 := (HBE.out.block _ (heap_lt HX.out)).trans HX.out
     obtain ⟨an, cn, ai, ci, hce, hrr⟩ := HR.out.mono HBE.out
     have x0 := box_cell hx1 (j := 0) rfl; have x1 := box_cell hx1 (j := 1) rfl; have x2 := box_cell hx1 (j := 2) rfl; have x3 := box_cell hx1 (j := 3) rfl; have x4 := box_cell hx1 (j := 4) rfl
     have HOP := Lib.hid (snapPinOfA aN pJ1 _ wr B wr.heap.size pJ1_wt hB0 (Nat.le_refl _) hrr (by decide))
     rw [aPin_of] at HOP
     clear hx1 hce hrr
     go_wp2_with fail
     refine HOP.out.mono ?_
     rintro r w9 ⟨qa, qc, rfl, -, -, hb9⟩
     have HB9 := Lib.hid (HB0.out.trans ((HBE.out.trans (hb9.mono HBE.out.size)).mono HB0.out.size))
     clear hb9 x0 x1 x2 x3 x4
     go_wp2
     go_ret
     exact ⟨rfl, HB9.out.alloc HB9.out.size _⟩
end Go.Proofs.YtgghgcilpfdbjaaGreatDoor
