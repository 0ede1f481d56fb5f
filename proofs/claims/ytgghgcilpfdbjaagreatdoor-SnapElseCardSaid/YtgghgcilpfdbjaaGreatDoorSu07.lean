/- The contracts of legateref04.Next, legateref04.Len, legateref08.Text. -/
import Derived.Test.YtgghgcilpfdbjaaGreatDoorSu04
import Derived.Test.YtgghgcilpfdbjaaGreatDoorSu00
import Derived.Test.YtgghgcilpfdbjaaGreatDoorSu06
import Derived.Laws.RangeAny
import Derived.Deep.QuietTactic
import Derived.BigQuiet
import Derived.Test.YtgghgcilpfdbjaaGreatDoorProg
import Derived.Lib.AppendIntMem
import Derived.Lib.ItoaLen
import Derived.Test.YtgghgcilpfdbjaaGreatDoorSu01
import Derived.Outline
import Derived.Test.YtgghgcilpfdbjaaGreatDoorSu03
import Derived.WalkKit
import Derived.WalkSpells
import Derived.WalkLawsBesides
import Derived.Lib.Hide
import Derived.BigRegion
import Derived.StillTailTactics
import Derived.IntWalk

namespace Go.Proofs.YtgghgcilpfdbjaaGreatDoor
open Go.RowKit
def utfBad (s : ByteArray) (pos : Nat) : Bool := ((Utf8.decode s pos).1 == 65533) && !Lib.hasPrefix (s.data.toList.drop pos) [239, 191, 189]
def utfOk (s : ByteArray) : Nat → Nat → Bool
 | 0, _ => true
 | f + 1, pos => if pos < s.size then (if utfBad s pos then false else utfOk s f (pos + (Utf8.decode s pos).2)) else true
def utfV (s : ByteArray) : Bool := utfOk s (s.size + 1) 0
def LenPost (s : ByteArray) (w : World) (e : Ending) (w' : World) : Prop := ∃ n : Int, e = .returned (.tuple #[.int .i64 n, .bool (utfV s)]) ∧ Below w.heap.size w w'
theorem decode_pos (s : ByteArray) (pos : Nat) : 1 ≤ (Utf8.decode s pos).2 := by
 unfold Utf8.decode; dsimp only; repeat' split
 all_goals omega
set_option maxHeartbeats 400000 in
theorem utfLen (s : ByteArray) (w : World) (hs : s.size ≤ 9223372036854775807) :
   Calls Tryz.prog 191 #[.string s] w (LenPost s w) := by
 go_enter Tryz.func191, Tryz.ntmps191
 go_wp2
 go_loopw [4, 5, 6] (fun v4 _ _ wr => ∃ (pos n f : Nat), n ≤ pos ∧ n ≤ s.size ∧ v4 = .int .i64 n ∧ wr = w.iter s pos ∧ utfOk s f pos = utfV s ∧ s.size + 1 ≤ f + pos) (fun _ _ _ wr => s.size - wr.iterPos w.heap.size)
 case atStart => exact ⟨0, 0, s.size + 1, by omega, by omega, rfl, rfl, rfl, by omega⟩
 case round =>
   obtain ⟨pos, n, f, hn, hn', rfl, rfl, hok, hf⟩ := hrel
   by_cases hlt : pos < s.size
   · obtain ⟨f, rfl⟩ : ∃ g, f = g + 1 := ⟨f - 1, by omega⟩
     have hdp := decode_pos s pos
     have hdl := decode_le s pos
     have hun : utfOk s (f + 1) pos = if utfBad s pos then false else utfOk s f (pos + (Utf8.decode s pos).2) := by rw [utfOk, if_pos hlt]
     have hbad : utfBad s pos = (((Utf8.decode s pos).1 == 65533) && !Lib.hasPrefix (s.data.toList.drop pos) [239, 191, 189]) := rfl
     have hnext := fun ty => run_next_any (P := Tryz.prog) w s pos ty hlt
     generalize (Utf8.decode s pos).1 = r at *
     generalize (Utf8.decode s pos).2 = d at *
     have hex : (s.extract pos s.size).data.toList = s.data.toList.drop pos := by
       rw [ByteArray.data_extract, Array.toList_extract, List.extract_eq_take_drop, List.take_of_length_le]; rw [List.length_drop, toList_length]; exact Nat.le_refl _
     have HEX := Lib.hid hex
     rw [hun] at hok
     have HOK := Lib.hid hok
     have HBD := Lib.hid hbad
     clear hok hun hbad hex
     by_cases hr : r = 65533
     · have hr' : ((r : Int) == 65533) = true := by simp [hr]
       have hr2 : (r == 65533) = true := by simp [hr]
       cases hp : Lib.hasPrefix (s.data.toList.drop pos) [239, 191, 189]
       · have HF := Lib.hid (show utfV s = false by rw [← HOK.out, HBD.out, hr2, hp]; rfl)
         have HP := Lib.hid hp
         clear hp hr2 hr
         go_wp2_with fail
         refine (Tryz.strings_HasPrefix _ _ _).mono ?_
         rintro e w2 ⟨rfl, rfl⟩
         rw [show Lib.hasPrefix (s.extract pos s.size).data.toList ({ data := #[239, 191, 189] } : ByteArray).data.toList = false by rw [HEX.out]; exact HP.out]
         go_wp2
         go_ret2
         exact ⟨0, by rw [HF.out]; rfl, (Below.refl _ _).alloc (Nat.le_refl _) _⟩
       · have HF := Lib.hid (show utfOk s f (pos + d) = utfV s by rw [← HOK.out, HBD.out, hr2, hp]; rfl)
         have HP := Lib.hid hp
         clear hp hr2 hr
         go_wp2_with fail
         refine (Tryz.strings_HasPrefix _ _ _).mono ?_
         rintro e w2 ⟨rfl, rfl⟩
         rw [show Lib.hasPrefix (s.extract pos s.size).data.toList ({ data := #[239, 191, 189] } : ByteArray).data.toList = true by rw [HEX.out]; exact HP.out]
         go_wp2
         go_roundw
         case rel => exact ⟨pos + d, n + 1, f, by omega, by omega, by go_num, rfl, HF.out, by omega⟩
         case measure => simp; omega
     · have hr' : ((r : Int) == 65533) = false := by simp; omega
       have hr2 : (r == 65533) = false := by simp [hr]
       have HF := Lib.hid (show utfOk s f (pos + d) = utfV s by rw [← HOK.out, HBD.out, hr2]; rfl)
       clear hr2 hr
       go_wp2
       go_roundw
       case rel => exact ⟨pos + d, n + 1, f, by omega, by omega, by go_num, rfl, HF.out, by omega⟩
       case measure => simp; omega
   · have hnext := fun ty => run_next_end (P := Tryz.prog) w s pos ty hlt
     have HF := Lib.hid (show utfV s = true by
       rw [← hok]; cases f with
       | zero => rfl
       | succ f => rw [utfOk, if_neg hlt])
     clear hok
     go_wp2
     go_ret2
     exact ⟨n, by rw [HF.out]; rfl, (Below.refl _ _).alloc (Nat.le_refl _) _⟩
set_option maxHeartbeats 400000 in
theorem utfValid (s : ByteArray) (w : World) (hs : s.size ≤ 9223372036854775807) :
   Calls Tryz.prog 182 #[.string s] w fun e w' => e = .returned (.bool (utfV s)) ∧ Below w.heap.size w w' := by
 go_enter Tryz.func182, Tryz.ntmps182
 go_wp2_with fail
 refine (utfLen s w hs).mono ?_
 rintro e w2 ⟨n, rfl, hb⟩
 have HB := Lib.hid hb; clear hb
 go_wp2
 go_ret
 exact ⟨rfl, HB.out⟩
end Go.Proofs.YtgghgcilpfdbjaaGreatDoor

namespace Go.Proofs.YtgghgcilpfdbjaaGreatDoor
open Go.RowKit Go.Lib
abbrev Pow10 (w : World) : Prop := Lib.TabIs Tryz.prog w "internal/strconv.uint64pow10" .u64 Lib.pow10Tab
theorem Pow10.below {w w' : World} (h : Pow10 w) (hb : Below w.heap.size w w') : Pow10 w' := Lib.tabBelow_of_tabIs h w' hb
theorem rep_0 (k : Nat) (h : k ≤ 4) : Lib.repeatL ({ data := #[48] } : ByteArray).data.toList k = List.replicate k 48 := by
 have : k = 0 ∨ k = 1 ∨ k = 2 ∨ k = 3 ∨ k = 4 := by omega
 rcases this with rfl | rfl | rfl | rfl | rfl <;> rfl
theorem ba_app (a b : List UInt8) : (⟨a.toArray⟩ : ByteArray) ++ (⟨b.toArray⟩ : ByteArray) = ⟨(a ++ b).toArray⟩ := by
 apply ByteArray.ext
 simp
theorem ba_size (a : List UInt8) : (⟨a.toArray⟩ : ByteArray).size = a.length := by simp [ByteArray.size]
set_option maxHeartbeats 1000000 in
theorem whenPad (n wd : Nat) (w : World) (hn : n ≤ 100000) (hwd : wd ≤ 4) (hP : Pow10 w) : Calls Tryz.prog 94 #[.int .i64 n, .int .i64 wd] w fun e w' => e = .returned (.string ⟨(padL n wd).toArray⟩) ∧ Below w.heap.size w w' := by
 have HI := Lib.hid (Tryz.strconv_Itoa n (by omega) (by omega) w hP)
 have HL := Lib.hid (show padL n wd = List.replicate (wd - (Lib.itoa n).length) 48 ++ Lib.itoa n from rfl)
 generalize Lib.itoa n = l at *
 obtain ⟨t, ht⟩ : ∃ t : ByteArray, t = ⟨l.toArray⟩ := ⟨_, rfl⟩
 have hsz : t.size = l.length := by rw [ht]; exact ba_size l
 rw [← ht] at HI
 have HT := Lib.hid ht
 have HSZ := Lib.hid hsz
 by_cases hc : t.size < wd
 · have HR := Lib.hid (fun w' : World => Tryz.strings_Repeat { data := #[48] } (wd - t.size) w' (by omega) (by show 1 * (wd - t.size) ≤ _; omega))
   have e1 : ((wd - t.size : Nat) : Int) = (wd : Int) - t.size := by omega
   rw [e1, rep_0 _ (by omega)] at HR
   obtain ⟨rp, hrp⟩ : ∃ rp : ByteArray, rp = ⟨(List.replicate (wd - t.size) 48).toArray⟩ := ⟨_, rfl⟩
   have hrs : rp.size ≤ 4 := by rw [hrp, ba_size, List.length_replicate]; omega
   rw [← hrp] at HR
   have HRP := Lib.hid hrp
   have hsum : rp.size + t.size ≤ 100 := by omega
   have c1 : decide ((t.size : Int) < wd) = true := by simpa using hc
   have hc' : (t.size : Int) < wd := by omega
   clear hP ht hsz hrp
   go_enter Tryz.func94, Tryz.ntmps94
   go_wp2_with fail
   refine HI.out.mono ?_
   rintro e w' ⟨rfl, k, os, rfl⟩
   go_wp2_with fail
   refine (HR.out _).mono ?_
   rintro e w2 ⟨rfl, hb⟩
   have HB := Lib.hid ((below_grow w.heap.size w (Nat.le_refl _) k os).trans (hb.mono (below_grow w.heap.size w (Nat.le_refl _) k os).size))
   clear hb
   go_wp2
   go_ret
   refine ⟨?_, HB.out⟩
   rw [HL.out, ← HSZ.out, ← ba_app, ← HT.out, ← HRP.out]
   rfl
 · have c1 : decide ((t.size : Int) < wd) = false := by simp; omega
   clear hP ht hsz
   go_enter Tryz.func94, Tryz.ntmps94
   go_wp2_with fail
   refine HI.out.mono ?_
   rintro e w' ⟨rfl, k, os, rfl⟩
   go_wp2
   go_ret
   refine ⟨?_, below_grow w.heap.size w (Nat.le_refl _) k os⟩
   rw [HL.out, ← HSZ.out, show wd - t.size = 0 by omega, HT.out]
   rfl
def showE (n : Int) : Int := if 0 ≤ n ∧ n ≤ 253402300799 then 0 else 1
def showS (n : Int) : ByteArray := if 0 ≤ n ∧ n ≤ 253402300799 then ⟨(dateL n.toNat).toArray⟩ else { data := #[] }
theorem year_go {f y d : Nat} (h : y < 9999 ∧ startN (y + 1) ≤ d) : yearN (f + 1) y d = yearN f (y + 1) d := by rw [yearN, if_pos h]
theorem year_end {f y d : Nat} (h : ¬ (y < 9999 ∧ startN (y + 1) ≤ d)) : yearN f y d = y := by
 cases f with
 | zero => rfl
 | succ f => rw [yearN, if_neg h]
theorem month_go {y f m d : Nat} (h : m < 12 ∧ daysN y m ≤ d) : monthN y (f + 1) m d = monthN y f (m + 1) (d - daysN y m) := by rw [monthN, if_pos h]
theorem month_end {y f m d : Nat} (h : ¬ (m < 12 ∧ daysN y m ≤ d)) : monthN y f m d = (m, d) := by
 cases f with
 | zero => rfl
 | succ f => rw [monthN, if_neg h]
theorem start_step (y : Nat) (h : 1970 ≤ y) : startN (y + 1) ≤ startN y + 366 := by unfold startN leapsN; omega
theorem start_last : startN 9999 = 2932532 := by decide
theorem daysZ_nat (y m : Nat) : daysZ y m = daysN y m := by unfold daysZ; rw [if_neg (by omega)]; simp
theorem pad_len (n wd : Nat) (hn : n ≤ 100000) (hw : wd ≤ 4) : (padL n wd).length ≤ 40 := by
 unfold padL
 have := Lib.itoa_length_le (n : Int) (by omega) (by omega)
 rw [List.length_append, List.length_replicate]; omega
theorem cat_date (a b c d e f : List UInt8) : (⟨a.toArray⟩ : ByteArray) ++ { data := #[45] } ++ ⟨b.toArray⟩ ++ { data := #[45] } ++ ⟨c.toArray⟩ ++ { data := #[84] } ++ ⟨d.toArray⟩ ++ { data := #[58] } ++ ⟨e.toArray⟩ ++ { data := #[58] } ++ ⟨f.toArray⟩ ++ { data := #[90] } = ⟨(a ++ [45] ++ b ++ [45] ++ c ++ [84] ++ d ++ [58] ++ e ++ [58] ++ f ++ [90]).toArray⟩ := by
 rw [← ba_app, ← ba_app, ← ba_app, ← ba_app, ← ba_app, ← ba_app, ← ba_app, ← ba_app, ← ba_app, ← ba_app, ← ba_app]
set_option maxHeartbeats 2000000 in
set_option maxRecDepth 100000 in
theorem whenShow (n : Int) (w : World) (hT : TabW w) (hP : Pow10 w) : Calls Tryz.prog 44 #[.int .i64 n] w fun e w' => e = .returned (.tuple #[.string (showS n), .int .i64 (showE n)]) ∧ Below w.heap.size w w' := by
 by_cases h0 : 0 ≤ n
 · by_cases h1 : n ≤ 253402300799
   · obtain ⟨N, rfl⟩ : ∃ N : Nat, n = N := ⟨n.toNat, by omega⟩
     have HS := Lib.hid (show showS N = ⟨(dateL N).toArray⟩ ∧ showE N = 0 by unfold showS showE; rw [if_pos ⟨h0, h1⟩, if_pos ⟨h0, h1⟩]; exact ⟨rfl, rfl⟩)
     have e1 : ((N : Int).tdiv 86400) = ((N / 86400 : Nat) : Int) := by rw [Int.tdiv_eq_ediv_of_nonneg (by omega)]; omega
     have e2 : ((N : Int).tmod 86400) = ((N % 86400 : Nat) : Int) := by rw [Int.tmod_eq_emod_of_nonneg (by omega)]; omega
     obtain ⟨D, hD⟩ : ∃ D, D = N / 86400 := ⟨_, rfl⟩
     obtain ⟨t, ht⟩ : ∃ t, t = N % 86400 := ⟨_, rfl⟩
     have hDb : D ≤ 2932896 := by omega
     have htb : t < 86400 := by omega
     rw [← hD] at e1
     rw [← ht] at e2
     have HD := Lib.hid (And.intro hD ht)
     have HT := Lib.hid hT
     have HP := Lib.hid hP
     clear hD ht hT hP
     go_enter Tryz.func44, Tryz.ntmps44
     go_wp2
     go_loopw [6] (fun y wr => ∃ k : Nat, k ≤ 8029 ∧ y = .int .i64 ((1970 + k : Nat) : Int) ∧ startN (1970 + k) ≤ D ∧ yearN 8030 1970 D = yearN (8030 - k) (1970 + k) D ∧ Below w.heap.size w wr) (fun y _ => 10000 - (intOf y).toNat)
     case atStart => exact ⟨0, by omega, rfl, by show startN 1970 ≤ D; rw [show startN 1970 = 0 by decide]; omega, rfl, Below.refl _ _⟩
     case round =>
       obtain ⟨k, hk, rfl, hst, hy, hb⟩ := hrel
       obtain ⟨Y, hY⟩ : ∃ Y, Y = 1970 + k := ⟨_, rfl⟩
       rw [← hY] at hst hy ⊢
       have hYb : 1970 ≤ Y ∧ Y ≤ 9999 := by omega
       obtain ⟨c, hc⟩ : ∃ c : Bool, c = decide (Y < 9999 ∧ startN (Y + 1) ≤ D) := ⟨_, rfl⟩
       have HK := Lib.hid (And.intro hY (And.intro hst hy))
       have HC := Lib.hid hc
       have HB := Lib.hid hb
       clear hY hst hy hc hb
       go_upto_region 5 with fail
       go_cut [27] (fun s wx => s = .bool c ∧ Below wr.heap.size wr wx)
       case first =>
         by_cases c1 : Y < 9999
         · have q1 : decide ((Y : Int) < 9999) = true := by simp; omega
           have HST := Lib.hid (whenStart (Y + 1) wr (by omega) (by omega))
           rw [show ((Y + 1 : Nat) : Int) = (Y : Int) + 1 by omega] at HST
           have HC2 := Lib.hid (show c = decide (startN (Y + 1) ≤ D) by rw [HC.out]; simp [c1])
           go_wp2_with fail
           refine HST.out.mono ?_
           rintro e w' ⟨rfl, h'⟩
           subst h'
           generalize startN (Y + 1) = sa at *
           go_wp2_with fail
           go_meet
           exact ⟨by rw [HC2.out] <;> simp, Below.refl _ _⟩
         · have q1 : decide ((Y : Int) < 9999) = false := by simp; omega
           have HC2 := Lib.hid (show c = false by rw [HC.out]; simp [c1])
           go_wp2_with fail
           go_meet
           exact ⟨by rw [HC2.out], Below.refl _ _⟩
       case rest =>
         obtain ⟨rfl, hbc⟩ := hcut
         have HBC := Lib.hid (HB.out.trans (hbc.mono HB.out.size))
         clear hbc
         cases c
         · have hn : ¬ (Y < 9999 ∧ startN (Y + 1) ≤ D) := fun h => by have := HC.out; simp [h] at this
           have hyr : yearN 8030 1970 D = Y := by rw [HK.out.2.2]; exact year_end hn
           have hE : ∃ E, D = startN Y + E := ⟨D - startN Y, by have := HK.out.2.1; omega⟩
           obtain ⟨E, hE⟩ := hE
           have hE2 : E ≤ 366 := by
             have h1 := start_step Y hYb.1
             by_cases c9 : Y < 9999
             · have : ¬ startN (Y + 1) ≤ D := fun h => hn ⟨c9, h⟩
               omega
             · have : Y = 9999 := by omega
               subst this
               have := start_last
               omega
           have HST := Lib.hid (whenStart Y wc hYb.1 (by omega))
           have HYR := Lib.hid hyr
           have HEE := Lib.hid (And.intro hE hE2)
           clear hn hyr HK HC hE2
           go_wp2_with fail
           refine HST.out.mono ?_
           clear HST
           rintro e w' ⟨rfl, h'⟩
           subst h'
           have hEi : (D : Int) - (startN Y : Int) = (E : Int) := by omega
           generalize hsY : startN Y = sY at *
           have HSY := Lib.hid hsY
           clear hsY
           go_wp2
           go_loopw [4, 7] (fun dv mv wr => ∃ k q : Nat, k ≤ 11 ∧ mv = .int .i64 ((k + 1 : Nat) : Int) ∧ dv = .int .i64 (q : Int) ∧ q ≤ 366 ∧ monthN Y 12 1 E = monthN Y (12 - k) (k + 1) q ∧ Below w.heap.size w wr) (fun _ mv _ => 12 - (intOf mv).toNat)
           case atStart => exact ⟨0, E, by omega, rfl, congrArg (Value.int .i64) (by omega), HEE.out.2, rfl, HBC.out⟩
           case round =>
             obtain ⟨k, q, hk, rfl, rfl, hq, hm, hb⟩ := hrel
             obtain ⟨M, hM⟩ : ∃ M, M = k + 1 := ⟨_, rfl⟩
             rw [← hM] at hm ⊢
             have hMb : 1 ≤ M ∧ M ≤ 12 := by omega
             obtain ⟨c, hc⟩ : ∃ c : Bool, c = decide (M < 12 ∧ daysN Y M ≤ q) := ⟨_, rfl⟩
             have HM := Lib.hid (And.intro hM hm)
             have HC := Lib.hid hc
             have HB := Lib.hid hb
             clear hM hm hc hb
             clear hEi hE
             go_upto_region 9 with fail
             go_cut [42] (fun s wx => s = .bool c ∧ Below wr.heap.size wr wx)
             case first =>
               by_cases c1 : M < 12
               · have q1 : decide ((M : Int) < 12) = true := by simp; omega
                 have HDY := Lib.hid (whenDays Y M wr (HT.out.below HB.out))
                 rw [daysZ_nat] at HDY
                 have HC2 := Lib.hid (show c = decide (daysN Y M ≤ q) by rw [HC.out]; simp [c1])
                 go_wp2_with fail
                 refine HDY.out.mono ?_
                 rintro e w' ⟨rfl, hb⟩
                 have HB2 := Lib.hid hb
                 clear hb
                 generalize daysN Y M = sa at *
                 go_wp2_with fail
                 go_meet
                 exact ⟨by rw [HC2.out] <;> simp, HB2.out⟩
               · have q1 : decide ((M : Int) < 12) = false := by simp; omega
                 have HC2 := Lib.hid (show c = false by rw [HC.out]; simp [c1])
                 go_wp2_with fail
                 go_meet
                 exact ⟨by rw [HC2.out], Below.refl _ _⟩
             case rest =>
               obtain ⟨rfl, hbc⟩ := hcut
               have HBC := Lib.hid (HB.out.trans (hbc.mono HB.out.size))
               clear hbc
               cases c
               · have hn : ¬ (M < 12 ∧ daysN Y M ≤ q) := fun h => by have := HC.out; simp [h] at this
                 have hyr : monthN Y 12 1 E = (M, q) := by rw [HM.out.2]; exact month_end hn
                 have HMR := Lib.hid hyr
                 have HBW := Lib.hid HBC.out
                 clear hyr hn HC HM
                 have d4 : (t : Int).tdiv 3600 = ((t / 3600 : Nat) : Int) := by rw [Int.tdiv_eq_ediv_of_nonneg (by omega)]; omega
                 have d5a : (t : Int).tdiv 60 = ((t / 60 : Nat) : Int) := by rw [Int.tdiv_eq_ediv_of_nonneg (by omega)]; omega
                 have d5 : ((t / 60 : Nat) : Int).tmod 60 = ((t / 60 % 60 : Nat) : Int) := by rw [Int.tmod_eq_emod_of_nonneg (by omega)]; omega
                 have d6 : (t : Int).tmod 60 = ((t % 60 : Nat) : Int) := by rw [Int.tmod_eq_emod_of_nonneg (by omega)]; omega
                 have HQ1 := Lib.hid (whenPad (Y) 4 wc (by omega) (by decide) (HP.out.below HBW.out))
                 have hl1 := pad_len (Y) 4 (by omega) (by decide)
                 obtain ⟨P1, hP1⟩ : ∃ P : ByteArray, P = ⟨(padL (Y) 4).toArray⟩ := ⟨_, rfl⟩
                 rw [← hP1] at HQ1
                 have z1 : P1.size ≤ 40 := by rw [hP1, ba_size]; exact hl1
                 have HE1 := Lib.hid hP1
                 clear hl1 hP1
                 go_wp2_with fail
                 refine HQ1.out.mono ?_
                 clear HQ1
                 rintro e wp1 ⟨rfl, hb⟩
                 replace HBW := Lib.hid (HBW.out.trans (hb.mono HBW.out.size))
                 clear hb
                 have HQ2 := Lib.hid (whenPad (M) 2 wp1 (by omega) (by decide) (HP.out.below HBW.out))
                 have hl2 := pad_len (M) 2 (by omega) (by decide)
                 obtain ⟨P2, hP2⟩ : ∃ P : ByteArray, P = ⟨(padL (M) 2).toArray⟩ := ⟨_, rfl⟩
                 rw [← hP2] at HQ2
                 have z2 : P2.size ≤ 40 := by rw [hP2, ba_size]; exact hl2
                 have HE2 := Lib.hid hP2
                 clear hl2 hP2
                 go_wp2_with fail
                 refine HQ2.out.mono ?_
                 clear HQ2
                 rintro e wp2 ⟨rfl, hb⟩
                 replace HBW := Lib.hid (HBW.out.trans (hb.mono HBW.out.size))
                 clear hb
                 have HQ3 := Lib.hid (whenPad (q + 1) 2 wp2 (by omega) (by decide) (HP.out.below HBW.out))
                 have hl3 := pad_len (q + 1) 2 (by omega) (by decide)
                 obtain ⟨P3, hP3⟩ : ∃ P : ByteArray, P = ⟨(padL (q + 1) 2).toArray⟩ := ⟨_, rfl⟩
                 rw [← hP3] at HQ3
                 have z3 : P3.size ≤ 40 := by rw [hP3, ba_size]; exact hl3
                 have HE3 := Lib.hid hP3
                 clear hl3 hP3
                 rw [show ((q + 1 : Nat) : Int) = (q : Int) + 1 by omega] at HQ3
                 go_wp2_with fail
                 refine HQ3.out.mono ?_
                 clear HQ3
                 rintro e wp3 ⟨rfl, hb⟩
                 replace HBW := Lib.hid (HBW.out.trans (hb.mono HBW.out.size))
                 clear hb
                 have HQ4 := Lib.hid (whenPad (t / 3600) 2 wp3 (by omega) (by decide) (HP.out.below HBW.out))
                 have hl4 := pad_len (t / 3600) 2 (by omega) (by decide)
                 obtain ⟨P4, hP4⟩ : ∃ P : ByteArray, P = ⟨(padL (t / 3600) 2).toArray⟩ := ⟨_, rfl⟩
                 rw [← hP4] at HQ4
                 have z4 : P4.size ≤ 40 := by rw [hP4, ba_size]; exact hl4
                 have HE4 := Lib.hid hP4
                 clear hl4 hP4
                 go_wp2_with fail
                 refine HQ4.out.mono ?_
                 clear HQ4
                 rintro e wp4 ⟨rfl, hb⟩
                 replace HBW := Lib.hid (HBW.out.trans (hb.mono HBW.out.size))
                 clear hb
                 have HQ5 := Lib.hid (whenPad (t / 60 % 60) 2 wp4 (by omega) (by decide) (HP.out.below HBW.out))
                 have hl5 := pad_len (t / 60 % 60) 2 (by omega) (by decide)
                 obtain ⟨P5, hP5⟩ : ∃ P : ByteArray, P = ⟨(padL (t / 60 % 60) 2).toArray⟩ := ⟨_, rfl⟩
                 rw [← hP5] at HQ5
                 have z5 : P5.size ≤ 40 := by rw [hP5, ba_size]; exact hl5
                 have HE5 := Lib.hid hP5
                 clear hl5 hP5
                 go_wp2_with fail
                 refine HQ5.out.mono ?_
                 clear HQ5
                 rintro e wp5 ⟨rfl, hb⟩
                 replace HBW := Lib.hid (HBW.out.trans (hb.mono HBW.out.size))
                 clear hb
                 have HQ6 := Lib.hid (whenPad (t % 60) 2 wp5 (by omega) (by decide) (HP.out.below HBW.out))
                 have hl6 := pad_len (t % 60) 2 (by omega) (by decide)
                 obtain ⟨P6, hP6⟩ : ∃ P : ByteArray, P = ⟨(padL (t % 60) 2).toArray⟩ := ⟨_, rfl⟩
                 rw [← hP6] at HQ6
                 have z6 : P6.size ≤ 40 := by rw [hP6, ba_size]; exact hl6
                 have HE6 := Lib.hid hP6
                 clear hl6 hP6
                 go_wp2_with fail
                 refine HQ6.out.mono ?_
                 clear HQ6
                 rintro e wp6 ⟨rfl, hb⟩
                 replace HBW := Lib.hid (HBW.out.trans (hb.mono HBW.out.size))
                 clear hb
                 have HDL := Lib.hid (show dateL N = padL Y 4 ++ [45] ++ padL M 2 ++ [45] ++ padL (q + 1) 2 ++ [84] ++ padL (t / 3600) 2 ++ [58] ++ padL (t / 60 % 60) 2 ++ [58] ++ padL (t % 60) 2 ++ [90] by
                   have h1 : N / 86400 = D := HD.out.1.symm
                   have h2 : N % 86400 = t := HD.out.2.symm
                   have h3 : yearN 8030 1970 D = Y := HYR.out
                   unfold dateL
                   simp only [h1, h2, h3]
                   rw [show D - startN Y = E by have := HEE.out.1; have := HSY.out; omega, HMR.out])
                 go_wp2
                 go_ret2
                 exact ⟨by rw [HS.out.1, HS.out.2, HDL.out, ← cat_date, ← HE1.out, ← HE2.out, ← HE3.out, ← HE4.out, ← HE5.out, ← HE6.out]; rfl, HBW.out⟩
               · have hy : M < 12 ∧ daysN Y M ≤ q := of_decide_eq_true HC.out.symm
                 have HDY := Lib.hid (whenDays Y M wc (HT.out.below HBC.out))
                 rw [daysZ_nat] at HDY
                 have HGO := Lib.hid (show monthN Y 12 1 E = monthN Y (12 - (k + 1)) (k + 1 + 1) (q - daysN Y M) by
                   have h := HM.out.2
                   rw [show 12 - k = (12 - (k + 1)) + 1 by omega, month_go hy] at h
                   rw [h, HM.out.1])
                 have HKK := Lib.hid (show k + 1 ≤ 11 ∧ M = k + 1 ∧ daysN Y M ≤ q from ⟨by have := HM.out.1; omega, HM.out.1, hy.2⟩)
                 have hle : (daysN Y M : Int) ≤ q := by omega
                 clear hy
                 go_wp2_with fail
                 refine HDY.out.mono ?_
                 rintro e w' ⟨rfl, hb⟩
                 have HB2 := Lib.hid (HBC.out.trans (hb.mono HBC.out.size))
                 clear hb
                 generalize daysN Y M = sa at *
                 go_wp2
                 go_roundw
                 case rel => exact ⟨k + 1, q - sa, HKK.out.1, by rw [HKK.out.2.1]; rfl, by go_num, by omega, HGO.out, HB2.out⟩
                 case measure => have := HKK.out; simp [intOf]; omega
         · have hy : Y < 9999 ∧ startN (Y + 1) ≤ D := of_decide_eq_true HC.out.symm
           have HGO := Lib.hid (show yearN 8030 1970 D = yearN (8030 - (k + 1)) (1970 + (k + 1)) D by
             have h := HK.out.2.2
             rw [show 8030 - k = (8030 - (k + 1)) + 1 by omega, year_go hy] at h
             rw [h, HK.out.1]; rfl)
           have HKK := Lib.hid (show k + 1 ≤ 8029 ∧ Y = 1970 + k ∧ startN (Y + 1) ≤ D from ⟨by have := HK.out.1; omega, HK.out.1, hy.2⟩)
           clear hy
           go_wp2
           go_roundw
           case rel => exact ⟨k + 1, HKK.out.1, by rw [HKK.out.2.1]; rfl, by rw [show 1970 + (k + 1) = Y + 1 by rw [HKK.out.2.1]; rfl]; exact HKK.out.2.2, HGO.out, HBC.out⟩
           case measure => have := HKK.out; simp [intOf]; omega
   · have HS := Lib.hid (show showS n = { data := #[] } ∧ showE n = 1 by unfold showS showE; rw [if_neg (by omega), if_neg (by omega)]; exact ⟨rfl, rfl⟩)
     have q0 : decide (n < 0) = false := by simp; omega
     have q1 : decide (253402300799 < n) = true := by simp; omega
     clear h0 h1 hT hP
     go_enter Tryz.func44, Tryz.ntmps44
     go_wp2
     go_ret2
     exact ⟨by rw [HS.out.1, HS.out.2]; rfl, Below.refl _ _⟩
 · have HS := Lib.hid (show showS n = { data := #[] } ∧ showE n = 1 by unfold showS showE; rw [if_neg (by omega), if_neg (by omega)]; exact ⟨rfl, rfl⟩)
   have q0 : decide (n < 0) = true := by simp; omega
   clear h0 hT hP
   go_enter Tryz.func44, Tryz.ntmps44
   go_wp2
   go_ret2
   exact ⟨by rw [HS.out.1, HS.out.2]; rfl, Below.refl _ _⟩
end Go.Proofs.YtgghgcilpfdbjaaGreatDoor

namespace Go.Proofs.YtgghgcilpfdbjaaGreatDoor
open Go.RowKit Go.Lib Go.Shelf
theorem infoHash : (Tryz.prog.info? 62).map (fun i => (i.zero, i.size, i.bytes)) = some (some (.agg #[.string { data := #[] }, .string { data := #[] }]), 2, 32) := by kernel_rfl
theorem encK_get (l : List Key2) (j : Nat) (u : Value) (h : (l.flatMap encK)[j]? = some u) : ∃ (hj : j / 2 < l.length), (encK l[j / 2])[j % 2]? = some u := by
 induction l generalizing j with
 | nil => simp at h
 | cons v r ih =>
   rw [List.flatMap_cons] at h
   by_cases h3 : j < 2
   · have e0 : j / 2 = 0 := by omega
     have e1 : j % 2 = j := by omega
     rw [List.getElem?_append_left (by show j < 2; exact h3)] at h
     refine ⟨by rw [e0]; simp, ?_⟩
     simp only [e0, e1]
     exact h
   · rw [List.getElem?_append_right (by show 2 ≤ j; omega)] at h
     obtain ⟨hj, hg⟩ := ih (j - 2) (by exact h)
     have e0 : j / 2 = (j - 2) / 2 + 1 := by omega
     have e1 : j % 2 = (j - 2) % 2 := by omega
     refine ⟨by rw [e0]; simp; omega, ?_⟩
     simp only [e0, e1, List.getElem_cons_succ]
     exact hg
set_option maxHeartbeats 1000000 in
theorem cloneHashes (l : List Key2) (a : Option Addr) (c : Nat) (w : World) (hR : KeysAt w 0 w.heap.size a l) (hl : l.length ≤ 4294967296) :
   Calls Tryz.prog 52 #[.slice a l.length c] w fun e w' => ∃ a' c', e = .returned (.slice a' l.length c') ∧ KeysAt w' w.heap.size w'.heap.size a' l ∧ Below w.heap.size w w' := by
 have q22 : ∀ (w : World) (a : Option Addr) (n c n' c' : Nat), (binOp .eql 34 (.slice a n c) (.slice none n' c')).run Tryz.prog w = .ok (.bool a.isNone) w := fun w a n c n' c' => Lib.run_eql_slice_nil w _ _ a n c n' c' Tryz.underlying34
 obtain ⟨i1, hi1, hy0, hy1, hy2⟩ := info_parts infoHash
 cases a with
 | none =>
   have h0 : l = [] := by
     rcases hR with h | ⟨b, off, h, _⟩
     · exact h
     · cases h
   subst h0
   go_enter Tryz.func52, Tryz.ntmps52
   go_wp2
   go_ret
   exact ⟨none, 0, rfl, .inl rfl, Below.refl _ _⟩
 | some ad =>
   have hnews : 0 < l.length → ∃ ad', some ad = some ad' ∧ ∀ j u, (l.flatMap encK)[j]? = some u → (w.alloc (.cells #[] 62)).cell? (ad'.add j) = some u := fun h0 => by
     rcases hR with h | ⟨b, off, h, _, hb, hc⟩
     · subst h; simp at h0
     · refine ⟨ad, rfl, fun j u hj => ?_⟩
       obtain ⟨hj3, hu⟩ := encK_get l j u hj
       obtain ⟨h1, h2⟩ := hc (j / 2) hj3
       cases h
       have e : (⟨b, off, none⟩ : Addr).add j = ⟨b, off + j, none⟩ := by unfold Addr.add; split <;> simp_all
       rw [e, cell_alloc_lt _ hb]
       have hm : j % 2 < 2 := Nat.mod_lt _ (by decide)
       unfold encK at hu
       rcases hq : j % 2 with _ | _ | q
       · rw [hq] at hu; simp at hu; subst hu; rw [show off + j = off + j / 2 * 2 by omega]; exact h1
       · rw [hq] at hu; simp at hu; subst hu; rw [show off + j = off + j / 2 * 2 + 1 by omega]; exact h2
       · omega
   have hlen : (l.flatMap encK).length = l.length * 2 := by
     clear hR hl hnews
     induction l with
     | nil => rfl
     | cons v r ih => rw [List.flatMap_cons, List.length_append, ih]; show 2 + r.length * 2 = (r.length + 1) * 2; omega
   have hone : ∀ u ∈ l.flatMap encK, u.oneCell' = true := fun u hu => by
     obtain ⟨v, _, hv⟩ := List.mem_flatMap.1 hu
     unfold encK at hv
     simp at hv
     rcases hv with rfl | rfl <;> rfl
   have HN := Lib.hid hnews
   have HL := Lib.hid hlen
   have HO := Lib.hid hone
   clear hnews hlen hone hR
   go_enter Tryz.func52, Tryz.ntmps52
   go_wp2_with (at_builtin; refine wpList_append_any _ rfl (.tmp 5) (.tmp 6) 34 rfl w.heap.size 62 i1 _ 2 32 Tryz.underlying34 hi1 hy0 hy1 hy2 rfl (by decide) _ 0 [] rfl (World.ownsRow_made w #[] 0 (Nat.le_refl _) (Nat.zero_le _) (by simp)) _ l.length c (l.flatMap encK) rfl HL.out HN.out HO.out ?c1 ?c2 ?c3 _ rfl ?_)
   case c1 => unfold maxLen; omega
   case c2 => omega
   case c3 => simp
   intro a2 c2 w2 hown2 hgrow2 hat2
   try simp only [Nat.zero_add] at hown2
   obtain ⟨_, _, hv, hT2⟩ := owns_keys hown2 rfl
   simp only [Value.slice.injEq, true_and] at hv
   obtain ⟨rfl, rfl⟩ := hv
   have HT2 := Lib.hid hT2
   clear hT2
   have HB2 := Lib.hid (((Below.refl _ w).alloc (Nat.le_refl _) _).grown hgrow2 (by simp) (by intro k hk; simp [Value.ownBlock] at hk; omega))
   clear hown2 hgrow2 hat2
   go_wp2
   go_ret
   exact ⟨a2, c2, rfl, HT2.out, HB2.out⟩
end Go.Proofs.YtgghgcilpfdbjaaGreatDoor

namespace Go.Proofs.YtgghgcilpfdbjaaGreatDoor
open Go.RowKit
theorem get_at (s : ByteArray) (i : Nat) (h : i < s.data.toList.length) : s.get! i = s.data.toList[i] := by
 have h' : i < s.data.size := by simpa using h
 simp only [ByteArray.get!, Array.getElem_toList]
 exact getElem!_pos s.data i h'
theorem drop_at {α : Type} (l : List α) (i : Nat) (h : i < l.length) : l.drop i = l[i] :: l.drop (i + 1) := List.drop_eq_getElem_cons h
theorem utf1 (s : ByteArray) (pos : Nat) (hb : (s.get! pos).toNat < 128) : utfBad s pos = false ∧ (Utf8.decode s pos).2 = 1 := by
 have e : Utf8.decode s pos = ((s.get! pos).toNat, 1) := by simp [Utf8.decode, hb]
 rw [utfBad, e]
 refine ⟨?_, rfl⟩
 have : ((s.get! pos).toNat == 65533) = false := by simp; omega
 simp [this]
theorem pre_iff (s : ByteArray) (pos : Nat) : Lib.hasPrefix (s.data.toList.drop pos) [239, 191, 189] = true ↔ pos + 2 < s.size ∧ (s.get! pos).toNat = 239 ∧ (s.get! (pos + 1)).toNat = 191 ∧ (s.get! (pos + 2)).toNat = 189 := by
 have hsz : s.data.toList.length = s.size := by simp
 have key : ∀ (l : List UInt8), Lib.hasPrefix l [239, 191, 189] = true ↔ ∃ r, l = 239 :: 191 :: 189 :: r := by
   intro l
   unfold Lib.hasPrefix
   rw [List.isPrefixOf_iff_prefix]
   constructor
   · rintro ⟨r, rfl⟩; exact ⟨r, rfl⟩
   · rintro ⟨r, rfl⟩; exact ⟨r, rfl⟩
 rw [key]
 by_cases h : pos + 2 < s.size
 · rw [drop_at _ _ (by omega), drop_at _ _ (by omega), drop_at _ _ (by omega), ← get_at s pos (by omega), ← get_at s (pos + 1) (by omega), ← get_at s (pos + 1 + 1) (by omega)]
   constructor
   · rintro ⟨r, hr⟩
     simp only [List.cons.injEq] at hr
     rw [hr.1, hr.2.1, hr.2.2.1]
     exact ⟨h, rfl, rfl, rfl⟩
   · rintro ⟨_, h0, h1, h2⟩
     refine ⟨s.data.toList.drop (pos + 1 + 1 + 1), ?_⟩
     rw [show s.get! pos = 239 from UInt8.toNat_inj.1 h0, show s.get! (pos + 1) = 191 from UInt8.toNat_inj.1 h1, show s.get! (pos + 1 + 1) = 189 from UInt8.toNat_inj.1 h2]
 · constructor
   · rintro ⟨r, hr⟩
     have := congrArg List.length hr
     simp at this
     omega
   · rintro ⟨h1, _⟩; exact absurd h1 h
theorem bad_iff (s : ByteArray) (pos : Nat) : utfBad s pos = true ↔ (Utf8.decode s pos).1 = 65533 ∧ ¬ (pos + 2 < s.size ∧ (s.get! pos).toNat = 239 ∧ (s.get! (pos + 1)).toNat = 191 ∧ (s.get! (pos + 2)).toNat = 189) := by
 rw [← pre_iff]; unfold utfBad; simp
theorem good_iff (s : ByteArray) (pos : Nat) : utfBad s pos = false ↔ ¬ ((Utf8.decode s pos).1 = 65533 ∧ ¬ (pos + 2 < s.size ∧ (s.get! pos).toNat = 239 ∧ (s.get! (pos + 1)).toNat = 191 ∧ (s.get! (pos + 2)).toNat = 189)) := by
 rw [← bad_iff]; simp
theorem utf0 (s : ByteArray) (pos : Nat) (hb : 128 ≤ (s.get! pos).toNat ∧ (s.get! pos).toNat < 192 ∨ 247 < (s.get! pos).toNat) : utfBad s pos = true := by
 have hlt := (s.get! pos).toNat_lt
 have e : Utf8.decode s pos = (65533, 1) := by
   unfold Utf8.decode Utf8.runeError; simp only [Nat.add_zero]
   rw [if_neg (by omega), if_neg (by simp; omega), if_neg (by simp; omega), if_neg (by simp; omega)]
 rw [bad_iff, e]
 exact ⟨rfl, by omega⟩
set_option maxRecDepth 100000 in
theorem utf2 (s : ByteArray) (pos : Nat) (hb : 192 ≤ (s.get! pos).toNat ∧ (s.get! pos).toNat < 224) :
   (utfBad s pos = false ↔ pos + 1 < s.size ∧ full2 (s.get! pos).toNat (s.get! (pos + 1)).toNat) ∧ (utfBad s pos = false → (Utf8.decode s pos).2 = 2) := by
 have h1 := (s.get! (pos + 1)).toNat_lt
 have e : Utf8.decode s pos = if pos + 1 < s.size ∧ full2 (s.get! pos).toNat (s.get! (pos + 1)).toNat then ((s.get! pos).toNat % 32 * 64 + (s.get! (pos + 1)).toNat % 64, 2) else (65533, 1) := by
   unfold Utf8.decode full2 Utf8.runeError; simp only [Nat.add_zero]
   rw [if_neg (by omega)]
   by_cases g : pos + 1 < s.size ∧ (s.get! (pos + 1)).toNat / 64 = 2
   · rw [if_pos (by simp; omega)]
     by_cases g2 : (s.get! pos).toNat % 32 * 64 + (s.get! (pos + 1)).toNat % 64 ≥ 128
     · rw [if_pos g2, if_pos (by omega)]
     · rw [if_neg g2, if_neg (by omega)]
   · rw [if_neg (by simp; omega), if_neg (by simp; omega), if_neg (by simp; omega), if_neg (by omega)]
 rw [good_iff, e]
 split
 · rename_i g; exact ⟨⟨fun _ => g, fun _ => by simp; omega⟩, fun _ => rfl⟩
 · rename_i g; exact ⟨⟨fun h => absurd ⟨rfl, by omega⟩ h, fun h => absurd h g⟩, fun h => absurd ⟨rfl, by omega⟩ h⟩
set_option maxRecDepth 100000 in
theorem utf3 (s : ByteArray) (pos : Nat) (hb : 224 ≤ (s.get! pos).toNat ∧ (s.get! pos).toNat < 240) :
   (utfBad s pos = false ↔ pos + 2 < s.size ∧ full3 (s.get! pos).toNat (s.get! (pos + 1)).toNat (s.get! (pos + 2)).toNat) ∧ (utfBad s pos = false → (Utf8.decode s pos).2 = 3) := by
 have h1 := (s.get! (pos + 1)).toNat_lt
 have h2 := (s.get! (pos + 2)).toNat_lt
 have e : Utf8.decode s pos = if pos + 2 < s.size ∧ full3 (s.get! pos).toNat (s.get! (pos + 1)).toNat (s.get! (pos + 2)).toNat then ((s.get! pos).toNat % 16 * 4096 + (s.get! (pos + 1)).toNat % 64 * 64 + (s.get! (pos + 2)).toNat % 64, 3) else (65533, 1) := by
   unfold Utf8.decode full3 Utf8.runeError Utf8.valid; simp only [Nat.add_zero]
   rw [if_neg (by omega), if_neg (by simp; omega)]
   by_cases g : pos + 2 < s.size ∧ (s.get! (pos + 1)).toNat / 64 = 2 ∧ (s.get! (pos + 2)).toNat / 64 = 2
   · rw [if_pos (by simp; omega)]
     by_cases g2 : (s.get! pos).toNat % 16 * 4096 + (s.get! (pos + 1)).toNat % 64 * 64 + (s.get! (pos + 2)).toNat % 64 ≥ 2048 ∧ ((s.get! pos).toNat % 16 * 4096 + (s.get! (pos + 1)).toNat % 64 * 64 + (s.get! (pos + 2)).toNat % 64 < 55296 ∨ 57343 < (s.get! pos).toNat % 16 * 4096 + (s.get! (pos + 1)).toNat % 64 * 64 + (s.get! (pos + 2)).toNat % 64)
     · rw [if_pos (by simp; omega), if_pos (by omega)]
     · rw [if_neg (by simp; omega), if_neg (by omega)]
   · rw [if_neg (by simp; omega), if_neg (by simp; omega), if_neg (by omega)]
 rw [good_iff, e]
 unfold full3
 split
 · rename_i g; exact ⟨⟨fun _ => g, fun _ => by simp; omega⟩, fun _ => rfl⟩
 · rename_i g; exact ⟨⟨fun h => absurd ⟨rfl, by omega⟩ h, fun h => absurd h g⟩, fun h => absurd ⟨rfl, by omega⟩ h⟩
set_option maxRecDepth 100000 in
theorem utf4 (s : ByteArray) (pos : Nat) (hb : 240 ≤ (s.get! pos).toNat ∧ (s.get! pos).toNat ≤ 247) :
   (utfBad s pos = false ↔ pos + 3 < s.size ∧ full4 (s.get! pos).toNat (s.get! (pos + 1)).toNat (s.get! (pos + 2)).toNat (s.get! (pos + 3)).toNat) ∧ (utfBad s pos = false → (Utf8.decode s pos).2 = 4) := by
 have h1 := (s.get! (pos + 1)).toNat_lt
 have h2 := (s.get! (pos + 2)).toNat_lt
 have h3 := (s.get! (pos + 3)).toNat_lt
 have e : Utf8.decode s pos = if pos + 3 < s.size ∧ full4 (s.get! pos).toNat (s.get! (pos + 1)).toNat (s.get! (pos + 2)).toNat (s.get! (pos + 3)).toNat then ((s.get! pos).toNat % 8 * 262144 + (s.get! (pos + 1)).toNat % 64 * 4096 + (s.get! (pos + 2)).toNat % 64 * 64 + (s.get! (pos + 3)).toNat % 64, 4) else (65533, 1) := by
   unfold Utf8.decode full4 Utf8.runeError Utf8.valid; simp only [Nat.add_zero]
   rw [if_neg (by omega), if_neg (by simp; omega), if_neg (by simp; omega)]
   by_cases g : pos + 3 < s.size ∧ (s.get! (pos + 1)).toNat / 64 = 2 ∧ (s.get! (pos + 2)).toNat / 64 = 2 ∧ (s.get! (pos + 3)).toNat / 64 = 2
   · rw [if_pos (by simp; omega)]
     by_cases g2 : (s.get! pos).toNat % 8 * 262144 + (s.get! (pos + 1)).toNat % 64 * 4096 + (s.get! (pos + 2)).toNat % 64 * 64 + (s.get! (pos + 3)).toNat % 64 ≥ 65536 ∧ (s.get! pos).toNat % 8 * 262144 + (s.get! (pos + 1)).toNat % 64 * 4096 + (s.get! (pos + 2)).toNat % 64 * 64 + (s.get! (pos + 3)).toNat % 64 ≤ 1114111
     · rw [if_pos (by simp; omega), if_pos (by omega)]
     · rw [if_neg (by simp; omega), if_neg (by omega)]
   · rw [if_neg (by simp; omega), if_neg (by omega)]
 rw [good_iff, e]
 unfold full4
 split
 · rename_i g; exact ⟨⟨fun _ => g, fun _ => by simp; omega⟩, fun _ => rfl⟩
 · rename_i g; exact ⟨⟨fun h => absurd ⟨rfl, by omega⟩ h, fun h => absurd h g⟩, fun h => absurd ⟨rfl, by omega⟩ h⟩
def begBd (k : Nat) (hi : Int) : Prop := (k = 0 ∧ hi < 32) ∨ (k = 1 ∧ hi < 2048) ∨ (k = 2 ∧ hi < 131072) ∨ (k = 3 ∧ hi < 8388608)
def BegRel (l : List UInt8) (x : Int) (size : Nat) (lo hi i : Value) : Prop :=
 ∃ (k : Nat) (a b : Int), k + 1 ≤ size ∧ i = .int .i64 ((k : Int) + 1) ∧ lo = .int .i64 a ∧ hi = .int .i64 b ∧ begStep l x k = some (a, b) ∧ 0 ≤ a ∧ a ≤ b ∧ begBd k b
theorem begBd_le {k : Nat} {b : Int} (h : begBd k b) : b < 8388608 := by unfold begBd at h; omega
theorem byteI_at (s : ByteArray) (k : Nat) (h : k < s.size) : (s[k].toNat : Int) = byteI s.data.toList k := by
 unfold byteI
 have hl : k < s.data.toList.length := by simpa using h
 rw [List.getD_eq_getElem?_getD, List.getElem?_eq_getElem hl]; rfl
theorem begins_fail {l : List UInt8} {size k : Nat} (hk : k + 1 < size) (h : begStep l (byteI l 0 - begOff size) (k + 1) = none) : beginsB l size = false := by
 unfold beginsB
 have := begStep_none l _ (k + 1) h (size - 1 - (k + 1))
 rw [show k + 1 + (size - 1 - (k + 1)) = size - 1 by omega] at this
 rw [this]
theorem begins_done {l : List UInt8} {size : Nat} {a b : Int} (h : begStep l (byteI l 0 - begOff size) (size - 1) = some (a, b)) : beginsB l size = begEnd a b (begLeast size) := by
 unfold beginsB; rw [h]
set_option maxHeartbeats 1000000 in
set_option maxRecDepth 100000 in
theorem refBegins2 (s : ByteArray) (w : World) (hn : 1 ≤ s.size) (h1 : 192 ≤ byteI s.data.toList 0) (h2 : byteI s.data.toList 0 ≤ 223) :
   Calls Tryz.prog 184 #[.string s, .int .i64 2] w fun e w' => e = .returned (.bool (beginsB s.data.toList 2)) ∧ Below w.heap.size w w' := by
 have hb0 : (s[0].toNat : Int) = byteI s.data.toList 0 := byteI_at s 0 (by omega)
 have hs0 : (0 : Int) < (s.size : Int) := by omega
 obtain ⟨c0, hc0⟩ : ∃ c0, c0 = byteI s.data.toList 0 := ⟨_, rfl⟩
 rw [← hc0] at h1 h2 hb0
 have HX := Lib.hid (show c0 - 192 = byteI s.data.toList 0 - begOff 2 by rw [hc0]; rfl)
 clear hc0
 have w0 : IntKind.i64.wrap c0 = c0 := IntWalk.i64_in _ (by omega)
 go_enter Tryz.func184, Tryz.ntmps184
 go_wp2
 go_quiet (fail)
 go_wp2
 clear hb0 w0
 go_loopw [5, 6, 7] (fun lo hi i wr => BegRel s.data.toList (c0 - 192) 2 lo hi i ∧ Below w.heap.size w wr) (fun _ _ i _ => 2 - (intOf i).toNat)
 case atStart => exact ⟨⟨0, _, _, by omega, rfl, rfl, rfl, rfl, by omega, Int.le_refl _, .inl ⟨rfl, by omega⟩⟩, Below.drewN (Below.refl _ _) _⟩
 case round =>
   obtain ⟨⟨k, a, b, hk, rfl, rfl, rfl, hst, ha, hab, hbd⟩, hbel⟩ := hrel
   have HBL := Lib.hid hbel
   clear hbel
   have HST := Lib.hid hst
   have hb1 := begBd_le hbd
   clear hst
   have hb2 : b < 8388608 := hb1
   by_cases hlt : k + 1 < 2
   · have HSU := Lib.hid (show begStep s.data.toList (c0 - 192) (k + 1) = if k + 1 < s.data.toList.length then (if byteI s.data.toList (k + 1) < 128 ∨ 191 < byteI s.data.toList (k + 1) then none else some (64 * a + (byteI s.data.toList (k + 1) - 128), 64 * b + (byteI s.data.toList (k + 1) - 128))) else some (64 * a, 64 * b + 63) by
       rw [begStep, HST.out])
     have hlt1 : (k : Int) + 1 < 2 := by omega
     by_cases hks : k + 1 < s.size
     · have hks1 : (k : Int) + 1 < (s.size : Int) := by omega
       have hc : (s[k + 1].toNat : Int) = byteI s.data.toList (k + 1) := byteI_at s (k + 1) hks
       have hcb := byteI_bd s.data.toList (k + 1)
       rw [if_pos (by rw [toList_length]; exact hks)] at HSU
       have ht : ((k : Int) + 1).toNat = k + 1 := by omega
       obtain ⟨c, hcc⟩ : ∃ c, c = byteI s.data.toList (k + 1) := ⟨_, rfl⟩
       rw [← hcc] at hc hcb HSU
       clear hcc
       by_cases g1 : c < 128
       · have HF := Lib.hid (begins_fail (l := s.data.toList) (size := 2) hlt (by rw [← HX.out, HSU.out, if_pos (.inl g1)]))
         go_wp2
         go_ret
         exact ⟨by rw [HF.out] <;> rfl, HBL.out⟩
       by_cases g2 : 191 < c
       · have HF := Lib.hid (begins_fail (l := s.data.toList) (size := 2) hlt (by rw [← HX.out, HSU.out, if_pos (.inr g2)]))
         go_wp2
         go_ret
         exact ⟨by rw [HF.out] <;> rfl, HBL.out⟩
       rw [if_neg (by omega)] at HSU
       have v1 : IntKind.u8.wrap (c - 128) = c - 128 := IntWalk.u8_in _ (by omega)
       have v2 : IntKind.i64.wrap (c - 128) = c - 128 := IntWalk.i64_in _ (by omega)
       have v3 : IntKind.i64.wrap (64 * a) = 64 * a := IntWalk.i64_in _ (by omega)
       have v4 : IntKind.i64.wrap (64 * b) = 64 * b := IntWalk.i64_in _ (by omega)
       have v5 : IntKind.i64.wrap (64 * a + (c - 128)) = 64 * a + (c - 128) := IntWalk.i64_in _ (by omega)
       have v6 : IntKind.i64.wrap (64 * b + (c - 128)) = 64 * b + (c - 128) := IntWalk.i64_in _ (by omega)
       go_wp2
       go_quiet (fail)
       clear v1 v2 v3 v4 v5 v6
       go_wp2
       go_roundw
       case rel => exact ⟨⟨k + 1, _, _, by omega, by go_num, rfl, rfl, HSU.out, by omega, by omega, by unfold begBd at hbd ⊢; omega⟩, Below.drewN HBL.out _⟩
       case measure => simp [intOf]; omega
     · rw [if_neg (by rw [toList_length]; exact hks)] at HSU
       have hks1 : ¬ (k : Int) + 1 < (s.size : Int) := by omega
       go_wp2
       go_roundw
       case rel => exact ⟨⟨k + 1, _, _, by omega, by go_num, rfl, rfl, HSU.out, by omega, by omega, by unfold begBd at hbd ⊢; omega⟩, HBL.out⟩
       case measure => simp [intOf]; omega
   · have hk2 : k = 2 - 1 := by omega
     have HE := Lib.hid (show beginsB s.data.toList 2 = begEnd a b 128 from begins_done (by rw [← HX.out]; rw [hk2] at HST; exact HST.out))
     have hlt1 : ¬ (k : Int) + 1 < 2 := by omega
     clear hk2 HST
     obtain ⟨A, hA⟩ : ∃ A : Int, max a 128 = A := ⟨_, rfl⟩
     obtain ⟨B, hB⟩ : ∃ B : Int, min b 1114111 = B := ⟨_, rfl⟩
     have HA := Lib.hid (show A = max a 128 by rw [← hA])
     have HB := Lib.hid (show B = min b 1114111 by rw [← hB])
     unfold begEnd at HE
     rw [← HA.out, ← HB.out] at HE
     have hAl : 128 ≤ A := by rw [← hA]; omega
     clear HA HB
     by_cases g1 : 55296 ≤ A
     · by_cases g2 : B ≤ 57343
       · rw [if_pos ⟨g1, g2⟩] at HE
         go_wp2
         go_ret
         exact ⟨by rw [HE.out] <;> rfl, HBL.out.alloc HBL.out.size _⟩
       · rw [if_neg (fun h => g2 h.2)] at HE
         by_cases g3 : A ≤ B
         · rw [decide_eq_true g3] at HE
           go_wp2
           go_ret
           exact ⟨by rw [HE.out] <;> rfl, HBL.out.alloc HBL.out.size _⟩
         · rw [decide_eq_false g3] at HE
           go_wp2
           go_ret
           exact ⟨by rw [HE.out] <;> rfl, HBL.out.alloc HBL.out.size _⟩
     · try (exfalso; omega)
       all_goals
         have g1' : decide (55296 ≤ A) = false := by simp; omega
         rw [if_neg (fun h => g1 h.1)] at HE
         by_cases g3 : A ≤ B
         · rw [decide_eq_true g3] at HE
           go_wp2
           go_ret
           exact ⟨by rw [HE.out] <;> rfl, HBL.out.alloc HBL.out.size _⟩
         · rw [decide_eq_false g3] at HE
           go_wp2
           go_ret
           exact ⟨by rw [HE.out] <;> rfl, HBL.out.alloc HBL.out.size _⟩
set_option maxHeartbeats 1000000 in
set_option maxRecDepth 100000 in
theorem refBegins3 (s : ByteArray) (w : World) (hn : 1 ≤ s.size) (h1 : 224 ≤ byteI s.data.toList 0) (h2 : byteI s.data.toList 0 ≤ 239) :
   Calls Tryz.prog 184 #[.string s, .int .i64 3] w fun e w' => e = .returned (.bool (beginsB s.data.toList 3)) ∧ Below w.heap.size w w' := by
 have hb0 : (s[0].toNat : Int) = byteI s.data.toList 0 := byteI_at s 0 (by omega)
 have hs0 : (0 : Int) < (s.size : Int) := by omega
 obtain ⟨c0, hc0⟩ : ∃ c0, c0 = byteI s.data.toList 0 := ⟨_, rfl⟩
 rw [← hc0] at h1 h2 hb0
 have HX := Lib.hid (show c0 - 224 = byteI s.data.toList 0 - begOff 3 by rw [hc0]; rfl)
 clear hc0
 have w0 : IntKind.i64.wrap c0 = c0 := IntWalk.i64_in _ (by omega)
 go_enter Tryz.func184, Tryz.ntmps184
 go_wp2
 go_quiet (fail)
 go_wp2
 clear hb0 w0
 go_loopw [5, 6, 7] (fun lo hi i wr => BegRel s.data.toList (c0 - 224) 3 lo hi i ∧ Below w.heap.size w wr) (fun _ _ i _ => 3 - (intOf i).toNat)
 case atStart => exact ⟨⟨0, _, _, by omega, rfl, rfl, rfl, rfl, by omega, Int.le_refl _, .inl ⟨rfl, by omega⟩⟩, Below.drewN (Below.refl _ _) _⟩
 case round =>
   obtain ⟨⟨k, a, b, hk, rfl, rfl, rfl, hst, ha, hab, hbd⟩, hbel⟩ := hrel
   have HBL := Lib.hid hbel
   clear hbel
   have HST := Lib.hid hst
   have hb1 := begBd_le hbd
   clear hst
   have hb2 : b < 8388608 := hb1
   by_cases hlt : k + 1 < 3
   · have HSU := Lib.hid (show begStep s.data.toList (c0 - 224) (k + 1) = if k + 1 < s.data.toList.length then (if byteI s.data.toList (k + 1) < 128 ∨ 191 < byteI s.data.toList (k + 1) then none else some (64 * a + (byteI s.data.toList (k + 1) - 128), 64 * b + (byteI s.data.toList (k + 1) - 128))) else some (64 * a, 64 * b + 63) by
       rw [begStep, HST.out])
     have hlt1 : (k : Int) + 1 < 3 := by omega
     by_cases hks : k + 1 < s.size
     · have hks1 : (k : Int) + 1 < (s.size : Int) := by omega
       have hc : (s[k + 1].toNat : Int) = byteI s.data.toList (k + 1) := byteI_at s (k + 1) hks
       have hcb := byteI_bd s.data.toList (k + 1)
       rw [if_pos (by rw [toList_length]; exact hks)] at HSU
       have ht : ((k : Int) + 1).toNat = k + 1 := by omega
       obtain ⟨c, hcc⟩ : ∃ c, c = byteI s.data.toList (k + 1) := ⟨_, rfl⟩
       rw [← hcc] at hc hcb HSU
       clear hcc
       by_cases g1 : c < 128
       · have HF := Lib.hid (begins_fail (l := s.data.toList) (size := 3) hlt (by rw [← HX.out, HSU.out, if_pos (.inl g1)]))
         go_wp2
         go_ret
         exact ⟨by rw [HF.out] <;> rfl, HBL.out⟩
       by_cases g2 : 191 < c
       · have HF := Lib.hid (begins_fail (l := s.data.toList) (size := 3) hlt (by rw [← HX.out, HSU.out, if_pos (.inr g2)]))
         go_wp2
         go_ret
         exact ⟨by rw [HF.out] <;> rfl, HBL.out⟩
       rw [if_neg (by omega)] at HSU
       have v1 : IntKind.u8.wrap (c - 128) = c - 128 := IntWalk.u8_in _ (by omega)
       have v2 : IntKind.i64.wrap (c - 128) = c - 128 := IntWalk.i64_in _ (by omega)
       have v3 : IntKind.i64.wrap (64 * a) = 64 * a := IntWalk.i64_in _ (by omega)
       have v4 : IntKind.i64.wrap (64 * b) = 64 * b := IntWalk.i64_in _ (by omega)
       have v5 : IntKind.i64.wrap (64 * a + (c - 128)) = 64 * a + (c - 128) := IntWalk.i64_in _ (by omega)
       have v6 : IntKind.i64.wrap (64 * b + (c - 128)) = 64 * b + (c - 128) := IntWalk.i64_in _ (by omega)
       go_wp2
       go_quiet (fail)
       clear v1 v2 v3 v4 v5 v6
       go_wp2
       go_roundw
       case rel => exact ⟨⟨k + 1, _, _, by omega, by go_num, rfl, rfl, HSU.out, by omega, by omega, by unfold begBd at hbd ⊢; omega⟩, Below.drewN HBL.out _⟩
       case measure => simp [intOf]; omega
     · rw [if_neg (by rw [toList_length]; exact hks)] at HSU
       have hks1 : ¬ (k : Int) + 1 < (s.size : Int) := by omega
       go_wp2
       go_roundw
       case rel => exact ⟨⟨k + 1, _, _, by omega, by go_num, rfl, rfl, HSU.out, by omega, by omega, by unfold begBd at hbd ⊢; omega⟩, HBL.out⟩
       case measure => simp [intOf]; omega
   · have hk2 : k = 3 - 1 := by omega
     have HE := Lib.hid (show beginsB s.data.toList 3 = begEnd a b 2048 from begins_done (by rw [← HX.out]; rw [hk2] at HST; exact HST.out))
     have hlt1 : ¬ (k : Int) + 1 < 3 := by omega
     clear hk2 HST
     obtain ⟨A, hA⟩ : ∃ A : Int, max a 2048 = A := ⟨_, rfl⟩
     obtain ⟨B, hB⟩ : ∃ B : Int, min b 1114111 = B := ⟨_, rfl⟩
     have HA := Lib.hid (show A = max a 2048 by rw [← hA])
     have HB := Lib.hid (show B = min b 1114111 by rw [← hB])
     unfold begEnd at HE
     rw [← HA.out, ← HB.out] at HE
     have hAl : 2048 ≤ A := by rw [← hA]; omega
     clear HA HB
     by_cases g1 : 55296 ≤ A
     · by_cases g2 : B ≤ 57343
       · rw [if_pos ⟨g1, g2⟩] at HE
         go_wp2
         go_ret
         exact ⟨by rw [HE.out] <;> rfl, HBL.out.alloc HBL.out.size _⟩
       · rw [if_neg (fun h => g2 h.2)] at HE
         by_cases g3 : A ≤ B
         · rw [decide_eq_true g3] at HE
           go_wp2
           go_ret
           exact ⟨by rw [HE.out] <;> rfl, HBL.out.alloc HBL.out.size _⟩
         · rw [decide_eq_false g3] at HE
           go_wp2
           go_ret
           exact ⟨by rw [HE.out] <;> rfl, HBL.out.alloc HBL.out.size _⟩
     · try (exfalso; omega)
       all_goals
         have g1' : decide (55296 ≤ A) = false := by simp; omega
         rw [if_neg (fun h => g1 h.1)] at HE
         by_cases g3 : A ≤ B
         · rw [decide_eq_true g3] at HE
           go_wp2
           go_ret
           exact ⟨by rw [HE.out] <;> rfl, HBL.out.alloc HBL.out.size _⟩
         · rw [decide_eq_false g3] at HE
           go_wp2
           go_ret
           exact ⟨by rw [HE.out] <;> rfl, HBL.out.alloc HBL.out.size _⟩
set_option maxHeartbeats 1000000 in
set_option maxRecDepth 100000 in
theorem refBegins4 (s : ByteArray) (w : World) (hn : 1 ≤ s.size) (h1 : 240 ≤ byteI s.data.toList 0) (h2 : byteI s.data.toList 0 ≤ 247) :
   Calls Tryz.prog 184 #[.string s, .int .i64 4] w fun e w' => e = .returned (.bool (beginsB s.data.toList 4)) ∧ Below w.heap.size w w' := by
 have hb0 : (s[0].toNat : Int) = byteI s.data.toList 0 := byteI_at s 0 (by omega)
 have hs0 : (0 : Int) < (s.size : Int) := by omega
 obtain ⟨c0, hc0⟩ : ∃ c0, c0 = byteI s.data.toList 0 := ⟨_, rfl⟩
 rw [← hc0] at h1 h2 hb0
 have HX := Lib.hid (show c0 - 240 = byteI s.data.toList 0 - begOff 4 by rw [hc0]; rfl)
 clear hc0
 have w0 : IntKind.i64.wrap c0 = c0 := IntWalk.i64_in _ (by omega)
 go_enter Tryz.func184, Tryz.ntmps184
 go_wp2
 go_quiet (fail)
 go_wp2
 clear hb0 w0
 go_loopw [5, 6, 7] (fun lo hi i wr => BegRel s.data.toList (c0 - 240) 4 lo hi i ∧ Below w.heap.size w wr) (fun _ _ i _ => 4 - (intOf i).toNat)
 case atStart => exact ⟨⟨0, _, _, by omega, rfl, rfl, rfl, rfl, by omega, Int.le_refl _, .inl ⟨rfl, by omega⟩⟩, Below.drewN (Below.refl _ _) _⟩
 case round =>
   obtain ⟨⟨k, a, b, hk, rfl, rfl, rfl, hst, ha, hab, hbd⟩, hbel⟩ := hrel
   have HBL := Lib.hid hbel
   clear hbel
   have HST := Lib.hid hst
   have hb1 := begBd_le hbd
   clear hst
   have hb2 : b < 8388608 := hb1
   by_cases hlt : k + 1 < 4
   · have HSU := Lib.hid (show begStep s.data.toList (c0 - 240) (k + 1) = if k + 1 < s.data.toList.length then (if byteI s.data.toList (k + 1) < 128 ∨ 191 < byteI s.data.toList (k + 1) then none else some (64 * a + (byteI s.data.toList (k + 1) - 128), 64 * b + (byteI s.data.toList (k + 1) - 128))) else some (64 * a, 64 * b + 63) by
       rw [begStep, HST.out])
     have hlt1 : (k : Int) + 1 < 4 := by omega
     by_cases hks : k + 1 < s.size
     · have hks1 : (k : Int) + 1 < (s.size : Int) := by omega
       have hc : (s[k + 1].toNat : Int) = byteI s.data.toList (k + 1) := byteI_at s (k + 1) hks
       have hcb := byteI_bd s.data.toList (k + 1)
       rw [if_pos (by rw [toList_length]; exact hks)] at HSU
       have ht : ((k : Int) + 1).toNat = k + 1 := by omega
       obtain ⟨c, hcc⟩ : ∃ c, c = byteI s.data.toList (k + 1) := ⟨_, rfl⟩
       rw [← hcc] at hc hcb HSU
       clear hcc
       by_cases g1 : c < 128
       · have HF := Lib.hid (begins_fail (l := s.data.toList) (size := 4) hlt (by rw [← HX.out, HSU.out, if_pos (.inl g1)]))
         go_wp2
         go_ret
         exact ⟨by rw [HF.out] <;> rfl, HBL.out⟩
       by_cases g2 : 191 < c
       · have HF := Lib.hid (begins_fail (l := s.data.toList) (size := 4) hlt (by rw [← HX.out, HSU.out, if_pos (.inr g2)]))
         go_wp2
         go_ret
         exact ⟨by rw [HF.out] <;> rfl, HBL.out⟩
       rw [if_neg (by omega)] at HSU
       have v1 : IntKind.u8.wrap (c - 128) = c - 128 := IntWalk.u8_in _ (by omega)
       have v2 : IntKind.i64.wrap (c - 128) = c - 128 := IntWalk.i64_in _ (by omega)
       have v3 : IntKind.i64.wrap (64 * a) = 64 * a := IntWalk.i64_in _ (by omega)
       have v4 : IntKind.i64.wrap (64 * b) = 64 * b := IntWalk.i64_in _ (by omega)
       have v5 : IntKind.i64.wrap (64 * a + (c - 128)) = 64 * a + (c - 128) := IntWalk.i64_in _ (by omega)
       have v6 : IntKind.i64.wrap (64 * b + (c - 128)) = 64 * b + (c - 128) := IntWalk.i64_in _ (by omega)
       go_wp2
       go_quiet (fail)
       clear v1 v2 v3 v4 v5 v6
       go_wp2
       go_roundw
       case rel => exact ⟨⟨k + 1, _, _, by omega, by go_num, rfl, rfl, HSU.out, by omega, by omega, by unfold begBd at hbd ⊢; omega⟩, Below.drewN HBL.out _⟩
       case measure => simp [intOf]; omega
     · rw [if_neg (by rw [toList_length]; exact hks)] at HSU
       have hks1 : ¬ (k : Int) + 1 < (s.size : Int) := by omega
       go_wp2
       go_roundw
       case rel => exact ⟨⟨k + 1, _, _, by omega, by go_num, rfl, rfl, HSU.out, by omega, by omega, by unfold begBd at hbd ⊢; omega⟩, HBL.out⟩
       case measure => simp [intOf]; omega
   · have hk2 : k = 4 - 1 := by omega
     have HE := Lib.hid (show beginsB s.data.toList 4 = begEnd a b 65536 from begins_done (by rw [← HX.out]; rw [hk2] at HST; exact HST.out))
     have hlt1 : ¬ (k : Int) + 1 < 4 := by omega
     clear hk2 HST
     obtain ⟨A, hA⟩ : ∃ A : Int, max a 65536 = A := ⟨_, rfl⟩
     obtain ⟨B, hB⟩ : ∃ B : Int, min b 1114111 = B := ⟨_, rfl⟩
     have HA := Lib.hid (show A = max a 65536 by rw [← hA])
     have HB := Lib.hid (show B = min b 1114111 by rw [← hB])
     unfold begEnd at HE
     rw [← HA.out, ← HB.out] at HE
     have hAl : 65536 ≤ A := by rw [← hA]; omega
     clear HA HB
     by_cases g1 : 55296 ≤ A
     · by_cases g2 : B ≤ 57343
       · rw [if_pos ⟨g1, g2⟩] at HE
         go_wp2
         go_ret
         exact ⟨by rw [HE.out] <;> rfl, HBL.out.alloc HBL.out.size _⟩
       · rw [if_neg (fun h => g2 h.2)] at HE
         by_cases g3 : A ≤ B
         · rw [decide_eq_true g3] at HE
           go_wp2
           go_ret
           exact ⟨by rw [HE.out] <;> rfl, HBL.out.alloc HBL.out.size _⟩
         · rw [decide_eq_false g3] at HE
           go_wp2
           go_ret
           exact ⟨by rw [HE.out] <;> rfl, HBL.out.alloc HBL.out.size _⟩
     · try (exfalso; omega)
       all_goals
         have g1' : decide (55296 ≤ A) = false := by simp; omega
         rw [if_neg (fun h => g1 h.1)] at HE
         by_cases g3 : A ≤ B
         · rw [decide_eq_true g3] at HE
           go_wp2
           go_ret
           exact ⟨by rw [HE.out] <;> rfl, HBL.out.alloc HBL.out.size _⟩
         · rw [decide_eq_false g3] at HE
           go_wp2
           go_ret
           exact ⟨by rw [HE.out] <;> rfl, HBL.out.alloc HBL.out.size _⟩
def NextPost (s : ByteArray) (pos : Nat) (w : World) (e : Ending) (w' : World) : Prop :=
 ∃ r sz er : Int, e = .returned (.tuple #[.int .i64 r, .int .i64 sz, .int .i64 er]) ∧ ((utfBad s pos = false ∧ er = 0 ∧ sz = ((Utf8.decode s pos).2 : Int)) ∨ (utfBad s pos = true ∧ er ≠ 0)) ∧ Below w.heap.size w w'
theorem ext_listU (s : ByteArray) (pos n : Nat) : (s.extract pos (pos + n)).data.toList = (s.data.toList.drop pos).take n := by
 rw [ByteArray.data_extract, Array.toList_extract, List.extract_eq_take_drop]; congr 1; omega
theorem ext1 (s : ByteArray) (pos : Nat) (h : pos + 1 ≤ s.size) : (s.extract pos (pos + 1)).data.toList = [s.get! pos] := by
 have hl : s.data.toList.length = s.size := by simp
 rw [ext_listU, drop_at _ _ (by omega), ← get_at s pos (by omega)]; rfl
theorem ext2 (s : ByteArray) (pos : Nat) (h : pos + 2 ≤ s.size) : (s.extract pos (pos + 2)).data.toList = [s.get! pos, s.get! (pos + 1)] := by
 have hl : s.data.toList.length = s.size := by simp
 rw [ext_listU, drop_at _ _ (by omega), drop_at _ _ (by omega), ← get_at s pos (by omega), ← get_at s (pos + 1) (by omega)]; rfl
theorem ext3 (s : ByteArray) (pos : Nat) (h : pos + 3 ≤ s.size) : (s.extract pos (pos + 3)).data.toList = [s.get! pos, s.get! (pos + 1), s.get! (pos + 2)] := by
 have hl : s.data.toList.length = s.size := by simp
 rw [ext_listU, drop_at _ _ (by omega), drop_at _ _ (by omega), drop_at _ _ (by omega), ← get_at s pos (by omega), ← get_at s (pos + 1) (by omega), ← get_at s (pos + 1 + 1) (by omega)]; rfl
theorem ext4 (s : ByteArray) (pos : Nat) (h : pos + 4 ≤ s.size) : (s.extract pos (pos + 4)).data.toList = [s.get! pos, s.get! (pos + 1), s.get! (pos + 2), s.get! (pos + 3)] := by
 have hl : s.data.toList.length = s.size := by simp
 rw [ext_listU, drop_at _ _ (by omega), drop_at _ _ (by omega), drop_at _ _ (by omega), drop_at _ _ (by omega), ← get_at s pos (by omega), ← get_at s (pos + 1) (by omega), ← get_at s (pos + 1 + 1) (by omega), ← get_at s (pos + 1 + 1 + 1) (by omega)]; rfl
theorem at2 (s : ByteArray) (pos : Nat) (hb : 192 ≤ (s.get! pos).toNat ∧ (s.get! pos).toNat ≤ 223) :
   (utfBad s pos = false → pos + 2 ≤ s.size ∧ (Utf8.decode s pos).2 = 2 ∧ ∀ n, 1 ≤ n → n ≤ 2 → beginsB (s.extract pos (pos + n)).data.toList 2 = true) ∧ (pos + 2 ≤ s.size → beginsB (s.extract pos (pos + 2)).data.toList 2 = true → utfBad s pos = false) := by
 obtain ⟨u1, u2⟩ := utf2 s pos (by omega)
 obtain ⟨b1, b2⟩ := beg2 (s.get! pos) (s.get! (pos + 1)) (by omega)
 constructor
 · intro h
   obtain ⟨h1, h2⟩ := u1.1 h
   refine ⟨by omega, u2 h, fun n hn hn' => ?_⟩
   obtain rfl | rfl : n = 1 ∨ n = 2 := by omega
   · rw [ext1 s pos (by omega)]; exact b2 h2
   · rw [ext2 s pos (by omega)]; exact b1.2 h2
 · intro h h'
   rw [ext2 s pos h] at h'
   exact u1.2 ⟨by omega, b1.1 h'⟩
theorem at3 (s : ByteArray) (pos : Nat) (hb : 224 ≤ (s.get! pos).toNat ∧ (s.get! pos).toNat ≤ 239) :
   (utfBad s pos = false → pos + 3 ≤ s.size ∧ (Utf8.decode s pos).2 = 3 ∧ ∀ n, 1 ≤ n → n ≤ 3 → beginsB (s.extract pos (pos + n)).data.toList 3 = true) ∧ (pos + 3 ≤ s.size → beginsB (s.extract pos (pos + 3)).data.toList 3 = true → utfBad s pos = false) := by
 obtain ⟨u1, u2⟩ := utf3 s pos (by omega)
 obtain ⟨b1, b2⟩ := beg3 (s.get! pos) (s.get! (pos + 1)) (s.get! (pos + 2)) (by omega)
 constructor
 · intro h
   obtain ⟨h1, h2⟩ := u1.1 h
   refine ⟨by omega, u2 h, fun n hn hn' => ?_⟩
   obtain rfl | rfl | rfl : n = 1 ∨ n = 2 ∨ n = 3 := by omega
   · rw [ext1 s pos (by omega)]; exact (b2 h2).1
   · rw [ext2 s pos (by omega)]; exact (b2 h2).2
   · rw [ext3 s pos (by omega)]; exact b1.2 h2
 · intro h h'
   rw [ext3 s pos h] at h'
   exact u1.2 ⟨by omega, b1.1 h'⟩
theorem at4 (s : ByteArray) (pos : Nat) (hb : 240 ≤ (s.get! pos).toNat ∧ (s.get! pos).toNat ≤ 247) :
   (utfBad s pos = false → pos + 4 ≤ s.size ∧ (Utf8.decode s pos).2 = 4 ∧ ∀ n, 1 ≤ n → n ≤ 4 → beginsB (s.extract pos (pos + n)).data.toList 4 = true) ∧ (pos + 4 ≤ s.size → beginsB (s.extract pos (pos + 4)).data.toList 4 = true → utfBad s pos = false) := by
 obtain ⟨u1, u2⟩ := utf4 s pos (by omega)
 obtain ⟨b1, b2⟩ := beg4 (s.get! pos) (s.get! (pos + 1)) (s.get! (pos + 2)) (s.get! (pos + 3)) (by omega)
 constructor
 · intro h
   obtain ⟨h1, h2⟩ := u1.1 h
   refine ⟨by omega, u2 h, fun n hn hn' => ?_⟩
   obtain rfl | rfl | rfl | rfl : n = 1 ∨ n = 2 ∨ n = 3 ∨ n = 4 := by omega
   · rw [ext1 s pos (by omega)]; exact (b2 h2).1
   · rw [ext2 s pos (by omega)]; exact (b2 h2).2.1
   · rw [ext3 s pos (by omega)]; exact (b2 h2).2.2
   · rw [ext4 s pos (by omega)]; exact b1.2 h2
 · intro h h'
   rw [ext4 s pos h] at h'
   exact u1.2 ⟨by omega, b1.1 h'⟩
theorem get_byte (s : ByteArray) (k : Nat) (h : k < s.size) : s.get! k = s[k] := by
 have hl : k < s.data.toList.length := by simpa using h
 rw [get_at s k hl]; rfl
theorem ext_byte (s : ByteArray) (pos n : Nat) (h : pos + n ≤ s.size) (hn : 1 ≤ n) : byteI (s.extract pos (pos + n)).data.toList 0 = (s[pos].toNat : Int) := by
 have hl : s.data.toList.length = s.size := by simp
 rw [ext_listU, drop_at _ _ (by omega), ← get_at s pos (by omega), get_byte s pos (by omega)]
 obtain ⟨m, rfl⟩ : ∃ m, n = m + 1 := ⟨n - 1, by omega⟩
 rfl
def rBd (k : Nat) (r : Int) : Prop := 0 ≤ r ∧ ((k = 0 ∧ r < 256) ∨ (k = 1 ∧ r < 16896) ∨ (k = 2 ∧ r < 1081600) ∨ (k = 3 ∧ r < 69222656))
set_option maxHeartbeats 1000000 in
set_option maxRecDepth 100000 in
theorem refNext2 (s : ByteArray) (pos : Nat) (w : World) (hs : s.size ≤ 4611686018427387904) (hp : pos < s.size) (h1 : 192 ≤ (s[pos].toNat : Int)) (h2 : (s[pos].toNat : Int) ≤ 223) :
   Calls Tryz.prog 175 #[.string s, .int .i64 pos] w (NextPost s pos w) := by
 have HAT := Lib.hid (at2 s pos (by rw [get_byte s pos hp]; omega))
 have hp1 : ¬ (pos : Int) < 0 := by omega
 have hp2 : (pos : Int) < (s.size : Int) := by omega
 have hp3 : ((pos : Int) == (s.size : Int)) = false := by simp; omega
 have hp4 : decide ((pos : Int) < 0) = false := decide_eq_false (by omega)
 have HBY := Lib.hid (fun n => ext_byte s pos n)
 obtain ⟨c0, hc0⟩ : ∃ c0, c0 = (s[pos].toNat : Int) := ⟨_, rfl⟩
 have HC0 := Lib.hid hc0
 have hc1 : (s[pos].toNat : Int) = c0 := hc0.symm
 rw [← hc0] at h1 h2
 clear hc0
 have g1 : decide (c0 < 192) = false := by simp; omega
 go_enter Tryz.func175, Tryz.ntmps175
 go_wp2
 go_loopw [9] (fun i wr => ∃ k : Nat, k ≤ 2 ∧ i = .int .i64 ((k : Int) + 1) ∧ (1 ≤ k → pos + k ≤ s.size ∧ beginsB (s.extract pos (pos + k)).data.toList 2 = true) ∧ Below w.heap.size w wr) (fun i _ => 2 + 1 - (intOf i).toNat)
 case atStart => exact ⟨0, by omega, rfl, fun h => by omega, Below.refl _ _⟩
 case round =>
   obtain ⟨k, hk, rfl, hin, hbel⟩ := hrel
   have HIN := Lib.hid hin
   have HB := Lib.hid hbel
   clear hin hbel
   by_cases hlt : k < 2
   · have hlt1 : (k : Int) + 1 ≤ 2 := by omega
     by_cases hsz : pos + (k + 1) ≤ s.size
     · have hsz1 : ¬ (s.size : Int) < (pos : Int) + ((k : Int) + 1) := by omega
       have hsz2 : (pos : Int) + ((k : Int) + 1) ≤ (s.size : Int) := by omega
       have t1 : ((pos : Int) + ((k : Int) + 1)).toNat = pos + (k + 1) := by omega
       have HBG := Lib.hid (refBegins2 (s.extract pos (pos + (k + 1))) wr (by rw [ByteArray.size_extract]; omega) (by rw [HBY.out (k + 1) hsz (by omega), ← HC0.out]; exact h1) (by rw [HBY.out (k + 1) hsz (by omega), ← HC0.out]; exact h2))
       cases hbg : beginsB (s.extract pos (pos + (k + 1))).data.toList 2
       · rw [hbg] at HBG
         have HBAD := Lib.hid (show utfBad s pos = true by
           cases h : utfBad s pos
           · have := (HAT.out.1 h).2.2 (k + 1) (by omega) (by omega)
             rw [hbg] at this; cases this
           · rfl)
         clear hbg
         go_wp2_with fail
         refine HBG.out.mono ?_
         rintro e w1 ⟨rfl, hb1⟩
         have HB1 := Lib.hid (HB.out.trans (hb1.mono HB.out.size))
         clear hb1
         go_wp2
         go_ret3
         exact ⟨0, 0, 12, rfl, .inr ⟨HBAD.out, by decide⟩, HB1.out⟩
       · rw [hbg] at HBG
         have HBT := Lib.hid hbg
         clear hbg
         go_wp2_with fail
         refine HBG.out.mono ?_
         rintro e w1 ⟨rfl, hb1⟩
         have HB1 := Lib.hid (HB.out.trans (hb1.mono HB.out.size))
         clear hb1
         go_wp2
         go_roundw
         case rel => exact ⟨k + 1, by omega, by go_num, fun _ => ⟨hsz, HBT.out⟩, HB1.out⟩
         case measure => simp [intOf]; omega
     · have hsz1 : (s.size : Int) < (pos : Int) + ((k : Int) + 1) := by omega
       have HBAD := Lib.hid (show utfBad s pos = true by
         cases h : utfBad s pos
         · have := (HAT.out.1 h).1; omega
         · rfl)
       go_wp2
       go_ret3
       exact ⟨0, 0, 4, rfl, .inr ⟨HBAD.out, by decide⟩, HB.out⟩
   · have hk2 : k = 2 := by omega
     have HOK := Lib.hid (show utfBad s pos = false by
       obtain ⟨q1, q2⟩ := HIN.out (by omega)
       rw [hk2] at q1 q2
       exact HAT.out.2 q1 q2)
     have hfit : pos + 2 ≤ s.size := by have := (HIN.out (by omega)).1; omega
     have HDE := Lib.hid (HAT.out.1 HOK.out).2.1
     have hlt1 : ¬ (k : Int) + 1 ≤ 2 := by omega
     clear hk2
     obtain ⟨wo, rfl⟩ : ∃ wo : World, wo = wr := ⟨_, rfl⟩
     go_wp2
     go_loopw [10, 11] (fun r i wr => ∃ (j : Nat) (r' : Int), j + 1 ≤ 2 ∧ i = .int .i64 ((j : Int) + 1) ∧ r = .int .i64 r' ∧ rBd j r' ∧ Below w.heap.size w wr) (fun _ i _ => 2 - (intOf i).toNat)
     case atStart => exact ⟨0, _, by omega, rfl, rfl, by unfold rBd; omega, HB.out.alloc HB.out.size _⟩
     case round =>
       obtain ⟨j, r', hj, rfl, rfl, hrb, hbel⟩ := hrel
       have HB2 := Lib.hid hbel
       clear hbel
       have hr0 : 0 ≤ r' := hrb.1
       have hr1 : r' < 69222656 := by unfold rBd at hrb; omega
       by_cases hjl : j + 1 < 2
       · have hjl1 : (j : Int) + 1 < 2 := by omega
         have hx1 : (pos : Int) + ((j : Int) + 1) < (s.size : Int) := by omega
         have t1 : ((pos : Int) + ((j : Int) + 1)).toNat = pos + (j + 1) := by omega
         have hx2 : pos + (j + 1) < s.size := by omega
         obtain ⟨c, hc⟩ : ∃ c : Int, (s[pos + (j + 1)].toNat : Int) = c := ⟨_, rfl⟩
         have hc2 : 0 ≤ c ∧ c ≤ 255 := by have := s[pos + (j + 1)].toNat_lt; omega
         obtain ⟨d, hd⟩ : ∃ d : Int, IntKind.u8.wrap (c - 128) = d := ⟨_, rfl⟩
         have hd2 : 0 ≤ d ∧ d ≤ 255 := by rw [← hd, IntKind.wrap_u8]; omega
         go_wp2
         go_roundw
         case rel => exact ⟨j + 1, _, by omega, by go_num, rfl, by unfold rBd at hrb ⊢; omega, HB2.out⟩
         case measure => simp [intOf]; omega
       · have hjl1 : ¬ (j : Int) + 1 < 2 := by omega
         go_wp2
         go_ret3
         exact ⟨_, 2, 0, rfl, .inl ⟨HOK.out, rfl, by rw [HDE.out]; rfl⟩, HB2.out⟩
set_option maxHeartbeats 1000000 in
set_option maxRecDepth 100000 in
theorem refNext3 (s : ByteArray) (pos : Nat) (w : World) (hs : s.size ≤ 4611686018427387904) (hp : pos < s.size) (h1 : 224 ≤ (s[pos].toNat : Int)) (h2 : (s[pos].toNat : Int) ≤ 239) :
   Calls Tryz.prog 175 #[.string s, .int .i64 pos] w (NextPost s pos w) := by
 have HAT := Lib.hid (at3 s pos (by rw [get_byte s pos hp]; omega))
 have hp1 : ¬ (pos : Int) < 0 := by omega
 have hp2 : (pos : Int) < (s.size : Int) := by omega
 have hp3 : ((pos : Int) == (s.size : Int)) = false := by simp; omega
 have hp4 : decide ((pos : Int) < 0) = false := decide_eq_false (by omega)
 have HBY := Lib.hid (fun n => ext_byte s pos n)
 obtain ⟨c0, hc0⟩ : ∃ c0, c0 = (s[pos].toNat : Int) := ⟨_, rfl⟩
 have HC0 := Lib.hid hc0
 have hc1 : (s[pos].toNat : Int) = c0 := hc0.symm
 rw [← hc0] at h1 h2
 clear hc0
 have g1 : decide (c0 < 192) = false := by simp; omega
 go_enter Tryz.func175, Tryz.ntmps175
 go_wp2
 go_loopw [9] (fun i wr => ∃ k : Nat, k ≤ 3 ∧ i = .int .i64 ((k : Int) + 1) ∧ (1 ≤ k → pos + k ≤ s.size ∧ beginsB (s.extract pos (pos + k)).data.toList 3 = true) ∧ Below w.heap.size w wr) (fun i _ => 3 + 1 - (intOf i).toNat)
 case atStart => exact ⟨0, by omega, rfl, fun h => by omega, Below.refl _ _⟩
 case round =>
   obtain ⟨k, hk, rfl, hin, hbel⟩ := hrel
   have HIN := Lib.hid hin
   have HB := Lib.hid hbel
   clear hin hbel
   by_cases hlt : k < 3
   · have hlt1 : (k : Int) + 1 ≤ 3 := by omega
     by_cases hsz : pos + (k + 1) ≤ s.size
     · have hsz1 : ¬ (s.size : Int) < (pos : Int) + ((k : Int) + 1) := by omega
       have hsz2 : (pos : Int) + ((k : Int) + 1) ≤ (s.size : Int) := by omega
       have t1 : ((pos : Int) + ((k : Int) + 1)).toNat = pos + (k + 1) := by omega
       have HBG := Lib.hid (refBegins3 (s.extract pos (pos + (k + 1))) wr (by rw [ByteArray.size_extract]; omega) (by rw [HBY.out (k + 1) hsz (by omega), ← HC0.out]; exact h1) (by rw [HBY.out (k + 1) hsz (by omega), ← HC0.out]; exact h2))
       cases hbg : beginsB (s.extract pos (pos + (k + 1))).data.toList 3
       · rw [hbg] at HBG
         have HBAD := Lib.hid (show utfBad s pos = true by
           cases h : utfBad s pos
           · have := (HAT.out.1 h).2.2 (k + 1) (by omega) (by omega)
             rw [hbg] at this; cases this
           · rfl)
         clear hbg
         go_wp2_with fail
         refine HBG.out.mono ?_
         rintro e w1 ⟨rfl, hb1⟩
         have HB1 := Lib.hid (HB.out.trans (hb1.mono HB.out.size))
         clear hb1
         go_wp2
         go_ret3
         exact ⟨0, 0, 12, rfl, .inr ⟨HBAD.out, by decide⟩, HB1.out⟩
       · rw [hbg] at HBG
         have HBT := Lib.hid hbg
         clear hbg
         go_wp2_with fail
         refine HBG.out.mono ?_
         rintro e w1 ⟨rfl, hb1⟩
         have HB1 := Lib.hid (HB.out.trans (hb1.mono HB.out.size))
         clear hb1
         go_wp2
         go_roundw
         case rel => exact ⟨k + 1, by omega, by go_num, fun _ => ⟨hsz, HBT.out⟩, HB1.out⟩
         case measure => simp [intOf]; omega
     · have hsz1 : (s.size : Int) < (pos : Int) + ((k : Int) + 1) := by omega
       have HBAD := Lib.hid (show utfBad s pos = true by
         cases h : utfBad s pos
         · have := (HAT.out.1 h).1; omega
         · rfl)
       go_wp2
       go_ret3
       exact ⟨0, 0, 4, rfl, .inr ⟨HBAD.out, by decide⟩, HB.out⟩
   · have hk2 : k = 3 := by omega
     have HOK := Lib.hid (show utfBad s pos = false by
       obtain ⟨q1, q2⟩ := HIN.out (by omega)
       rw [hk2] at q1 q2
       exact HAT.out.2 q1 q2)
     have hfit : pos + 3 ≤ s.size := by have := (HIN.out (by omega)).1; omega
     have HDE := Lib.hid (HAT.out.1 HOK.out).2.1
     have hlt1 : ¬ (k : Int) + 1 ≤ 3 := by omega
     clear hk2
     obtain ⟨wo, rfl⟩ : ∃ wo : World, wo = wr := ⟨_, rfl⟩
     go_wp2
     go_loopw [10, 11] (fun r i wr => ∃ (j : Nat) (r' : Int), j + 1 ≤ 3 ∧ i = .int .i64 ((j : Int) + 1) ∧ r = .int .i64 r' ∧ rBd j r' ∧ Below w.heap.size w wr) (fun _ i _ => 3 - (intOf i).toNat)
     case atStart => exact ⟨0, _, by omega, rfl, rfl, by unfold rBd; omega, HB.out.alloc HB.out.size _⟩
     case round =>
       obtain ⟨j, r', hj, rfl, rfl, hrb, hbel⟩ := hrel
       have HB2 := Lib.hid hbel
       clear hbel
       have hr0 : 0 ≤ r' := hrb.1
       have hr1 : r' < 69222656 := by unfold rBd at hrb; omega
       by_cases hjl : j + 1 < 3
       · have hjl1 : (j : Int) + 1 < 3 := by omega
         have hx1 : (pos : Int) + ((j : Int) + 1) < (s.size : Int) := by omega
         have t1 : ((pos : Int) + ((j : Int) + 1)).toNat = pos + (j + 1) := by omega
         have hx2 : pos + (j + 1) < s.size := by omega
         obtain ⟨c, hc⟩ : ∃ c : Int, (s[pos + (j + 1)].toNat : Int) = c := ⟨_, rfl⟩
         have hc2 : 0 ≤ c ∧ c ≤ 255 := by have := s[pos + (j + 1)].toNat_lt; omega
         obtain ⟨d, hd⟩ : ∃ d : Int, IntKind.u8.wrap (c - 128) = d := ⟨_, rfl⟩
         have hd2 : 0 ≤ d ∧ d ≤ 255 := by rw [← hd, IntKind.wrap_u8]; omega
         go_wp2
         go_roundw
         case rel => exact ⟨j + 1, _, by omega, by go_num, rfl, by unfold rBd at hrb ⊢; omega, HB2.out⟩
         case measure => simp [intOf]; omega
       · have hjl1 : ¬ (j : Int) + 1 < 3 := by omega
         go_wp2
         go_ret3
         exact ⟨_, 3, 0, rfl, .inl ⟨HOK.out, rfl, by rw [HDE.out]; rfl⟩, HB2.out⟩
set_option maxHeartbeats 1000000 in
set_option maxRecDepth 100000 in
theorem refNext4 (s : ByteArray) (pos : Nat) (w : World) (hs : s.size ≤ 4611686018427387904) (hp : pos < s.size) (h1 : 240 ≤ (s[pos].toNat : Int)) (h2 : (s[pos].toNat : Int) ≤ 247) :
   Calls Tryz.prog 175 #[.string s, .int .i64 pos] w (NextPost s pos w) := by
 have HAT := Lib.hid (at4 s pos (by rw [get_byte s pos hp]; omega))
 have hp1 : ¬ (pos : Int) < 0 := by omega
 have hp2 : (pos : Int) < (s.size : Int) := by omega
 have hp3 : ((pos : Int) == (s.size : Int)) = false := by simp; omega
 have hp4 : decide ((pos : Int) < 0) = false := decide_eq_false (by omega)
 have HBY := Lib.hid (fun n => ext_byte s pos n)
 obtain ⟨c0, hc0⟩ : ∃ c0, c0 = (s[pos].toNat : Int) := ⟨_, rfl⟩
 have HC0 := Lib.hid hc0
 have hc1 : (s[pos].toNat : Int) = c0 := hc0.symm
 rw [← hc0] at h1 h2
 clear hc0
 have g1 : decide (c0 < 192) = false := by simp; omega
 go_enter Tryz.func175, Tryz.ntmps175
 go_wp2
 go_loopw [9] (fun i wr => ∃ k : Nat, k ≤ 4 ∧ i = .int .i64 ((k : Int) + 1) ∧ (1 ≤ k → pos + k ≤ s.size ∧ beginsB (s.extract pos (pos + k)).data.toList 4 = true) ∧ Below w.heap.size w wr) (fun i _ => 4 + 1 - (intOf i).toNat)
 case atStart => exact ⟨0, by omega, rfl, fun h => by omega, Below.refl _ _⟩
 case round =>
   obtain ⟨k, hk, rfl, hin, hbel⟩ := hrel
   have HIN := Lib.hid hin
   have HB := Lib.hid hbel
   clear hin hbel
   by_cases hlt : k < 4
   · have hlt1 : (k : Int) + 1 ≤ 4 := by omega
     by_cases hsz : pos + (k + 1) ≤ s.size
     · have hsz1 : ¬ (s.size : Int) < (pos : Int) + ((k : Int) + 1) := by omega
       have hsz2 : (pos : Int) + ((k : Int) + 1) ≤ (s.size : Int) := by omega
       have t1 : ((pos : Int) + ((k : Int) + 1)).toNat = pos + (k + 1) := by omega
       have HBG := Lib.hid (refBegins4 (s.extract pos (pos + (k + 1))) wr (by rw [ByteArray.size_extract]; omega) (by rw [HBY.out (k + 1) hsz (by omega), ← HC0.out]; exact h1) (by rw [HBY.out (k + 1) hsz (by omega), ← HC0.out]; exact h2))
       cases hbg : beginsB (s.extract pos (pos + (k + 1))).data.toList 4
       · rw [hbg] at HBG
         have HBAD := Lib.hid (show utfBad s pos = true by
           cases h : utfBad s pos
           · have := (HAT.out.1 h).2.2 (k + 1) (by omega) (by omega)
             rw [hbg] at this; cases this
           · rfl)
         clear hbg
         go_wp2_with fail
         refine HBG.out.mono ?_
         rintro e w1 ⟨rfl, hb1⟩
         have HB1 := Lib.hid (HB.out.trans (hb1.mono HB.out.size))
         clear hb1
         go_wp2
         go_ret3
         exact ⟨0, 0, 12, rfl, .inr ⟨HBAD.out, by decide⟩, HB1.out⟩
       · rw [hbg] at HBG
         have HBT := Lib.hid hbg
         clear hbg
         go_wp2_with fail
         refine HBG.out.mono ?_
         rintro e w1 ⟨rfl, hb1⟩
         have HB1 := Lib.hid (HB.out.trans (hb1.mono HB.out.size))
         clear hb1
         go_wp2
         go_roundw
         case rel => exact ⟨k + 1, by omega, by go_num, fun _ => ⟨hsz, HBT.out⟩, HB1.out⟩
         case measure => simp [intOf]; omega
     · have hsz1 : (s.size : Int) < (pos : Int) + ((k : Int) + 1) := by omega
       have HBAD := Lib.hid (show utfBad s pos = true by
         cases h : utfBad s pos
         · have := (HAT.out.1 h).1; omega
         · rfl)
       go_wp2
       go_ret3
       exact ⟨0, 0, 4, rfl, .inr ⟨HBAD.out, by decide⟩, HB.out⟩
   · have hk2 : k = 4 := by omega
     have HOK := Lib.hid (show utfBad s pos = false by
       obtain ⟨q1, q2⟩ := HIN.out (by omega)
       rw [hk2] at q1 q2
       exact HAT.out.2 q1 q2)
     have hfit : pos + 4 ≤ s.size := by have := (HIN.out (by omega)).1; omega
     have HDE := Lib.hid (HAT.out.1 HOK.out).2.1
     have hlt1 : ¬ (k : Int) + 1 ≤ 4 := by omega
     clear hk2
     obtain ⟨wo, rfl⟩ : ∃ wo : World, wo = wr := ⟨_, rfl⟩
     go_wp2
     go_loopw [10, 11] (fun r i wr => ∃ (j : Nat) (r' : Int), j + 1 ≤ 4 ∧ i = .int .i64 ((j : Int) + 1) ∧ r = .int .i64 r' ∧ rBd j r' ∧ Below w.heap.size w wr) (fun _ i _ => 4 - (intOf i).toNat)
     case atStart => exact ⟨0, _, by omega, rfl, rfl, by unfold rBd; omega, HB.out.alloc HB.out.size _⟩
     case round =>
       obtain ⟨j, r', hj, rfl, rfl, hrb, hbel⟩ := hrel
       have HB2 := Lib.hid hbel
       clear hbel
       have hr0 : 0 ≤ r' := hrb.1
       have hr1 : r' < 69222656 := by unfold rBd at hrb; omega
       by_cases hjl : j + 1 < 4
       · have hjl1 : (j : Int) + 1 < 4 := by omega
         have hx1 : (pos : Int) + ((j : Int) + 1) < (s.size : Int) := by omega
         have t1 : ((pos : Int) + ((j : Int) + 1)).toNat = pos + (j + 1) := by omega
         have hx2 : pos + (j + 1) < s.size := by omega
         obtain ⟨c, hc⟩ : ∃ c : Int, (s[pos + (j + 1)].toNat : Int) = c := ⟨_, rfl⟩
         have hc2 : 0 ≤ c ∧ c ≤ 255 := by have := s[pos + (j + 1)].toNat_lt; omega
         obtain ⟨d, hd⟩ : ∃ d : Int, IntKind.u8.wrap (c - 128) = d := ⟨_, rfl⟩
         have hd2 : 0 ≤ d ∧ d ≤ 255 := by rw [← hd, IntKind.wrap_u8]; omega
         go_wp2
         go_roundw
         case rel => exact ⟨j + 1, _, by omega, by go_num, rfl, by unfold rBd at hrb ⊢; omega, HB2.out⟩
         case measure => simp [intOf]; omega
       · have hjl1 : ¬ (j : Int) + 1 < 4 := by omega
         go_wp2
         go_ret3
         exact ⟨_, 4, 0, rfl, .inl ⟨HOK.out, rfl, by rw [HDE.out]; rfl⟩, HB2.out⟩
set_option maxHeartbeats 400000 in
theorem refNext (s : ByteArray) (pos : Nat) (w : World) (hs : s.size ≤ 4611686018427387904) (hp : pos < s.size) :
   Calls Tryz.prog 175 #[.string s, .int .i64 pos] w (NextPost s pos w) := by
 have hlt := s[pos].toNat_lt
 have HG := Lib.hid (get_byte s pos hp)
 by_cases q0 : (s[pos].toNat : Int) < 128
 · have HU := Lib.hid (utf1 s pos (by rw [HG.out]; omega))
   have hp1 : ¬ (pos : Int) < 0 := by omega
   have hp2 : (pos : Int) < (s.size : Int) := by omega
   have hp3 : ((pos : Int) == (s.size : Int)) = false := by simp; omega
   have hp4 : decide ((pos : Int) < 0) = false := decide_eq_false (by omega)
   obtain ⟨c0, hc0⟩ : ∃ c0, (s[pos].toNat : Int) = c0 := ⟨_, rfl⟩
   rw [hc0] at q0
   have q1 : 0 ≤ c0 := by omega
   clear hlt
   go_enter Tryz.func175, Tryz.ntmps175
   go_wp2
   go_ret3
   exact ⟨_, 1, 0, rfl, .inl ⟨HU.out.1, rfl, by rw [HU.out.2]; rfl⟩, Below.refl _ _⟩
 by_cases q1 : (s[pos].toNat : Int) < 192 ∨ 247 < (s[pos].toNat : Int)
 · have HU := Lib.hid (utf0 s pos (by rw [HG.out]; omega))
   have hp1 : ¬ (pos : Int) < 0 := by omega
   have hp2 : (pos : Int) < (s.size : Int) := by omega
   have hp3 : ((pos : Int) == (s.size : Int)) = false := by simp; omega
   have hp4 : decide ((pos : Int) < 0) = false := decide_eq_false (by omega)
   obtain ⟨c0, hc0⟩ : ∃ c0, (s[pos].toNat : Int) = c0 := ⟨_, rfl⟩
   rw [hc0] at q0 q1
   clear hlt
   by_cases q2 : c0 < 192
   · go_enter Tryz.func175, Tryz.ntmps175
     go_wp2
     go_ret3
     exact ⟨0, 0, 12, rfl, .inr ⟨HU.out, by decide⟩, Below.refl _ _⟩
   · have q3 : 247 < c0 := by omega
     have q4 : decide (c0 < 192) = false := by simp; omega
     go_enter Tryz.func175, Tryz.ntmps175
     go_wp2
     go_ret3
     exact ⟨0, 0, 12, rfl, .inr ⟨HU.out, by decide⟩, Below.refl _ _⟩
 by_cases q2 : (s[pos].toNat : Int) ≤ 223
 · exact refNext2 s pos w hs hp (by omega) q2
 by_cases q3 : (s[pos].toNat : Int) ≤ 239
 · exact refNext3 s pos w hs hp (by omega) q3
 · exact refNext4 s pos w hs hp (by omega) (by omega)
end Go.Proofs.YtgghgcilpfdbjaaGreatDoor
