/- The contract of legateref06.Show. The contracts of legateref10.Text, form, Encode. -/
import Derived.Test.YtaekmmnpdbmoeaaGreatDoorJk02
import Derived.Lib.ItoaLen
import Derived.Test.YtaekmmnpdbmoeaaGreatDoorJh13
import Derived.Test.YtaekmmnpdbmoeaaGreatDoorJk01

namespace Go.Proofs.YtaekmmnpdbmoeaaGreatDoor
open Go.RowKit Go.Lib

def decPre (u : Nat) : List UInt8 := if u = 0 then [] else decDigits u
theorem decPre_step (u : Nat) : decDigits u = decPre (u / 10) ++ [UInt8.ofNat (48 + u % 10)] := by
  rw [decDigits]
  unfold decPre
  split
  · rename_i h
    rw [if_pos (by omega), Nat.mod_eq_of_lt h]; rfl
  · rename_i h
    rw [if_neg (by omega)]
theorem dig_u8 (u : Nat) : ((UInt8.ofNat (48 + u % 10)).toNat : Int) = 48 + ((u % 10 : Nat) : Int) := by rw [UInt8.toNat_ofNat']; omega
/-- What is still to be shown, at the loop's head. -/
def decX (i u : Nat) : List UInt8 := if i = 0 then decDigits u else decPre u
theorem decX_go {i u : Nat} (h : i = 0 ∨ u ≠ 0) : decX i u = decPre (u / 10) ++ [UInt8.ofNat (48 + u % 10)] := by
  rw [← decPre_step]
  unfold decX decPre
  split
  · rfl
  · rw [if_neg (h.resolve_left (by assumption))]
theorem decX_end {i u : Nat} (h : ¬ (i = 0 ∨ u ≠ 0)) : decX i u = [] := by
  have h1 : i ≠ 0 := fun e => h (.inl e)
  have h2 : u = 0 := by
    by_cases e : u = 0
    · exact e
    · exact absurd (.inr e) h
  unfold decX decPre
  rw [if_neg h1, if_pos h2]
theorem list_cons_ba (c : UInt8) (s : ByteArray) : ((⟨#[c]⟩ : ByteArray) ++ s).data.toList = c :: s.data.toList := by rw [app_list]; rfl

set_option maxRecDepth 100000 in
set_option maxHeartbeats 1000000 in
theorem ref06Show (n : Int) (w : World) (hn : inI64 n) :
    Calls Tryz.prog 124 #[.int .i64 n] w fun e w' => e = .returned (.string ⟨(Lib.itoa n).toArray⟩) ∧ Below w.heap.size w w' := by
  obtain ⟨hn0, hn1⟩ := hn
  by_cases hneg : n < 0
  · obtain ⟨u, hu⟩ : ∃ u : Nat, u = n.natAbs := ⟨_, rfl⟩
    have hun : n = -(u : Int) := by omega
    have hu1 : u ≤ 9223372036854775808 := by omega
    have HI := Lib.hid (show Lib.itoa n = 45 :: decDigits u by rw [hun]; exact itoa_neg u (by omega))
    have HL := Lib.hid (show (decDigits u).length ≤ 20 by rw [decDigits_length]; exact nDigits_le20 u (by omega))
    obtain ⟨R, hR⟩ : ∃ R : ByteArray, R = ⟨(Lib.itoa n).toArray⟩ := ⟨_, rfl⟩
    rw [← hR]
    have HR := Lib.hid (show R.data.toList = 45 :: decDigits u by rw [hR]; exact HI.out)
    obtain ⟨D, hD⟩ : ∃ D, D = decDigits u := ⟨_, rfl⟩
    rw [← hD] at HL HR
    have HD := Lib.hid hD
    have hnd : decide (n < 0) = true := decide_eq_true hneg
    clear HI hR hD hu
    go_enter Tryz.func124, Tryz.ntmps124
    go_wp2
    go_loopw [0, 3, 5] (fun x s i wr => ∃ (c k : Nat) (t : ByteArray), x = .int .i64 (-(c : Int)) ∧ s = .string t ∧ i = .int .i64 k ∧ c ≤ 9223372036854775808 ∧ decX k c ++ t.data.toList = D ∧ t.size = k ∧ Below w.heap.size w wr) (fun x _ i _ => (intOf x).natAbs + (if intOf i = 0 then 1 else 0))
    case atStart => exact ⟨u, 0, ⟨#[]⟩, by rw [hun], rfl, rfl, hu1, by rw [HD.out]; unfold decX; simp, rfl, Below.refl _ _⟩
    case round =>
      obtain ⟨c, k, t, rfl, rfl, rfl, hc, hd, hk, hbel⟩ := hrel
      have HDD := Lib.hid hd
      have HB := Lib.hid hbel
      have HK := Lib.hid hk
      have hk20 : k ≤ 20 := by
        have := congrArg List.length hd
        rw [List.length_append, toList_length] at this
        have := HL.out
        omega
      clear hd hbel hk
      have hzt : t.size ≤ 20 := by rw [HK.out]; exact hk20
      by_cases hgo : k = 0 ∨ c ≠ 0
      · have HX := Lib.hid (decX_go hgo)
        obtain ⟨d, hdd⟩ : ∃ d, d = c % 10 := ⟨_, rfl⟩
        obtain ⟨q, hq⟩ : ∃ q, q = c / 10 := ⟨_, rfl⟩
        have hd10 : d < 10 := by omega
        have hqc : q < c ∨ (c = 0 ∧ q = 0) := by omega
        have HC := Lib.hid (show c = 10 * q + d by omega)
        obtain ⟨ch, hch⟩ : ∃ ch, ch = UInt8.ofNat (48 + d) := ⟨_, rfl⟩
        have hcu : (ch.toNat : Int) = 48 + (d : Int) := by rw [hch, UInt8.toNat_ofNat']; omega
        rw [← hdd, ← hq, ← hch] at HX
        have hcv := run_convert_owned (P := Tryz.prog) 108 9 5 Tryz.underlying108 Tryz.underlying5 Tryz.underlying9 (lit_byte wr ch)
        rw [hcu] at hcv
        have r1 : (-(c : Int)).tmod 10 = -(d : Int) := by rw [Int.neg_tmod, Int.tmod_eq_emod_of_nonneg (by omega)]; omega
        have r2 : (-(c : Int)).tdiv 10 = -(q : Int) := by rw [Int.neg_tdiv, Int.tdiv_eq_ediv_of_nonneg (by omega)]; omega
        have r3 : wrap64 (-(q : Int)) = -(q : Int) := by unfold wrap64; omega
        have r4 : IntKind.i64.wrap (-(q : Int)) = -(q : Int) := IntWalk.i64_in _ (by omega)
        have HQC := Lib.hid hqc
        clear hch hcu hdd hq hqc
        by_cases hk0 : k = 0
        · have t0 : ((k : Int) == 0) = true := by simp; omega
          have HGO := Lib.hid hgo
          clear hgo hk0
          by_cases hd0 : d = 0
          · have n1 : ¬ ((-(d : Int)) < 0) := by omega
            have m1 : IntKind.u8.wrap (48 + (-(d : Int))) = 48 + (d : Int) := by unfold IntKind.wrap; simp [IntKind.signed, IntKind.bits]; omega
            clear hd0
            go_wp2
            go_roundw
            case rel =>
              refine ⟨q, k + 1, ⟨#[ch]⟩ ++ t, rfl, rfl, by go_num, by have := HQC.out; omega, ?_, ?_, HB.out.alloc HB.out.size _⟩
              · rw [list_cons_ba, ← HDD.out, HX.out, show decX (k + 1) q = decPre q from by unfold decX; rw [if_neg (by omega)]]; simp
              · rw [ByteArray.size_append]; have := HK.out; show 1 + t.size = _; omega
            case measure =>
              have hgo := HGO.out
              have hqc := HQC.out
              show (-(q : Int)).natAbs + (if ((k : Int) + 1) = 0 then 1 else 0) < (-(c : Int)).natAbs + (if (k : Int) = 0 then 1 else 0)
              split <;> split <;> omega
          · have n1 : (-(d : Int)) < 0 := by omega
            have m1 : IntKind.u8.wrap (48 + (d : Int)) = 48 + (d : Int) := by unfold IntKind.wrap; simp [IntKind.signed, IntKind.bits]; omega
            have m2 : IntKind.i64.wrap (d : Int) = (d : Int) := IntWalk.i64_in _ (by omega)
            go_wp2
            go_roundw
            case rel =>
              refine ⟨q, k + 1, ⟨#[ch]⟩ ++ t, rfl, rfl, by go_num, by have := HQC.out; omega, ?_, ?_, HB.out.alloc HB.out.size _⟩
              · rw [list_cons_ba, ← HDD.out, HX.out, show decX (k + 1) q = decPre q from by unfold decX; rw [if_neg (by omega)]]; simp
              · rw [ByteArray.size_append]; have := HK.out; show 1 + t.size = _; omega
            case measure =>
              have hgo := HGO.out
              have hqc := HQC.out
              show (-(q : Int)).natAbs + (if ((k : Int) + 1) = 0 then 1 else 0) < (-(c : Int)).natAbs + (if (k : Int) = 0 then 1 else 0)
              split <;> split <;> omega
        · have t0 : ((k : Int) == 0) = false := by simp; omega
          have t1 : ((-(c : Int)) != 0) = true := by have := hgo.resolve_left hk0; simp; omega
          have HGO := Lib.hid hgo
          clear hgo hk0
          by_cases hd0 : d = 0
          · have n1 : ¬ ((-(d : Int)) < 0) := by omega
            have m1 : IntKind.u8.wrap (48 + (-(d : Int))) = 48 + (d : Int) := by unfold IntKind.wrap; simp [IntKind.signed, IntKind.bits]; omega
            clear hd0
            go_wp2
            go_roundw
            case rel =>
              refine ⟨q, k + 1, ⟨#[ch]⟩ ++ t, rfl, rfl, by go_num, by have := HQC.out; omega, ?_, ?_, HB.out.alloc HB.out.size _⟩
              · rw [list_cons_ba, ← HDD.out, HX.out, show decX (k + 1) q = decPre q from by unfold decX; rw [if_neg (by omega)]]; simp
              · rw [ByteArray.size_append]; have := HK.out; show 1 + t.size = _; omega
            case measure =>
              have hgo := HGO.out
              have hqc := HQC.out
              show (-(q : Int)).natAbs + (if ((k : Int) + 1) = 0 then 1 else 0) < (-(c : Int)).natAbs + (if (k : Int) = 0 then 1 else 0)
              split <;> split <;> omega
          · have n1 : (-(d : Int)) < 0 := by omega
            have m1 : IntKind.u8.wrap (48 + (d : Int)) = 48 + (d : Int) := by unfold IntKind.wrap; simp [IntKind.signed, IntKind.bits]; omega
            have m2 : IntKind.i64.wrap (d : Int) = (d : Int) := IntWalk.i64_in _ (by omega)
            go_wp2
            go_roundw
            case rel =>
              refine ⟨q, k + 1, ⟨#[ch]⟩ ++ t, rfl, rfl, by go_num, by have := HQC.out; omega, ?_, ?_, HB.out.alloc HB.out.size _⟩
              · rw [list_cons_ba, ← HDD.out, HX.out, show decX (k + 1) q = decPre q from by unfold decX; rw [if_neg (by omega)]]; simp
              · rw [ByteArray.size_append]; have := HK.out; show 1 + t.size = _; omega
            case measure =>
              have hgo := HGO.out
              have hqc := HQC.out
              show (-(q : Int)).natAbs + (if ((k : Int) + 1) = 0 then 1 else 0) < (-(c : Int)).natAbs + (if (k : Int) = 0 then 1 else 0)
              split <;> split <;> omega
      · have HX := Lib.hid (decX_end hgo)
        have t0 : ((k : Int) == 0) = false := by have : k ≠ 0 := fun e => hgo (.inl e); simp; omega
        have t1 : ((-(c : Int)) != 0) = false := by
          have : c = 0 := by
            by_cases e : c = 0
            · exact e
            · exact absurd (.inr e) hgo
          simp; omega
        have HE := Lib.hid (show (⟨#[45]⟩ : ByteArray) ++ t = R from ba_ext (by rw [ByteArray.toList_eq, ByteArray.toList_eq, list_cons_ba, HR.out, ← HDD.out, HX.out]; rfl))
        clear hgo
        go_wp2
        go_ret
        exact ⟨congrArg (fun z => Ending.returned (.string z)) HE.out, HB.out⟩
  · obtain ⟨u, hu⟩ : ∃ u : Nat, u = n.toNat := ⟨_, rfl⟩
    have hun : n = (u : Int) := by omega
    have hu1 : u ≤ 9223372036854775808 := by omega
    have HI := Lib.hid (show Lib.itoa n = decDigits u by rw [hun]; exact itoa_nonneg u)
    have HL := Lib.hid (show (decDigits u).length ≤ 20 by rw [decDigits_length]; exact nDigits_le20 u (by omega))
    obtain ⟨R, hR⟩ : ∃ R : ByteArray, R = ⟨(Lib.itoa n).toArray⟩ := ⟨_, rfl⟩
    rw [← hR]
    have HR := Lib.hid (show R.data.toList = decDigits u by rw [hR]; exact HI.out)
    obtain ⟨D, hD⟩ : ∃ D, D = decDigits u := ⟨_, rfl⟩
    rw [← hD] at HL HR
    have HD := Lib.hid hD
    have hnd : decide (n < 0) = false := decide_eq_false hneg
    clear HI hR hD hu
    go_enter Tryz.func124, Tryz.ntmps124
    go_wp2
    go_loopw [0, 3, 5] (fun x s i wr => ∃ (c k : Nat) (t : ByteArray), x = .int .i64 (c : Int) ∧ s = .string t ∧ i = .int .i64 k ∧ c ≤ 9223372036854775808 ∧ decX k c ++ t.data.toList = D ∧ t.size = k ∧ Below w.heap.size w wr) (fun x _ i _ => (intOf x).natAbs + (if intOf i = 0 then 1 else 0))
    case atStart => exact ⟨u, 0, ⟨#[]⟩, rfl, rfl, rfl, hu1, by rw [HD.out]; unfold decX; simp, rfl, Below.refl _ _⟩
    case round =>
      obtain ⟨c, k, t, rfl, rfl, rfl, hc, hd, hk, hbel⟩ := hrel
      have HDD := Lib.hid hd
      have HB := Lib.hid hbel
      have HK := Lib.hid hk
      have hk20 : k ≤ 20 := by
        have := congrArg List.length hd
        rw [List.length_append, toList_length] at this
        have := HL.out
        omega
      clear hd hbel hk
      have hzt : t.size ≤ 20 := by rw [HK.out]; exact hk20
      by_cases hgo : k = 0 ∨ c ≠ 0
      · have HX := Lib.hid (decX_go hgo)
        obtain ⟨d, hdd⟩ : ∃ d, d = c % 10 := ⟨_, rfl⟩
        obtain ⟨q, hq⟩ : ∃ q, q = c / 10 := ⟨_, rfl⟩
        have hd10 : d < 10 := by omega
        have hqc : q < c ∨ (c = 0 ∧ q = 0) := by omega
        have HC := Lib.hid (show c = 10 * q + d by omega)
        obtain ⟨ch, hch⟩ : ∃ ch, ch = UInt8.ofNat (48 + d) := ⟨_, rfl⟩
        have hcu : (ch.toNat : Int) = 48 + (d : Int) := by rw [hch, UInt8.toNat_ofNat']; omega
        rw [← hdd, ← hq, ← hch] at HX
        have hcv := run_convert_owned (P := Tryz.prog) 108 9 5 Tryz.underlying108 Tryz.underlying5 Tryz.underlying9 (lit_byte wr ch)
        rw [hcu] at hcv
        have r1 : (c : Int).tmod 10 = (d : Int) := by rw [Int.tmod_eq_emod_of_nonneg (by omega)]; omega
        have r2 : (c : Int).tdiv 10 = (q : Int) := by rw [Int.tdiv_eq_ediv_of_nonneg (by omega)]; omega
        have r4 : IntKind.i64.wrap (q : Int) = (q : Int) := IntWalk.i64_in _ (by omega)
        have HQC := Lib.hid hqc
        clear hch hcu hdd hq hqc
        by_cases hk0 : k = 0
        · have t0 : ((k : Int) == 0) = true := by simp; omega
          have HGO := Lib.hid hgo
          clear hgo hk0
          have n1 : ¬ ((d : Int) < 0) := by omega
          have m1 : IntKind.u8.wrap (48 + (d : Int)) = 48 + (d : Int) := by unfold IntKind.wrap; simp [IntKind.signed, IntKind.bits]; omega
          go_wp2
          go_roundw
          case rel =>
            refine ⟨q, k + 1, ⟨#[ch]⟩ ++ t, rfl, rfl, by go_num, by have := HQC.out; omega, ?_, ?_, HB.out.alloc HB.out.size _⟩
            · rw [list_cons_ba, ← HDD.out, HX.out, show decX (k + 1) q = decPre q from by unfold decX; rw [if_neg (by omega)]]; simp
            · rw [ByteArray.size_append]; have := HK.out; show 1 + t.size = _; omega
          case measure =>
            have hgo := HGO.out
            have hqc := HQC.out
            show ((q : Int)).natAbs + (if ((k : Int) + 1) = 0 then 1 else 0) < ((c : Int)).natAbs + (if (k : Int) = 0 then 1 else 0)
            split <;> split <;> omega
        · have t0 : ((k : Int) == 0) = false := by simp; omega
          have t1 : ((c : Int) != 0) = true := by have := hgo.resolve_left hk0; simp; omega
          have HGO := Lib.hid hgo
          clear hgo hk0
          have n1 : ¬ ((d : Int) < 0) := by omega
          have m1 : IntKind.u8.wrap (48 + (d : Int)) = 48 + (d : Int) := by unfold IntKind.wrap; simp [IntKind.signed, IntKind.bits]; omega
          go_wp2
          go_roundw
          case rel =>
            refine ⟨q, k + 1, ⟨#[ch]⟩ ++ t, rfl, rfl, by go_num, by have := HQC.out; omega, ?_, ?_, HB.out.alloc HB.out.size _⟩
            · rw [list_cons_ba, ← HDD.out, HX.out, show decX (k + 1) q = decPre q from by unfold decX; rw [if_neg (by omega)]]; simp
            · rw [ByteArray.size_append]; have := HK.out; show 1 + t.size = _; omega
          case measure =>
            have hgo := HGO.out
            have hqc := HQC.out
            show ((q : Int)).natAbs + (if ((k : Int) + 1) = 0 then 1 else 0) < ((c : Int)).natAbs + (if (k : Int) = 0 then 1 else 0)
            split <;> split <;> omega
      · have HX := Lib.hid (decX_end hgo)
        have t0 : ((k : Int) == 0) = false := by have : k ≠ 0 := fun e => hgo (.inl e); simp; omega
        have t1 : ((c : Int) != 0) = false := by
          have : c = 0 := by
            by_cases e : c = 0
            · exact e
            · exact absurd (.inr e) hgo
          simp; omega
        have HE := Lib.hid (show t = R from ba_ext (by rw [ByteArray.toList_eq, ByteArray.toList_eq, HR.out, ← HDD.out, HX.out]; rfl))
        clear hgo
        go_wp2
        go_ret
        exact ⟨congrArg (fun z => Ending.returned (.string z)) HE.out, HB.out⟩

end Go.Proofs.YtaekmmnpdbmoeaaGreatDoor

namespace Go.Proofs.YtaekmmnpdbmoeaaGreatDoor
open Go.RowKit

set_option maxRecDepth 100000 in
set_option maxHeartbeats 1000000 in
theorem ref10Text (s : ByteArray) (w : World) (hs : s.size ≤ 1099511627776) :
    Calls Tryz.prog 125 #[.string s] w fun e w' => e = .returned (.string ⟨(quoteL s.data.toList).toArray⟩) ∧ Below w.heap.size w w' := by
  obtain ⟨i0, hi, hz0, hz1, hz2⟩ := info_parts infoU8
  obtain ⟨R, hR⟩ : ∃ R : ByteArray, R = ⟨(quoteL s.data.toList).toArray⟩ := ⟨_, rfl⟩
  rw [← hR]
  have HR := Lib.hid (show R = ⟨(34 :: (escL s.data.toList ++ [34])).toArray⟩ from hR)
  have HO0 := Lib.hid (lit_byte w 34)
  clear hR
  go_enter Tryz.func125, Tryz.ntmps125
  go_wp2
  go_loopw [3, 4] (fun v i wr => ∃ (k : Nat) (g : Nat) (cap : Nat) (L : List UInt8), k ≤ s.size ∧ i = .int .i64 k ∧ L = 34 :: escL (s.data.toList.take k) ∧ v = .slice (some ⟨g, 0, none⟩) L.length cap ∧ wr.ownsRow w.heap.size 5 1 (.slice (some ⟨g, 0, none⟩) L.length cap) L.length (Lib.byteCells L) ∧ Below w.heap.size w wr) (fun _ i _ => s.size - (intOf i).toNat)
  case atStart => exact ⟨0, _, _, [34], Nat.zero_le _, rfl, by simp [escL], rfl, HO0.out, (Below.refl _ _).alloc (Nat.le_refl _) _⟩
  case round =>
    clear HO0
    obtain ⟨k, g, cap, L, hk, rfl, hL, rfl, hown, hbel⟩ := hrel
    have hLn : L.length ≤ 2 * s.size + 1 := by
      rw [hL, List.length_cons]
      have := escL_length (s.data.toList.take k)
      rw [List.length_take, toList_length] at this
      omega
    obtain ⟨n, hn⟩ : ∃ n, n = L.length := ⟨_, rfl⟩
    rw [← hn] at hown hLn ⊢
    have HN := Lib.hid hn
    have HL := Lib.hid hL
    have HO := Lib.hid hown
    have HB := Lib.hid hbel
    have hzw : w.heap.size ≤ wr.heap.size := hbel.size
    clear hn hL hown hbel
    by_cases hlt : k < s.size
    · have m1 : (k : Int) < (s.size : Int) := by omega
      have HS := Lib.hid (escL_snoc s k hlt)
      obtain ⟨c, hc⟩ : ∃ c : UInt8, c = s[k] := ⟨_, rfl⟩
      rw [← hc] at HS
      have hcs : s[k] = c := hc.symm
      clear hc
      by_cases h1 : c.toNat = 34 ∨ c.toNat = 92
      · have HE : Hid (escC c = [92, c]) := Lib.hid (by unfold escC; rw [if_pos h1])
        rcases h1 with h1 | h1
        case' inl => have t1 : ((c.toNat : Int) == 34) = true := by simp; omega
        case' inr =>
          have t1 : ((c.toNat : Int) == 34) = false := by simp; omega
          have t2 : ((c.toNat : Int) == 92) = true := by simp; omega
        all_goals
          clear h1
          go_upto_region 7 with (at_builtin; refine wpList_append_lies _ rfl (.tmp 22) (.tmp 23) 108 rfl w.heap.size 5 i0 (.int .u8 0) 1 1 Tryz.underlying108 hi hz0 hz1 hz2 rfl (by decide) (.slice (some ⟨g, 0, none⟩) n cap) n (Lib.byteCells L) rfl (HO.out.alloc _) ⟨wr.heap.size, 0, none⟩ 1 1 [.int .u8 92] rfl rfl (World.news_of_block (cs := #[.int .u8 92]) (t := 5) (fr := (0, 0)) (heap_alloc_new wr _)) (by simp [Value.oneCell']) (by decide) (by unfold maxLen; omega) (by omega) (by simp; omega) _ rfl ?_; intro g1 c1 w1 ho1 hg1 hat1 hlt1; have HO1 := Lib.hid ho1; have HG1 := Lib.hid hg1; clear ho1 hg1 hat1 hlt1)
          have HB1 := Lib.hid (show Below w.heap.size w w1 from below_grown (HB.out.alloc hzw _) (by simp; omega) HG1.out (fun b hb => (HO.out.lt b hb).1))
          have hz1w : w.heap.size ≤ w1.heap.size := HB1.out.size
          go_wp2_with (at_builtin; refine wpList_append_lies _ rfl (.tmp 25) (.tmp 29) 108 rfl w.heap.size 5 i0 (.int .u8 0) 1 1 Tryz.underlying108 hi hz0 hz1 hz2 rfl (by decide) (.slice (some ⟨g1, 0, none⟩) (n + 1) c1) (n + 1) (Lib.byteCells L ++ [.int .u8 92]) rfl (HO1.out.alloc _) ⟨w1.heap.size, 0, none⟩ 1 1 [.int .u8 c.toNat] rfl rfl (World.news_of_block (cs := #[.int .u8 c.toNat]) (t := 5) (fr := (0, 0)) (heap_alloc_new w1 _)) (by simp [Value.oneCell']) (by decide) (by unfold maxLen; omega) (by omega) (by simp; omega) _ rfl ?_; intro g2 c2 w2 ho2 hg2 hat2 hlt2; have HO2 := Lib.hid ho2; have HG2 := Lib.hid hg2; clear ho2 hg2 hat2 hlt2)
          go_roundw
          case rel =>
            refine ⟨k + 1, g2, c2, L ++ [92, c], by omega, by go_num, by rw [HL.out, HS.out, HE.out]; rfl, ?_, ?_, ?_⟩
            · rw [List.length_append, ← HN.out]; rfl
            · rw [List.length_append, ← HN.out]
              have h := HO2.out
              rw [List.append_assoc] at h
              simpa [Lib.byteCells] using h
            · exact below_grown (HB1.out.alloc hz1w _) (by simp; omega) HG2.out (fun b hb => (HO1.out.lt b hb).1)
          case measure => simp [intOf]; omega
      · have HE : Hid (escC c = [c]) := Lib.hid (by unfold escC; rw [if_neg h1])
        have t1 : ((c.toNat : Int) == 34) = false := by simp; omega
        have t2 : ((c.toNat : Int) == 92) = false := by simp; omega
        clear h1
        go_wp2_with (at_builtin; refine wpList_append_lies _ rfl (.tmp 25) (.tmp 29) 108 rfl w.heap.size 5 i0 (.int .u8 0) 1 1 Tryz.underlying108 hi hz0 hz1 hz2 rfl (by decide) (.slice (some ⟨g, 0, none⟩) n cap) n (Lib.byteCells L) rfl (HO.out.alloc _) ⟨wr.heap.size, 0, none⟩ 1 1 [.int .u8 c.toNat] rfl rfl (World.news_of_block (cs := #[.int .u8 c.toNat]) (t := 5) (fr := (0, 0)) (heap_alloc_new wr _)) (by simp [Value.oneCell']) (by decide) (by unfold maxLen; omega) (by omega) (by simp; omega) _ rfl ?_; intro g2 c2 w2 ho2 hg2 hat2 hlt2; have HO2 := Lib.hid ho2; have HG2 := Lib.hid hg2; clear ho2 hg2 hat2 hlt2)
        go_roundw
        case rel =>
          refine ⟨k + 1, g2, c2, L ++ [c], by omega, by go_num, by rw [HL.out, HS.out, HE.out]; rfl, ?_, ?_, ?_⟩
          · rw [List.length_append, ← HN.out]; rfl
          · rw [List.length_append, ← HN.out]
            have h := HO2.out
            simpa [Lib.byteCells] using h
          · exact below_grown (HB.out.alloc hzw _) (by simp; omega) HG2.out (fun b hb => (HO.out.lt b hb).1)
        case measure => simp [intOf]; omega
    · have m1 : ¬ ((k : Int) < (s.size : Int)) := by omega
      have HF := Lib.hid (show R = ⟨(L ++ [34]).toArray⟩ by rw [HR.out, HL.out, List.take_of_length_le (by rw [toList_length]; omega)]; rfl)
      clear hlt hk
      go_wp2_with (at_builtin; refine wpList_append_lies _ rfl (.tmp 31) (.tmp 32) 108 rfl w.heap.size 5 i0 (.int .u8 0) 1 1 Tryz.underlying108 hi hz0 hz1 hz2 rfl (by decide) (.slice (some ⟨g, 0, none⟩) n cap) n (Lib.byteCells L) rfl (HO.out.alloc _) ⟨wr.heap.size, 0, none⟩ 1 1 [.int .u8 34] rfl rfl (World.news_of_block (cs := #[.int .u8 34]) (t := 5) (fr := (0, 0)) (heap_alloc_new wr _)) (by simp [Value.oneCell']) (by decide) (by unfold maxLen; omega) (by omega) (by simp; omega) _ rfl ?_; intro g2 c2 w2 ho2 hg2 hat2 hlt2; have hcv := run_convert_owned (P := Tryz.prog) 108 9 5 Tryz.underlying108 Tryz.underlying5 Tryz.underlying9 (show w2.ownsRow w.heap.size 5 1 (.slice (some ⟨g2, 0, none⟩) (n + 1) c2) (n + 1) (Lib.byteCells (L ++ [34])) from by simpa [Lib.byteCells] using ho2); rw [← HF.out] at hcv; have HG2 := Lib.hid hg2; clear ho2 hg2 hat2 hlt2)
      go_ret
      exact ⟨rfl, below_grown (HB.out.alloc hzw _) (by simp; omega) HG2.out (fun b hb => (HO.out.lt b hb).1)⟩

def FormPost (v : JV) (w : World) (e : Ending) (w' : World) : Prop := e = .returned (.string ⟨v.enc.toArray⟩) ∧ Below w.heap.size w w'
def FormTo (N : Nat) : Prop := ∀ (v : JV) (x : Value) (w : World), v.wt ≤ N → N ≤ 4294967296 → v.form true → Rep w 0 w.heap.size v x → Calls Tryz.prog 103 #[x] w (FormPost v w)

set_option maxRecDepth 100000 in
set_option maxHeartbeats 1000000 in
theorem formLeaf (v : JV) (x : Value) (w : World) (hM : v.wt ≤ 4294967296) (hf : v.form true) (hR : Rep w 0 w.heap.size v x) (hk : v.kind = 1 ∨ v.kind = 2 ∨ v.kind = 3) :
    Calls Tryz.prog 103 #[x] w (FormPost v w) := by
  obtain ⟨an, cn, ai, ci, rfl, h1, h2, h3, h4⟩ := hR.parts
  obtain ⟨b1, b2, b3, b4⟩ := v.wt_bd
  have HB0 := Lib.hid (show Below w.heap.size w (w.alloc (.cells #[.int .u8 v.kind, .int .i64 v.n, .string v.t, .slice an v.names.length cn, .slice ai v.items.length ci] 44)) from (Below.refl _ _).alloc (Nat.le_refl _) _)
  have HEQ := Lib.hid v.enc_eq
  have HF := Lib.hid (JV.form_eq hf).1
  obtain ⟨R, hRR⟩ : ∃ R : ByteArray, R = ⟨v.enc.toArray⟩ := ⟨_, rfl⟩
  have HRR := Lib.hid hRR
  unfold FormPost
  rw [← hRR]
  clear hRR hR h1 h2 h3 h4 hf
  rcases hk with hk | hk | hk
  · have HE := Lib.hid (show R = ⟨(if v.n = 1 then [116, 114, 117, 101] else [102, 97, 108, 115, 101] : List UInt8).toArray⟩ by rw [HRR.out, HEQ.out, hk]; rfl)
    rw [hk] at HB0 ⊢
    clear hk
    by_cases hn : v.n = 1
    · have e1 : (v.n == 1) = true := by simp [hn]
      have HE2 := Lib.hid (show R = ⟨#[116, 114, 117, 101]⟩ by rw [HE.out, if_pos hn])
      clear hn
      go_enter Tryz.func103, Tryz.ntmps103
      go_wp2
      go_ret
      exact ⟨congrArg (fun z => Ending.returned (.string z)) HE2.out.symm, HB0.out⟩
    · have e1 : (v.n == 1) = false := by simp [hn]
      have HE2 := Lib.hid (show R = ⟨#[102, 97, 108, 115, 101]⟩ by rw [HE.out, if_neg hn])
      clear hn
      go_enter Tryz.func103, Tryz.ntmps103
      go_wp2
      go_ret
      exact ⟨congrArg (fun z => Ending.returned (.string z)) HE2.out.symm, HB0.out⟩
  · have hi : inI64 v.n := by
      rcases HF.out with e | ⟨_, _, e⟩ | ⟨e, _⟩ | e | ⟨e, _⟩ <;> first | (exact e) | omega
    have HE := Lib.hid (show R = ⟨(Lib.itoa v.n).toArray⟩ by rw [HRR.out, HEQ.out, hk]; rfl)
    have HSH := Lib.hid (fun w' => ref06Show v.n w' hi)
    rw [← HE.out] at HSH
    rw [hk] at HB0 ⊢
    clear hk hi
    go_enter Tryz.func103, Tryz.ntmps103
    go_wp2_with fail
    refine (HSH.out _).mono ?_
    rintro e w1 ⟨rfl, hb1⟩
    have HB1 := Lib.hid (HB0.out.trans (hb1.mono HB0.out.size))
    clear hb1
    go_wp2
    go_ret
    exact ⟨rfl, HB1.out⟩
  · have HE := Lib.hid (show R = ⟨(quoteL v.t.data.toList).toArray⟩ by rw [HRR.out, HEQ.out, hk]; rfl)
    have HSH := Lib.hid (fun w' => ref10Text v.t w' (by omega))
    rw [← HE.out] at HSH
    rw [hk] at HB0 ⊢
    clear hk
    go_enter Tryz.func103, Tryz.ntmps103
    go_wp2_with fail
    refine (HSH.out _).mono ?_
    rintro e w1 ⟨rfl, hb1⟩
    have HB1 := Lib.hid (HB0.out.trans (hb1.mono HB0.out.size))
    clear hb1
    go_wp2
    go_ret
    exact ⟨rfl, HB1.out⟩

end Go.Proofs.YtaekmmnpdbmoeaaGreatDoor
