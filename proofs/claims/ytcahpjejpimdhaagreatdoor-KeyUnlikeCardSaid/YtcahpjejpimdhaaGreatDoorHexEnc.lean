/- The contracts of hex.Encode and sha.Digest. -/
import Derived.Test.YtcahpjejpimdhaaGreatDoorShaS
import Derived.Deep.RegionHeld3
import Derived.Deep.AppendLies
namespace Go.Proofs.YtcahpjejpimdhaaGreatDoor
open Go.RowKit

def hexChar (n : Nat) : UInt8 := if n < 10 then UInt8.ofNat (48 + n) else UInt8.ofNat (87 + n)
def hexEnc : List UInt8 → List UInt8
  | [] => []
  | c :: r => hexChar (c.toNat / 16) :: hexChar (c.toNat % 16) :: hexEnc r
theorem hexEnc_append (l m : List UInt8) : hexEnc (l ++ m) = hexEnc l ++ hexEnc m := by
  induction l with
  | nil => rfl
  | cons c r ih => simp [hexEnc, ih]
theorem hexEnc_length (l : List UInt8) : (hexEnc l).length = 2 * l.length := by
  induction l with
  | nil => rfl
  | cons c r ih => simp [hexEnc, ih]; omega

theorem hexEnc_snoc (s : ByteArray) (k : Nat) (h : k < s.size) (c : Nat) (hc : c = s[k].toNat) :
    Lib.byteCells (hexEnc (s.data.toList.take (k + 1))) = Lib.byteCells (hexEnc (s.data.toList.take k)) ++ [.int .u8 (hexChar (c / 16)).toNat, .int .u8 (hexChar (c % 16)).toNat] := by
  subst hc; rw [take_snoc s k h, hexEnc_append]; simp [hexEnc, Lib.byteCells]

set_option maxRecDepth 100000 in
set_option maxHeartbeats 400000 in
theorem hexEncode (s : ByteArray) (w : World) (hs : s.size ≤ 1099511627776) (hd : ∀ i, i < 16 → w.cell? ⟨0, i, none⟩ = some (.int .u8 (hexChar i).toNat)) (hg : 0 < w.heap.size) :
    Calls Tryz.prog 42 #[.string s] w fun e w' => e = .returned (.string ⟨(hexEnc s.data.toList).toArray⟩) ∧ Below w.heap.size w w' := by
  have HD := Lib.hid hd; clear hd
  obtain ⟨i0, hi, hz0, hz1, hz2⟩ := info_parts infoU8
  go_enter Tryz.func42, Tryz.ntmps42
  go_wp2_with (at_make; refine wpList_make_own _ rfl (.const (.int .i64 0)) (.tmp 7) 62 rfl w.heap.size 5 i0 (.int .u8 0) 1 Tryz.underlying62 hi hz0 hz1 .i64 .i64 _ (2 * s.size) rfl rfl ?hC ?b2 ?b3 (Nat.le_refl _) ?_)
  case hC => push_cast; rfl
  case b2 => rw [hz2]; omega
  case b3 => unfold maxLen; omega
  intro w1 hown hgrow
  have HB1 : Hid (Below w.heap.size w w1) := (Below.refl _ _).grown hgrow (Nat.le_refl _) (by simp)
  have HO1 := Lib.hid hown
  clear hown hgrow
  go_wp2
  go_loopw [3, 4] (fun v i wr => ∃ k : Nat, k ≤ s.size ∧ i = .int .i64 k ∧ wr.ownsRow w.heap.size 5 1 v (2 * k) (Lib.byteCells (hexEnc (s.data.toList.take k))) ∧ Below w.heap.size w wr) (fun _ i _ => s.size - (intOf i).toNat)
  case atStart => exact ⟨0, by omega, rfl, by simpa [hexEnc, Lib.byteCells] using HO1.out, HB1.out⟩
  case round =>
    clear HO1 HB1
    obtain ⟨k, hk, rfl, hown, hbel⟩ := hrel
    by_cases hlt : k < s.size
    · have hlt0 := hlt
      have hc : s[k].toNat < 256 := s[k].toNat_lt
      have d1 : wr.cell? ⟨0, s[k].toNat / 16, none⟩ = some (.int .u8 (hexChar (s[k].toNat / 16)).toNat) := by rw [hbel.cell hg]; exact HD.out _ (by omega)
      have d2 : wr.cell? ⟨0, s[k].toNat % 16, none⟩ = some (.int .u8 (hexChar (s[k].toNat % 16)).toNat) := by rw [hbel.cell hg]; exact HD.out _ (by omega)
      have m0 : (k : Int) < (s.size : Int) := by omega
      have hnb : u3.ownBlock ≠ some 0 := fun e => by have := (hown.lt _ e).1; omega
      have hz : 0 < wr.heap.size := by have := hbel.size; omega
      have HO := Lib.hid hown; clear hown
      have HB := Lib.hid hbel; clear hbel
      have a1 : bits BinOp.and IntKind.u8 (s[k].toNat : Int) 15 = (s[k].toNat : Int) % 16 := by
        rw [u8_and _ _ (by omega) (by omega) (by omega) (by omega)]; show ((s[k].toNat &&& 15 : Nat) : Int) = _; rw [nat_mask4]; omega
      obtain ⟨c, hcc⟩ : ∃ c, c = s[k].toNat := ⟨_, rfl⟩
      rw [← hcc] at a1 hc d1 d2
      have b1 : (0 : Int) ≤ (c : Int) / 16 := by omega
      have b2 : (c : Int) / 16 < 16 := by omega
      have b3 : ((c : Int) / 16).toNat = c / 16 := by omega
      have b4 : (0 : Int) ≤ (c : Int) % 16 := by omega
      have b5 : (c : Int) % 16 < 16 := by omega
      have b6 : ((c : Int) % 16).toNat = c % 16 := by omega
      have hcc' : (s[k].toNat : Int) = (c : Int) := by rw [hcc]
      have H1 := Lib.hid hcc; clear hcc
      go_wp2_with fail
      go_region_held3 (fun w' => w'.cell? ⟨0, c / 16, none⟩ = some (.int .u8 (hexChar (c / 16)).toNat) ∧ w'.cell? ⟨0, c % 16, none⟩ = some (.int .u8 (hexChar (c % 16)).toNat)) (first | go_keep | (go_split_ands; refine ⟨?_, ?_⟩ <;> (rw [hgrow.cell_far _ (by simp <;> omega) (Ne.symm hnb)]; assumption))) ((refine step_append_lies _ (by rfl) _ _ _ (by rfl) w.heap.size 5 i0 _ 1 1 Tryz.underlying62 hi hz0 hz1 hz2 rfl (by omega) _ (2 * k) _ (by rfl) ((HO.out.alloc _).drew) ⟨wr.heap.size, 0, none⟩ 2 2 [.int .u8 (hexChar (c / 16)).toNat, .int .u8 (hexChar (c % 16)).toNat] (by rfl) (by rfl) (World.news_of_block (cs := #[.int .u8 (hexChar (c / 16)).toNat, .int .u8 (hexChar (c % 16)).toNat]) (t := 5) (fr := (0, 0)) (heap_alloc_new wr _)) (by simp [Value.oneCell']) (by omega) (by unfold maxLen; omega) (by omega) (by have := HB.out.size; simp; omega) (wr.heap.size + 1) (by simp) ?_; intro gg cap w1 hown1 hgrow hat hlt))
      all_goals
        have HO1 := Lib.hid hown1
        have HG := Lib.hid hgrow
        clear hown1 hgrow hat d1 d2
        go_wp2
        go_roundw
        case rel =>
          refine ⟨k + 1, by omega, by go_num, ?_, ?_⟩
          · rw [show 2 * (k + 1) = 2 * k + 2 by omega, hexEnc_snoc s k hlt0 c H1.out]; exact HO1.out
          · exact ((HB.out.alloc (by have := HB.out.size; omega) _).drew).grown HG.out (by have := HB.out.size; simp; omega) (fun g hg => (HO.out.lt g hg).1)
        case measure => simp [intOf]; omega
    · have hcv := run_convert_owned (P := Tryz.prog) 62 9 5 Tryz.underlying62 Tryz.underlying5 Tryz.underlying9 hown
      rw [List.take_of_length_le (by rw [toList_length]; omega)] at hcv
      have HB := Lib.hid hbel
      clear hown hbel
      go_wp2
      go_ret
      exact ⟨rfl, HB.out⟩

def shaHex (l : List UInt8) : List UInt8 := hexEnc (shaSum l)
theorem shaHex_length (l : List UInt8) : (shaHex l).length = 64 := by unfold shaHex; rw [hexEnc_length, shaSum_length]

set_option maxHeartbeats 400000 in
theorem shaDigest (s : ByteArray) (w : World) (hs : s.size ≤ 1099511627000) (hi : ∀ i, i < 8 → w.cell? ⟨1, i, none⟩ = some (.int .u32 (hinit.at i)))
    (hk : ∀ i, i < 64 → w.cell? ⟨3, i, none⟩ = some (.int .u32 (kay i))) (hd : ∀ i, i < 16 → w.cell? ⟨0, i, none⟩ = some (.int .u8 (hexChar i).toNat)) (hg : 3 < w.heap.size) (hg' : 0 < w.heap.size) :
    Calls Tryz.prog 26 #[.string s] w fun e w' => e = .returned (.string ⟨(shaHex s.data.toList).toArray⟩) ∧ Below w.heap.size w w' := by
  have HI := Lib.hid hi; clear hi
  have HK := Lib.hid hk; clear hk
  have HD := Lib.hid hd; clear hd
  go_enter Tryz.func26, Tryz.ntmps26
  go_wp2_with fail
  refine (shaSumF s w hs HI.out HK.out hg).mono ?_
  rintro e w1 ⟨rfl, h1⟩
  have H1 := Lib.hid h1; clear h1
  go_wp2_with fail
  refine (hexEncode _ w1 (by show (shaSum s.data.toList).toArray.size ≤ _; rw [List.size_toArray, shaSum_length]; omega) (fun i hi => by rw [H1.out.cell hg']; exact HD.out i hi) (by have := H1.out.size; omega)).mono ?_
  rintro e w2 ⟨rfl, h2⟩
  have H2 := Lib.hid h2; clear h2
  go_wp2
  go_ret
  exact ⟨rfl, H1.out.trans (H2.out.mono H1.out.size)⟩

end Go.Proofs.YtcahpjejpimdhaaGreatDoor
