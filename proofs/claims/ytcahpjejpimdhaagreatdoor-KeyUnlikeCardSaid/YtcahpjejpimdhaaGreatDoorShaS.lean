/- The contracts of (*sha.Hash).Sum, sha.New, sha.Sum. -/
import Derived.Test.YtcahpjejpimdhaaGreatDoorShaW
import Derived.Test.YtcahpjejpimdhaaGreatDoorShelf
namespace Go.Proofs.YtcahpjejpimdhaaGreatDoor
open Go.RowKit

theorem sumK_cells (S : S8) (k : Nat) (X : Int) (hX : X = S.at k) (h0 : 0 ≤ X) (h1 : X < 4294967296) :
    Lib.byteCells (sumK S (k + 1)) = Lib.byteCells (sumK S k) ++ [.int .u8 (X / 16777216), .int .u8 (X / 65536 % 256), .int .u8 (X / 256 % 256), .int .u8 (X % 256)] := by
  subst hX
  have e1 := u8_toNat (i := S.at k / 16777216 % 256) (by omega) (by omega)
  have e2 := u8_toNat (i := S.at k / 65536 % 256) (by omega) (by omega)
  have e3 := u8_toNat (i := S.at k / 256 % 256) (by omega) (by omega)
  have e4 := u8_toNat (i := S.at k % 256) (by omega) (by omega)
  have e5 : S.at k / 16777216 % 256 = S.at k / 16777216 := by omega
  simp only [sumK, wordBytes, Lib.byteCells, List.map_append, List.map_cons, List.map_nil, e1, e2, e3, e4]
  rw [e5]

theorem infoU8 : (Tryz.prog.info? 5).map (fun i => (i.zero, i.size, i.bytes)) = some (some (.int .u8 0), 1, 1) := by kernel_rfl

theorem repeat0 : ∀ z : Nat, Lib.repeatL [0] z = List.replicate z 0
  | 0 => rfl
  | z + 1 => by rw [Lib.repeatL, repeat0 z, List.replicate_succ]; rfl

set_option maxRecDepth 100000 in
set_option maxHeartbeats 1000000 in
theorem shaNew (w : World) (hi : ∀ i, i < 8 → w.cell? ⟨1, i, none⟩ = some (.int .u32 (hinit.at i))) :
    Calls Tryz.prog 96 #[] w fun e w' => e = .returned (.pointer (some ⟨w.heap.size, 0, none⟩)) ∧ HashAt w' w.heap.size 150 [] ∧ Below w.heap.size w w' := by
  have i0 := hi 0 (by omega); have i1 := hi 1 (by omega); have i2 := hi 2 (by omega); have i3 := hi 3 (by omega)
  have i4 := hi 4 (by omega); have i5 := hi 5 (by omega); have i6 := hi 6 (by omega); have i7 := hi 7 (by omega)
  simp only [S8.at, hinit] at i0 i1 i2 i3 i4 i5 i6 i7
  clear hi
  go_enter Tryz.func96, Tryz.ntmps96
  go_wp2
  go_ret
  refine ⟨rfl, ⟨fun _ => 0, ?_, fun j hj => by simp at hj, fun _ _ => by constructor <;> decide +revert⟩, (Below.refl _ _).alloc (Nat.le_refl _) _⟩
  exact rowIs_eq (by kernel_rfl)

set_option maxRecDepth 100000 in
set_option maxHeartbeats 1000000 in
theorem shaHashSum (b T : Nat) (l : List UInt8) (w : World) (hh : HashAt w b T l) (hl : l.length ≤ 1099511627000)
    (hk : ∀ i, i < 64 → w.cell? ⟨3, i, none⟩ = some (.int .u32 (kay i))) (hg : 3 < w.heap.size) :
    Calls Tryz.prog 98 #[.pointer (some ⟨b, 0, none⟩)] w fun e w' => e = .returned (.string ⟨(shaSum l).toArray⟩) ∧ Below w.heap.size w w' := by
  have HH := Lib.hid hh
  obtain ⟨p, hr, hp, hpb⟩ := hh
  have c1 : w.cell? ⟨b, 73, none⟩ = some (.int .i64 (l.length : Int)) := hr.cell (by omega)
  have hbz : b < w.heap.size := hr.lt
  have HR := Lib.hid hr
  have HK := Lib.hid hk
  clear hr hk
  go_enter Tryz.func98, Tryz.ntmps98
  go_wp2_with (with_reducible refine wpList_load_rowIs rfl 150 (.tmp 13) rfl b T 74 _ rfl HR.out _ Tryz.underlying150 rfl (by kernel_rfl) ?_)
  intro cs h1 h2
  have HO : Hid (∀ i, i < 74 → (hashF true (shaSt l (l.length / 64)) p (l.length : Int) i).oneCell' = true) := by
    intro i hi; unfold hashF; split; rfl; split; rfl; split <;> rfl
  go_wp2_with (with_reducible refine wpList_store_row rfl 150 (.tmp 3) (.tmp 14) rfl w.heap.size 150 74 _ _ rfl (rowIs_any w _ _ 74 rfl) cs rfl h1.out h2.out HO.out sizeHash ?_)
  intro w1 h3 h4
  have HH1 : Hid (HashAt w1 w.heap.size 150 l) := ⟨p, h3.out, hp, hpb⟩
  have HB1 : Hid (Below w.heap.size w w1) := ((Below.refl _ _).alloc (Nat.le_refl _) _).trans ((h4.out.below (B := w.heap.size) (by simp) (fun k hk e => by omega)))
  have c2 : w1.cell? ⟨b, 73, none⟩ = some (.int .i64 (l.length : Int)) := by rw [HB1.out.cell hbz]; exact c1
  clear h3 h4 h1 h2 HO c1
  go_wp2_with fail
  obtain ⟨z, hz⟩ : ∃ z : Nat, (119 - (l.length : Int)) % 64 = (z : Int) := ⟨((119 - (l.length : Int)) % 64).toNat, by omega⟩
  rw [hz]
  have hz64 : z < 64 := by omega
  have HZ := Lib.hid hz; clear hz
  refine (Tryz.strings_Repeat _ z _ (by omega) (by show 1 * z ≤ _; omega)).mono ?_
  rintro e w2 ⟨rfl, hb2⟩
  have HH2 : Hid (HashAt w2 w.heap.size 150 l) := by
    obtain ⟨p', h1, h2, h3⟩ := HH1.out
    exact ⟨p', below_row hb2 h1 h1.lt, h2, h3⟩
  have HB2 : Hid (Below w.heap.size w w2) := HB1.out.trans (hb2.mono HB1.out.size)
  clear hb2 HH1 HB1 c2
  obtain ⟨rs, hrs⟩ : ∃ rs : ByteArray, rs = { data := (Lib.repeatL [0] z).toArray } := ⟨_, rfl⟩
  rw [show ({ data := #[0] } : ByteArray).data.toList = [0] from rfl, ← hrs]
  have HRS := Lib.hid (show rs.data.toList = List.replicate z 0 by rw [hrs]; simp [repeat0])
  have hrl : rs.size ≤ 64 := by rw [← toList_length, HRS.out]; simp; omega
  clear hrs
  go_wp2_with fail
  refine (shaWrite w.heap.size 150 l _ w2 HH2.out (by rw [ByteArray.size_append]; show l.length + (1 + rs.size) ≤ _; omega) (fun i hi => by rw [HB2.out.cell hg]; exact HK.out i hi) (Nat.lt_of_lt_of_le hg HB2.out.size) (by omega)).mono ?_
  rintro e w3 ⟨rfl, hh3, ht3⟩
  have HH3 : Hid (HashAt w3 w.heap.size 150 (l ++ (128 :: List.replicate z 0))) := by
    have e1 : ({ data := #[128] } ++ rs : ByteArray).data.toList = 128 :: List.replicate z 0 := by
      rw [ByteArray.data_append, Array.toList_append, HRS.out]; rfl
    rw [e1] at hh3; exact hh3
  have HB3 : Hid (Below w.heap.size w w3) := HB2.out.trans (ht3.below HB2.out.size fun k hk e => by omega)
  clear hh3 ht3 HB2 HH2
  obtain ⟨L, hL⟩ : ∃ L, L = l ++ (128 :: List.replicate z 0) := ⟨_, rfl⟩
  rw [← hL] at HH3
  have HL := Lib.hid hL
  have hLl : L.length = l.length + 1 + z := by rw [hL]; simp; omega
  have HLl := Lib.hid hLl
  have hLb : L.length ≤ 1099511627100 := by omega
  clear hL hLl
  have hw3 : w.heap.size < w3.heap.size := by obtain ⟨_, h, _⟩ := HH3.out; exact h.lt
  go_wp2
  go_loopw [31] (fun i wr => ∃ k : Nat, k ≤ 8 ∧ i = .int .i64 k ∧ Below w3.heap.size w3 wr ∧ wr.rowIs w3.heap.size 152 8 (fun j => if j < k then .int .u8 (be8 (l.length * 8) j) else .int .u8 0)) (fun i _ => 8 - (intOf i).toNat)
  case atStart => exact ⟨0, by omega, rfl, (Below.refl _ _).alloc (Nat.le_refl _) _, rowIs_eq (by kernel_rfl)⟩
  case round =>
    obtain ⟨k, hk, rfl, hbel, hrow⟩ := hrel
    by_cases hlt : k < 8
    · have c0 : wr.cell? ⟨w3.heap.size, k, none⟩ = some (.int .u8 0) := by rw [hrow.cell hlt, if_neg (by omega)]
      have c1 : wr.frozen? ⟨w3.heap.size, k, none⟩ = false := hrow.frozen k
      have m0 : (k : Int) < 8 := by omega
      have HB := Lib.hid hbel; clear hbel
      have HW := Lib.hid hrow; clear hrow
      go_wp2
      go_roundw
      case rel =>
        refine ⟨k + 1, by omega, by go_num, HB.out.setCell (Nat.le_refl _) _, (HW.out.set k _).congr fun j hj => ?_⟩
        by_cases e : j = k
        · subst e; rw [if_pos rfl, if_pos (by omega)]; unfold be8; rfl
        · rw [if_neg e]; by_cases e' : j < k
          · rw [if_pos e', if_pos (by omega)]
          · rw [if_neg e', if_neg (by omega)]
      case measure => simp [intOf]; omega
    · have hd : decide ((k : Int) < 8) = false := by simp; omega
      have cc : ∀ j, j < 8 → wr.cell? ⟨w3.heap.size, j, none⟩ = some (.int .u8 (be8 (l.length * 8) j)) := fun j hj => by rw [hrow.cell hj, if_pos (by omega)]
      have HB := Lib.hid hbel; clear hbel
      have hw4 : w3.heap.size < wr.heap.size := hrow.lt
      have HW := Lib.hid hrow; clear hrow hlt hk
      have HC := Lib.hid cc
      clear cc
      obtain ⟨w4, rfl⟩ : ∃ w4 : World, w4 = wr := ⟨_, rfl⟩
      obtain ⟨k1, rfl⟩ : ∃ k1 : Nat, k1 = k := ⟨_, rfl⟩
      have hl8 : (be8L (l.length * 8)).length = 8 := by simp [be8L]
      have hcv : (convert 62 9 (.slice (some ⟨w3.heap.size, 0, none⟩) 8 8)).run Tryz.prog w4 = .ok (.string ⟨(be8L (l.length * 8)).toArray⟩) w4 := by
        have := run_convert_bytes_back (P := Tryz.prog) w4 62 9 5 ⟨w3.heap.size, 0, none⟩ 8 (be8L (l.length * 8)) Tryz.underlying62 Tryz.underlying5 Tryz.underlying9 (fun j hj => by
          have hj' := hj
          rw [hl8] at hj
          have e : (⟨w3.heap.size, 0, none⟩ : Addr).add j = ⟨w3.heap.size, j, none⟩ := by unfold Addr.add; split <;> simp_all
          rw [e, HC.out j hj, be8L_get _ _ hj'])
        rwa [hl8] at this
      clear hl8
      obtain ⟨t8, ht8⟩ : ∃ t8 : ByteArray, t8 = { data := (be8L (l.length * 8)).toArray } := ⟨_, rfl⟩
      rw [← ht8] at hcv
      have HT8 := Lib.hid (show t8.data.toList = be8L (l.length * 8) by rw [ht8])
      have ht8s : t8.size = 8 := by rw [← toList_length, HT8.out]; simp [be8L]
      clear ht8
      have HT8s := Lib.hid ht8s
      clear ht8s
      go_wp2_with fail
      have HH4 : Hid (HashAt w4 w.heap.size 150 L) := by
        obtain ⟨p', h1, h2, h3⟩ := HH3.out
        exact ⟨p', below_row HB.out h1 hw3, h2, h3⟩
      have HB4 : Hid (Below w.heap.size w w4) := HB3.out.trans (HB.out.mono (by omega))
      refine (shaWrite w.heap.size 150 L t8 w4 HH4.out (by rw [HT8s.out]; omega) (fun i hi => by rw [HB4.out.cell hg]; exact HK.out i hi) (by have := HB4.out.size; omega) (by omega)).mono ?_
      rintro e w5 ⟨rfl, hh5, ht5⟩
      have HB5 : Hid (Below w.heap.size w w5) := HB4.out.trans (ht5.below (by omega) fun k hk e => by omega)
      rw [HT8.out] at hh5
      clear hcv HC HW HB ht5 HH3 HH4 HB3 HB4
      obtain ⟨M, hM⟩ : ∃ M, M = L ++ be8L (l.length * 8) := ⟨_, rfl⟩
      rw [← hM] at hh5
      have HM := Lib.hid (show M = shaPad l by
        rw [hM, HL.out]; unfold shaPad
        have : z = (119 - l.length % 64) % 64 := by have := HZ.out; omega
        rw [this])
      clear hM
      have HM64 := Lib.hid (show M.length % 64 = 0 by rw [HM.out, shaPad_length]; omega)
      obtain ⟨q, q1, q2, q3⟩ := hh5
      have HS := Lib.hid (shaSt_ok M (M.length / 64))
      have HE := Lib.hid (show shaSum l = sumK (shaSt M (M.length / 64)) 8 by unfold shaSum; rw [← HM.out])
      obtain ⟨S, hS⟩ : ∃ S, S = shaSt M (M.length / 64) := ⟨_, rfl⟩
      rw [← hS] at q1 HE HS
      clear hS q2 q3
      have hst : ∀ j, j < 8 → w5.cell? ⟨w.heap.size, 1 + j, none⟩ = some (.int .u32 (S.at j)) := fun j hj => by
        rw [q1.cell (by omega)]; unfold hashF; rw [if_neg (by omega), if_pos (by omega)]; simp
      have s0 := hst 0 (by omega); have s1 := hst 1 (by omega); have s2 := hst 2 (by omega); have s3 := hst 3 (by omega)
      have s4 := hst 4 (by omega); have s5 := hst 5 (by omega); have s6 := hst 6 (by omega); have s7 := hst 7 (by omega)
      simp only [S8.at] at s0 s1 s2 s3 s4 s5 s6 s7
      have hz5 : w.heap.size < w5.heap.size := q1.lt
      have HS8 : ∀ k, k < 8 → w32 (S.at k) := by
        obtain ⟨a1, a2, a3, a4, a5, a6, a7, a8⟩ := HS.out
        intro k hk
        rcases k with _ | _ | _ | _ | _ | _ | _ | _ | k <;> first | assumption | omega
      clear hst q1
      have hmk : ∀ w, (Instr.makeSlice 62 (.int .i64 0) (.int .i64 32)).run Tryz.prog w = .ok (.slice (some ⟨w.heap.size, 0, none⟩) 0 32) (w.alloc (.cells (Array.replicate 32 (.int .u8 0)) 5)) := fun _ => by kernel_rfl
      go_wp2
      clear s0 s1 s2 s3 s4 s5 s6 s7 hmk
      obtain ⟨i0, hi, hz0, hz1, hz2⟩ := info_parts infoU8
      go_loopw [7, 49] (fun v i wr => ∃ k : Nat, k ≤ 8 ∧ i = .int .i64 k ∧ wr.ownsRow w5.heap.size 5 1 v (4 * k) (Lib.byteCells (sumK S k)) ∧ Below w5.heap.size w5 wr) (fun _ i _ => 8 - (intOf i).toNat)
      case atStart => exact ⟨0, by omega, rfl, World.ownsRow_made w5 (Array.replicate 32 (.int .u8 0)) 32 (Nat.le_refl _) (by unfold maxLen; omega) rfl, (Below.refl _ _).alloc (Nat.le_refl _) _⟩
      case round =>
        obtain ⟨k, hk, rfl, hown, hbel⟩ := hrel
        by_cases hlt : k < 8
        · have hidx : ∀ w, (Instr.index 141 (.agg #[.int .u32 S.a, .int .u32 S.b, .int .u32 S.c, .int .u32 S.d, .int .u32 S.e, .int .u32 S.f, .int .u32 S.g, .int .u32 S.h]) (.int .i64 k)).run Tryz.prog w = .ok (.int .u32 (S.at k)) w := by
            intro w
            rcases k with _ | _ | _ | _ | _ | _ | _ | _ | k
            · kernel_rfl
            · kernel_rfl
            · kernel_rfl
            · kernel_rfl
            · kernel_rfl
            · kernel_rfl
            · kernel_rfl
            · kernel_rfl
            · omega
          have hx : w32 (S.at k) := HS8 k hlt
          obtain ⟨X, hX⟩ : ∃ X, X = S.at k := ⟨_, rfl⟩
          rw [← hX] at hidx hx
          obtain ⟨hx0, hx1⟩ := hx
          have HX := Lib.hid hX; clear hX
          have HO := Lib.hid hown; clear hown
          have HB := Lib.hid hbel; clear hbel
          go_wp2_with (at_builtin; refine wpList_append_own _ rfl (.tmp 52) (.tmp 64) 62 rfl w5.heap.size 5 i0 (.int .u8 0) 1 1 Tryz.underlying62 hi hz0 hz1 hz2 rfl (by decide) _ (4 * k) (Lib.byteCells (sumK S k)) rfl (HO.out.alloc _) ⟨wr.heap.size, 0, none⟩ 4 4 [.int .u8 (X / 16777216), .int .u8 (X / 65536 % 256), .int .u8 (X / 256 % 256), .int .u8 (X % 256)] rfl rfl ?c1 ?c2 ?c3 ?c4 ?c5 ?_)
          case c1 =>
            intro j u hj
            rcases j with _ | _ | _ | _ | j <;> simp at hj <;> subst hj <;> go_simp
          case c2 => intro u hu; simp at hu; rcases hu with rfl | rfl | rfl | rfl <;> rfl
          case c3 => unfold maxLen; omega
          case c4 => omega
          case c5 => have := HB.out.size; simp; omega
          intro v' w6 hown' hgrow _
          have HO2 := Lib.hid hown'; clear hown'
          have HG := Lib.hid hgrow; clear hgrow
          go_wp2
          go_roundw
          case rel =>
            refine ⟨k + 1, by omega, by go_num, ?_, ?_⟩
            · have e := sumK_cells S k X HX.out hx0 hx1
              rw [show 4 * (k + 1) = 4 * k + 4 by omega, e]; exact HO2.out
            · exact (HB.out.alloc (by have := HB.out.size; omega) _).grown HG.out (by have := HB.out.size; simp; omega) (fun g hg => (HO.out.lt g hg).1)
          case measure => simp [intOf]; omega
        · obtain rfl : k = 8 := by omega
          have hcv := run_convert_owned (P := Tryz.prog) 62 9 5 Tryz.underlying62 Tryz.underlying5 Tryz.underlying9 hown
          have HF : Hid (Below w.heap.size w wr) := HB5.out.trans (hbel.mono (by omega))
          clear hown hbel hlt hk
          go_wp2
          go_ret
          exact ⟨by rw [HE.out]; rfl, HF.out⟩

set_option maxHeartbeats 400000 in
theorem shaSumF (s : ByteArray) (w : World) (hs : s.size ≤ 1099511627000) (hi : ∀ i, i < 8 → w.cell? ⟨1, i, none⟩ = some (.int .u32 (hinit.at i)))
    (hk : ∀ i, i < 64 → w.cell? ⟨3, i, none⟩ = some (.int .u32 (kay i))) (hg : 3 < w.heap.size) :
    Calls Tryz.prog 66 #[.string s] w fun e w' => e = .returned (.string ⟨(shaSum s.data.toList).toArray⟩) ∧ Below w.heap.size w w' := by
  have HI := Lib.hid hi; clear hi
  have HK := Lib.hid hk; clear hk
  go_enter Tryz.func66, Tryz.ntmps66
  go_wp2_with fail
  refine (shaNew w HI.out).mono ?_
  rintro e w1 ⟨rfl, h1, h2⟩
  have H1 := Lib.hid h1; clear h1
  have H2 := Lib.hid h2; clear h2
  go_wp2_with fail
  have hz1 : w.heap.size < w1.heap.size := by obtain ⟨_, h, _⟩ := H1.out; exact h.lt
  refine (shaWrite w.heap.size 150 [] s w1 H1.out (by simp; omega) (fun i hi => by rw [H2.out.cell hg]; exact HK.out i hi) (by omega) (by omega)).mono ?_
  rintro e w2 ⟨rfl, h3, h4⟩
  have H3 := Lib.hid h3; clear h3
  have H4 : Hid (Below w.heap.size w w2) := H2.out.trans (h4.below (by omega) fun k hk e => by omega)
  clear h4
  go_wp2_with fail
  refine (shaHashSum w.heap.size 150 _ w2 H3.out (by simp; omega) (fun i hi => by rw [H4.out.cell hg]; exact HK.out i hi) (by have := H4.out.size; omega)).mono ?_
  rintro e w3 ⟨rfl, h5⟩
  have H5 := Lib.hid h5; clear h5
  go_wp2
  go_ret
  exact ⟨rfl, H4.out.trans (H5.out.mono H4.out.size)⟩

end Go.Proofs.YtcahpjejpimdhaaGreatDoor
