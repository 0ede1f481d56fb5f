/- The contracts of sha.New and (*sha.Hash).Write. The contracts of (*sha.Hash).Sum, sha.New, sha.Sum. The contracts of hex.Encode and sha.Digest. The contract of key.ID. What every card of this seat leans on: the laid tables, a world for the witness, the last step of a row. What the cards of arguments that lead to memory lean on: they read behind the call as they did before it; keys and values that came in, opened. What the cards of layer 17 lean on besides: the library's table of powers; verdicts and signatures that came in, opened. What hex.Encode writes are digits. No program in sight. Plain: HMAC on bytes; the bytes that digits denote. No program in sight. -/
import Derived.Test.YtaekmmnpdbmoeaaGreatDoorJh14
import Derived.Test.YtaekmmnpdbmoeaaGreatDoorJh01
import Derived.Test.YtaekmmnpdbmoeaaGreatDoorJh02
import Derived.Deep.RegionHeld3
import Derived.Deep.AppendLies
import Derived.Test.YtaekmmnpdbmoeaaGreatDoorJh11
import Derived.Test.YtaekmmnpdbmoeaaGreatDoorJh13
import Derived.Test.YtaekmmnpdbmoeaaGreatDoorCards
import Derived.Test.YtaekmmnpdbmoeaaGreatDoorTie
import Derived.WalkKit
import Derived.ProofKit
import Derived.OpenShut
import Derived.ChangeSame
import Derived.Deep.DeepHandedRow
import Derived.Lib.LaidTab
import Derived.Lib.SmallJoins
import Derived.Carry
import Derived.ChangeMaps5

namespace Go.Proofs.YtaekmmnpdbmoeaaGreatDoor
open Go.RowKit

/-- A Hash of what has been consumed: m bytes of l; its size cell says N. -/
def HashIn (w : World) (b T : Nat) (l : List UInt8) (m : Nat) (N : Int) : Prop :=
  ∃ p : Nat → Int, w.rowIs b T 74 (hashF true (shaSt l (m / 64)) p N) ∧ (∀ j, j < m % 64 → p j = byteI l (64 * (m / 64) + j)) ∧ ∀ j, j < 64 → 0 ≤ p j ∧ p j ≤ 255
def HashAt (w : World) (b T : Nat) (l : List UInt8) : Prop := HashIn w b T l l.length l.length

theorem sizeU8 (w : World) : (Go.sizeOf 5).run Tryz.prog w = .ok 1 w := by kernel_rfl
theorem sizeHash (w : World) : (Go.sizeOf 151).run Tryz.prog w = .ok 74 w := by kernel_rfl

/-- What a copy of n bytes into the part does to a Hash. -/
theorem hash_copied {w' : World} {b T : Nat} {l : List UInt8} {m n : Nat} {N : Int} {p : Nat → Int} {r : ByteArray}
    (hu : m % 64 + n ≤ 64) (hr : r.data.toList = l.drop m) (_hn : n ≤ r.size)
    (hp : ∀ j, j < m % 64 → p j = byteI l (64 * (m / 64) + j)) (hpb : ∀ j, j < 64 → 0 ≤ p j ∧ p j ≤ 255)
    (h' : w'.rowIs b T 74 (fun j => if 9 + m % 64 ≤ j ∧ j < 9 + m % 64 + n then .int .u8 (sbyte r (j - (9 + m % 64))) else hashF true (shaSt l (m / 64)) p N j)) :
    ∃ q : Nat → Int, w'.rowIs b T 74 (hashF true (shaSt l (m / 64)) q N) ∧ (∀ j, j < m % 64 + n → q j = byteI l (64 * (m / 64) + j)) ∧ ∀ j, j < 64 → 0 ≤ q j ∧ q j ≤ 255 := by
  refine ⟨fun j => if m % 64 ≤ j ∧ j < m % 64 + n then byteI l (64 * (m / 64) + j) else p j, ?_, ?_, ?_⟩
  · refine h'.congr fun j hj => ?_
    by_cases e : 9 + m % 64 ≤ j ∧ j < 9 + m % 64 + n
    · rw [if_pos e]; unfold hashF; rw [if_neg (by omega), if_neg (by omega), if_pos (by omega)]; simp only []; rw [if_pos (by omega)]; unfold sbyte; rw [hr]
      congr 1; unfold byteI; rw [List.getD_eq_getElem?_getD, List.getElem?_drop, List.getD_eq_getElem?_getD]
      congr 4; omega
    · rw [if_neg e]; unfold hashF
      by_cases e0 : j = 0
      · simp only [if_pos e0]
      · by_cases e1 : j ≤ 8
        · simp only [if_neg e0, if_pos e1]
        · by_cases e2 : j ≤ 72
          · simp only [if_neg e0, if_neg e1, if_pos e2]; rw [if_neg (by omega)]
          · simp only [if_neg e0, if_neg e1, if_neg e2]
  · intro j hj
    by_cases e : m % 64 ≤ j ∧ j < m % 64 + n
    · simp only [if_pos e]
    · simp only [if_neg e]; exact hp j (by omega)
  · intro j hj
    by_cases e : m % 64 ≤ j ∧ j < m % 64 + n
    · simp only [if_pos e]; exact byteI_bd _ _
    · simp only [if_neg e]; exact hpb j hj

def strLen : Value → Nat | .string s => s.size | _ => 0

theorem hash_start {w : World} {b T : Nat} {l k : List UInt8} (h : HashAt w b T l) (N : Int) (hN : N = (l ++ k).length) :
    HashIn (w.setCell ⟨b, 73, none⟩ (.int .i64 N)) b T (l ++ k) l.length (l ++ k).length := by
  obtain ⟨p, hr, hp, hpb⟩ := h
  have hb : ∀ i, i < l.length → byteI (l ++ k) i = byteI l i := fun i hi => by unfold byteI; rw [List.getD_eq_getElem?_getD, List.getElem?_append_left hi, List.getD_eq_getElem?_getD]
  refine ⟨p, (hr.set 73 _).congr fun j hj => ?_, fun j hj => ?_, hpb⟩
  · have e : shaSt (l ++ k) (l.length / 64) = shaSt l (l.length / 64) := shaSt_congr _ fun i hi => hb i (by omega)
    rw [e]
    by_cases e : j = 73
    · subst e; rw [if_pos rfl]; unfold hashF; simp [hN]
    · rw [if_neg e]; unfold hashF
      by_cases e0 : j = 0
      · simp only [if_pos e0]
      · by_cases e1 : j ≤ 8
        · simp only [if_neg e0, if_pos e1]
        · simp only [if_neg e0, if_neg e1, if_pos (show j ≤ 72 by omega)]
  · rw [hp j hj, hb _ (by omega)]

theorem drop_extract {r : ByteArray} {L : List UInt8} {m n : Nat} (h : r.data.toList = L.drop m) : (r.extract n r.size).data.toList = L.drop (m + n) := by
  rw [ByteArray.data_extract, Array.toList_extract, List.extract_eq_take_drop, h, List.drop_drop]
  rw [List.take_of_length_le (by
    have : r.size = (L.drop m).length := by rw [← h, toList_length]
    rw [this, List.length_drop, List.length_drop]; omega)]

set_option maxRecDepth 100000 in
set_option maxHeartbeats 1000000 in
theorem shaWrite (b T : Nat) (l : List UInt8) (s : ByteArray) (w : World) (hh : HashAt w b T l) (hl : l.length + s.size ≤ 1099511627776)
    (hk : ∀ i, i < 64 → w.cell? ⟨2, i, none⟩ = some (.int .u32 (kay i))) (hg : 2 < w.heap.size) (hgb : 2 ≠ b) :
    Calls Tryz.prog 91 #[.pointer (some ⟨b, 0, none⟩), .string s] w fun e w' => e = .returned (.int .i64 0) ∧ HashAt w' b T (l ++ s.data.toList) ∧ Touch (· = b) w w' := by
  have HH := Lib.hid hh
  obtain ⟨p, hr, hp, hpb⟩ := hh
  have HK := Lib.hid hk; clear hk
  have c0 : w.cell? ⟨b, 0, none⟩ = some (.bool true) := hr.cell (by omega)
  have c1 : w.cell? ⟨b, 73, none⟩ = some (.int .i64 (l.length : Int)) := hr.cell (by omega)
  have f1 : w.frozen? ⟨b, 73, none⟩ = false := hr.frozen 73
  have hbz : b < w.heap.size := hr.lt
  clear hr hp hpb
  obtain ⟨L, hL⟩ : ∃ L, L = l ++ s.data.toList := ⟨_, rfl⟩
  have HL := Lib.hid hL
  have HLl : Hid (L.length = l.length + s.size) := by rw [hL, List.length_append, toList_length]; rfl
  clear hL
  go_enter Tryz.func91, Tryz.ntmps91
  go_wp2
  go_loopw [1, 5] (fun v1 v5 wr => ∃ (m u : Nat) (r : ByteArray), v1 = .string r ∧ v5 = .int .i64 u ∧ u = m % 64 ∧ m ≤ L.length ∧ r.data.toList = L.drop m ∧ HashIn wr b T L m L.length ∧ Touch (· = b) w wr) (fun v1 _ _ => strLen v1)
  case atStart =>
    refine ⟨l.length, l.length % 64, s, rfl, by go_num, rfl, by have := HLl.out; omega, by rw [HL.out]; simp, ?_, (Touch.refl (· = b) _).setCell (p := ⟨b, 73, none⟩) (.inl rfl) _⟩
    rw [HL.out]
    exact hash_start HH.out _ (by rw [List.length_append, toList_length]; omega)
  case round =>
    clear c0 c1 f1
    obtain ⟨m, u, r, rfl, rfl, hu, hm, hrd, ⟨p, hrow, hp, hpb⟩, htch⟩ := hrel
    have hrs : r.size = L.length - m := by rw [← toList_length, hrd, List.length_drop]
    by_cases hlt : 0 < r.size
    · obtain ⟨n, hn⟩ : ∃ n, n = Nat.min r.size (64 - u) := ⟨_, rfl⟩
      have hn1 : n ≤ r.size := hn ▸ Nat.min_le_left _ _
      have hn2 : n ≤ 64 - u := hn ▸ Nat.min_le_right _ _
      have hn3 : 0 < n := by rw [hn]; exact Nat.lt_min.2 ⟨hlt, by omega⟩
      have hu2 : u < 64 := by omega
      have HU := Lib.hid hu
      have HM := Lib.hid hm
      have hrs' : r.size ≤ 1099511627776 := by have := HLl.out; omega
      have HN := Lib.hid hn
      have HRS := Lib.hid hrs
      have HRD := Lib.hid hrd
      have HP := Lib.hid hp
      have HPB := Lib.hid hpb
      have HR := Lib.hid hrow
      have HT := Lib.hid htch
      clear hu hm hn hrs hrd hp hpb hrow htch
      have hsl := run_sliceAt_lo (P := Tryz.prog) Tryz.underlying112 sizeU8 b 9 u hu2
      go_wp2_with (with_reducible refine wpList_copy_str rfl (.tmp 42) (.tmp 43) 108 9 rfl 5 Tryz.underlying108 sizeU8 b (9 + u) (64 - u) (64 - u) r rfl rfl T 74 _ HR.out n HN.out (by omega) ?_)
      intro w1 hrow1 htch1
      clear hsl
      have HC : Hid (∃ q : Nat → Int, w1.rowIs b T 74 (hashF true (shaSt L (m / 64)) q L.length) ∧ (∀ j, j < m % 64 + n → q j = byteI L (64 * (m / 64) + j)) ∧ ∀ j, j < 64 → 0 ≤ q j ∧ q j ≤ 255) := by
        have h1 := hrow1.out
        rw [HU.out] at h1
        exact hash_copied (by have := HU.out; omega) HRD.out hn1 HP.out HPB.out h1
      have HT1 : Hid (Touch (· = b) w w1) := HT.out.trans htch1.out
      clear hrow1 htch1 HP HPB HR
      by_cases h64 : u + n = 64
      · have h64' : ((u : Int) + (n : Int) == 64) = true := by simp; omega
        have H64 := Lib.hid h64; clear h64
        go_wp2_with fail
        obtain ⟨q, q1, q2, q3⟩ := HC.out
        refine (shaMix b T _ q _ w1 q1 q3 (shaSt_ok _ _) (fun i hi => by rw [HT1.out.cell hg hgb]; exact HK.out i hi) (Nat.lt_of_lt_of_le hg HT1.out.size)).mono ?_
        rintro e w2 ⟨rfl, r1, r2⟩
        have HF : Hid (HashIn w2 b T L (m + n) L.length) := by
          have e1 := HU.out; have e2 := H64.out
          have d1 : (m + n) / 64 = m / 64 + 1 := by omega
          have d2 : (m + n) % 64 = 0 := by omega
          refine ⟨q, ?_, ?_, q3⟩
          · rw [d1]; show w2.rowIs b T 74 (hashF true (press (shaSt L (m / 64)) _) q _)
            rw [press_congr (fun j hj => (q2 j (by omega)).symm)]; exact r1
          · rw [d2]; intro j hj; omega
        have HT2 : Hid (Touch (· = b) w w2) := HT1.out.trans r2
        clear q1 q2 q3 r1 r2
        go_wp2
        go_roundw
        case rel => exact ⟨m + n, 0, _, rfl, rfl, by have := HU.out; have := H64.out; omega, by have := HRS.out; omega, drop_extract HRD.out, HF.out, HT2.out⟩
        case measure => simp [strLen]; omega
      · have h64' : ((u : Int) + (n : Int) == 64) = false := by simp; omega
        have H64 := Lib.hid h64; clear h64
        have HF : Hid (HashIn w1 b T L (m + n) L.length) := by
          obtain ⟨q, q1, q2, q3⟩ := HC.out
          have e1 := HU.out; have e2 := H64.out
          have d1 : (m + n) / 64 = m / 64 := by omega
          have d2 : (m + n) % 64 = m % 64 + n := by omega
          exact ⟨q, by rw [d1]; exact q1, by rw [d1, d2]; exact q2, q3⟩
        go_wp2
        go_roundw
        case rel => exact ⟨m + n, u + n, _, rfl, by go_num, by have := HU.out; have := H64.out; omega, by have := HRS.out; omega, drop_extract HRD.out, HF.out, HT1.out⟩
        case measure => simp [strLen]; omega
    · have HF : Hid (HashAt wr b T (l ++ s.data.toList)) := by
        rw [← HL.out]; unfold HashAt
        have : m = L.length := by omega
        rw [← this] at hrow ⊢
        exact ⟨p, hrow, by rw [this] at hp ⊢; exact hp, hpb⟩
      have HT := Lib.hid htch
      clear hrow hp hpb htch hrd
      go_wp2
      go_ret
      exact ⟨rfl, HF.out, HT.out⟩

end Go.Proofs.YtaekmmnpdbmoeaaGreatDoor

namespace Go.Proofs.YtaekmmnpdbmoeaaGreatDoor
open Go.RowKit

theorem sumK_cells (S : S8) (k : Nat) (X : Int) (hX : X = S.at k) (h0 : 0 ≤ X) (h1 : X < 4294967296) :
    Lib.byteCells (sumK S (k + 1)) = Lib.byteCells (sumK S k) ++ [.int .u8 (X / 16777216), .int .u8 (X / 65536 % 256), .int .u8 (X / 256 % 256), .int .u8 (X % 256)] := by
  subst hX
  have e1 := u8_toNat (i := S.at k / 16777216 % 256) (by omega) (by omega)
  have e2 := u8_toNat (i := S.at k / 65536 % 256) (by omega) (by omega)
  have e3 := u8_toNat (i := S.at k / 256 % 256) (by omega) (by omega)
  have e4 := u8_toNat (i := S.at k % 256) (by omega) (by omega)
  have e5 : S.at k / 16777216 % 256 = S.at k / 16777216 := by omega
  simp only [sumK, wordBytes, Lib.byteCells, List.map_append, List.map_cons, List.map_nil, e1, e2, e3, e4]
  rw [e5]

theorem infoU8 : (Tryz.prog.info? 5).map (fun i => (i.zero, i.size, i.bytes)) = some (some (.int .u8 0), 1, 1) := by kernel_rfl

theorem repeat0 : ∀ z : Nat, Lib.repeatL [0] z = List.replicate z 0
  | 0 => rfl
  | z + 1 => by rw [Lib.repeatL, repeat0 z, List.replicate_succ]; rfl

set_option maxRecDepth 100000 in
set_option maxHeartbeats 1000000 in
theorem shaNew (w : World) (hi : ∀ i, i < 8 → w.cell? ⟨1, i, none⟩ = some (.int .u32 (hinit.at i))) :
    Calls Tryz.prog 90 #[] w fun e w' => e = .returned (.pointer (some ⟨w.heap.size, 0, none⟩)) ∧ HashAt w' w.heap.size 151 [] ∧ Below w.heap.size w w' := by
  have i0 := hi 0 (by omega); have i1 := hi 1 (by omega); have i2 := hi 2 (by omega); have i3 := hi 3 (by omega)
  have i4 := hi 4 (by omega); have i5 := hi 5 (by omega); have i6 := hi 6 (by omega); have i7 := hi 7 (by omega)
  simp only [S8.at, hinit] at i0 i1 i2 i3 i4 i5 i6 i7
  clear hi
  go_enter Tryz.func90, Tryz.ntmps90
  go_wp2
  go_ret
  refine ⟨rfl, ⟨fun _ => 0, ?_, fun j hj => by simp at hj, fun _ _ => by constructor <;> decide +revert⟩, (Below.refl _ _).alloc (Nat.le_refl _) _⟩
  exact rowIs_eq (by kernel_rfl)

set_option maxRecDepth 100000 in
set_option maxHeartbeats 1000000 in
theorem shaHashSum (b T : Nat) (l : List UInt8) (w : World) (hh : HashAt w b T l) (hl : l.length ≤ 1099511627000)
    (hk : ∀ i, i < 64 → w.cell? ⟨2, i, none⟩ = some (.int .u32 (kay i))) (hg : 2 < w.heap.size) :
    Calls Tryz.prog 92 #[.pointer (some ⟨b, 0, none⟩)] w fun e w' => e = .returned (.string ⟨(shaSum l).toArray⟩) ∧ Below w.heap.size w w' := by
  have HH := Lib.hid hh
  obtain ⟨p, hr, hp, hpb⟩ := hh
  have c1 : w.cell? ⟨b, 73, none⟩ = some (.int .i64 (l.length : Int)) := hr.cell (by omega)
  have hbz : b < w.heap.size := hr.lt
  have HR := Lib.hid hr
  have HK := Lib.hid hk
  clear hr hk
  go_enter Tryz.func92, Tryz.ntmps92
  go_wp2_with (with_reducible refine wpList_load_rowIs rfl 151 (.tmp 13) rfl b T 74 _ rfl HR.out _ Tryz.underlying151 rfl (by kernel_rfl) ?_)
  intro cs h1 h2
  have HO : Hid (∀ i, i < 74 → (hashF true (shaSt l (l.length / 64)) p (l.length : Int) i).oneCell' = true) := by
    intro i hi; unfold hashF; split; rfl; split; rfl; split <;> rfl
  go_wp2_with (with_reducible refine wpList_store_row rfl 151 (.tmp 3) (.tmp 14) rfl w.heap.size 151 74 _ _ rfl (rowIs_any w _ _ 74 rfl) cs rfl h1.out h2.out HO.out sizeHash ?_)
  intro w1 h3 h4
  have HH1 : Hid (HashAt w1 w.heap.size 151 l) := ⟨p, h3.out, hp, hpb⟩
  have HB1 : Hid (Below w.heap.size w w1) := ((Below.refl _ _).alloc (Nat.le_refl _) _).trans ((h4.out.below (B := w.heap.size) (by simp) (fun k hk e => by omega)))
  have c2 : w1.cell? ⟨b, 73, none⟩ = some (.int .i64 (l.length : Int)) := by rw [HB1.out.cell hbz]; exact c1
  clear h3 h4 h1 h2 HO c1
  go_wp2_with fail
  obtain ⟨z, hz⟩ : ∃ z : Nat, (119 - (l.length : Int)) % 64 = (z : Int) := ⟨((119 - (l.length : Int)) % 64).toNat, by omega⟩
  rw [hz]
  have hz64 : z < 64 := by omega
  have HZ := Lib.hid hz; clear hz
  refine (Tryz.strings_Repeat _ z _ (by omega) (by show 1 * z ≤ _; omega)).mono ?_
  rintro e w2 ⟨rfl, hb2⟩
  have HH2 : Hid (HashAt w2 w.heap.size 151 l) := by
    obtain ⟨p', h1, h2, h3⟩ := HH1.out
    exact ⟨p', below_row hb2 h1 h1.lt, h2, h3⟩
  have HB2 : Hid (Below w.heap.size w w2) := HB1.out.trans (hb2.mono HB1.out.size)
  clear hb2 HH1 HB1 c2
  obtain ⟨rs, hrs⟩ : ∃ rs : ByteArray, rs = { data := (Lib.repeatL [0] z).toArray } := ⟨_, rfl⟩
  rw [show ({ data := #[0] } : ByteArray).data.toList = [0] from rfl, ← hrs]
  have HRS := Lib.hid (show rs.data.toList = List.replicate z 0 by rw [hrs]; simp [repeat0])
  have hrl : rs.size ≤ 64 := by rw [← toList_length, HRS.out]; simp; omega
  clear hrs
  go_wp2_with fail
  refine (shaWrite w.heap.size 151 l _ w2 HH2.out (by rw [ByteArray.size_append]; show l.length + (1 + rs.size) ≤ _; omega) (fun i hi => by rw [HB2.out.cell hg]; exact HK.out i hi) (Nat.lt_of_lt_of_le hg HB2.out.size) (by omega)).mono ?_
  rintro e w3 ⟨rfl, hh3, ht3⟩
  have HH3 : Hid (HashAt w3 w.heap.size 151 (l ++ (128 :: List.replicate z 0))) := by
    have e1 : ({ data := #[128] } ++ rs : ByteArray).data.toList = 128 :: List.replicate z 0 := by
      rw [ByteArray.data_append, Array.toList_append, HRS.out]; rfl
    rw [e1] at hh3; exact hh3
  have HB3 : Hid (Below w.heap.size w w3) := HB2.out.trans (ht3.below HB2.out.size fun k hk e => by omega)
  clear hh3 ht3 HB2 HH2
  obtain ⟨L, hL⟩ : ∃ L, L = l ++ (128 :: List.replicate z 0) := ⟨_, rfl⟩
  rw [← hL] at HH3
  have HL := Lib.hid hL
  have hLl : L.length = l.length + 1 + z := by rw [hL]; simp; omega
  have HLl := Lib.hid hLl
  have hLb : L.length ≤ 1099511627100 := by omega
  clear hL hLl
  have hw3 : w.heap.size < w3.heap.size := by obtain ⟨_, h, _⟩ := HH3.out; exact h.lt
  go_wp2
  go_loopw [31] (fun i wr => ∃ k : Nat, k ≤ 8 ∧ i = .int .i64 k ∧ Below w3.heap.size w3 wr ∧ wr.rowIs w3.heap.size 153 8 (fun j => if j < k then .int .u8 (be8 (l.length * 8) j) else .int .u8 0)) (fun i _ => 8 - (intOf i).toNat)
  case atStart => exact ⟨0, by omega, rfl, (Below.refl _ _).alloc (Nat.le_refl _) _, rowIs_eq (by kernel_rfl)⟩
  case round =>
    obtain ⟨k, hk, rfl, hbel, hrow⟩ := hrel
    by_cases hlt : k < 8
    · have c0 : wr.cell? ⟨w3.heap.size, k, none⟩ = some (.int .u8 0) := by rw [hrow.cell hlt, if_neg (by omega)]
      have c1 : wr.frozen? ⟨w3.heap.size, k, none⟩ = false := hrow.frozen k
      have m0 : (k : Int) < 8 := by omega
      have HB := Lib.hid hbel; clear hbel
      have HW := Lib.hid hrow; clear hrow
      go_wp2
      go_roundw
      case rel =>
        refine ⟨k + 1, by omega, by go_num, HB.out.setCell (Nat.le_refl _) _, (HW.out.set k _).congr fun j hj => ?_⟩
        by_cases e : j = k
        · subst e; rw [if_pos rfl, if_pos (by omega)]; unfold be8; rfl
        · rw [if_neg e]; by_cases e' : j < k
          · rw [if_pos e', if_pos (by omega)]
          · rw [if_neg e', if_neg (by omega)]
      case measure => simp [intOf]; omega
    · have hd : decide ((k : Int) < 8) = false := by simp; omega
      have cc : ∀ j, j < 8 → wr.cell? ⟨w3.heap.size, j, none⟩ = some (.int .u8 (be8 (l.length * 8) j)) := fun j hj => by rw [hrow.cell hj, if_pos (by omega)]
      have HB := Lib.hid hbel; clear hbel
      have hw4 : w3.heap.size < wr.heap.size := hrow.lt
      have HW := Lib.hid hrow; clear hrow hlt hk
      have HC := Lib.hid cc
      clear cc
      obtain ⟨w4, rfl⟩ : ∃ w4 : World, w4 = wr := ⟨_, rfl⟩
      obtain ⟨k1, rfl⟩ : ∃ k1 : Nat, k1 = k := ⟨_, rfl⟩
      have hl8 : (be8L (l.length * 8)).length = 8 := by simp [be8L]
      have hcv : (convert 108 9 (.slice (some ⟨w3.heap.size, 0, none⟩) 8 8)).run Tryz.prog w4 = .ok (.string ⟨(be8L (l.length * 8)).toArray⟩) w4 := by
        have := run_convert_bytes_back (P := Tryz.prog) w4 108 9 5 ⟨w3.heap.size, 0, none⟩ 8 (be8L (l.length * 8)) Tryz.underlying108 Tryz.underlying5 Tryz.underlying9 (fun j hj => by
          have hj' := hj
          rw [hl8] at hj
          have e : (⟨w3.heap.size, 0, none⟩ : Addr).add j = ⟨w3.heap.size, j, none⟩ := by unfold Addr.add; split <;> simp_all
          rw [e, HC.out j hj, be8L_get _ _ hj'])
        rwa [hl8] at this
      clear hl8
      obtain ⟨t8, ht8⟩ : ∃ t8 : ByteArray, t8 = { data := (be8L (l.length * 8)).toArray } := ⟨_, rfl⟩
      rw [← ht8] at hcv
      have HT8 := Lib.hid (show t8.data.toList = be8L (l.length * 8) by rw [ht8])
      have ht8s : t8.size = 8 := by rw [← toList_length, HT8.out]; simp [be8L]
      clear ht8
      have HT8s := Lib.hid ht8s
      clear ht8s
      go_wp2_with fail
      have HH4 : Hid (HashAt w4 w.heap.size 151 L) := by
        obtain ⟨p', h1, h2, h3⟩ := HH3.out
        exact ⟨p', below_row HB.out h1 hw3, h2, h3⟩
      have HB4 : Hid (Below w.heap.size w w4) := HB3.out.trans (HB.out.mono (by omega))
      refine (shaWrite w.heap.size 151 L t8 w4 HH4.out (by rw [HT8s.out]; omega) (fun i hi => by rw [HB4.out.cell hg]; exact HK.out i hi) (by have := HB4.out.size; omega) (by omega)).mono ?_
      rintro e w5 ⟨rfl, hh5, ht5⟩
      have HB5 : Hid (Below w.heap.size w w5) := HB4.out.trans (ht5.below (by omega) fun k hk e => by omega)
      rw [HT8.out] at hh5
      clear hcv HC HW HB ht5 HH3 HH4 HB3 HB4
      obtain ⟨M, hM⟩ : ∃ M, M = L ++ be8L (l.length * 8) := ⟨_, rfl⟩
      rw [← hM] at hh5
      have HM := Lib.hid (show M = shaPad l by
        rw [hM, HL.out]; unfold shaPad
        have : z = (119 - l.length % 64) % 64 := by have := HZ.out; omega
        rw [this])
      clear hM
      have HM64 := Lib.hid (show M.length % 64 = 0 by rw [HM.out, shaPad_length]; omega)
      obtain ⟨q, q1, q2, q3⟩ := hh5
      have HS := Lib.hid (shaSt_ok M (M.length / 64))
      have HE := Lib.hid (show shaSum l = sumK (shaSt M (M.length / 64)) 8 by unfold shaSum; rw [← HM.out])
      obtain ⟨S, hS⟩ : ∃ S, S = shaSt M (M.length / 64) := ⟨_, rfl⟩
      rw [← hS] at q1 HE HS
      clear hS q2 q3
      have hst : ∀ j, j < 8 → w5.cell? ⟨w.heap.size, 1 + j, none⟩ = some (.int .u32 (S.at j)) := fun j hj => by
        rw [q1.cell (by omega)]; unfold hashF; rw [if_neg (by omega), if_pos (by omega)]; simp
      have s0 := hst 0 (by omega); have s1 := hst 1 (by omega); have s2 := hst 2 (by omega); have s3 := hst 3 (by omega)
      have s4 := hst 4 (by omega); have s5 := hst 5 (by omega); have s6 := hst 6 (by omega); have s7 := hst 7 (by omega)
      simp only [S8.at] at s0 s1 s2 s3 s4 s5 s6 s7
      have hz5 : w.heap.size < w5.heap.size := q1.lt
      have HS8 : ∀ k, k < 8 → w32 (S.at k) := by
        obtain ⟨a1, a2, a3, a4, a5, a6, a7, a8⟩ := HS.out
        intro k hk
        rcases k with _ | _ | _ | _ | _ | _ | _ | _ | k <;> first | assumption | omega
      clear hst q1
      have hmk : ∀ w, (Instr.makeSlice 108 (.int .i64 0) (.int .i64 32)).run Tryz.prog w = .ok (.slice (some ⟨w.heap.size, 0, none⟩) 0 32) (w.alloc (.cells (Array.replicate 32 (.int .u8 0)) 5)) := fun _ => by kernel_rfl
      go_wp2
      clear s0 s1 s2 s3 s4 s5 s6 s7 hmk
      obtain ⟨i0, hi, hz0, hz1, hz2⟩ := info_parts infoU8
      go_loopw [7, 49] (fun v i wr => ∃ k : Nat, k ≤ 8 ∧ i = .int .i64 k ∧ wr.ownsRow w5.heap.size 5 1 v (4 * k) (Lib.byteCells (sumK S k)) ∧ Below w5.heap.size w5 wr) (fun _ i _ => 8 - (intOf i).toNat)
      case atStart => exact ⟨0, by omega, rfl, World.ownsRow_made w5 (Array.replicate 32 (.int .u8 0)) 32 (Nat.le_refl _) (by unfold maxLen; omega) rfl, (Below.refl _ _).alloc (Nat.le_refl _) _⟩
      case round =>
        obtain ⟨k, hk, rfl, hown, hbel⟩ := hrel
        by_cases hlt : k < 8
        · have hidx : ∀ w, (Instr.index 145 (.agg #[.int .u32 S.a, .int .u32 S.b, .int .u32 S.c, .int .u32 S.d, .int .u32 S.e, .int .u32 S.f, .int .u32 S.g, .int .u32 S.h]) (.int .i64 k)).run Tryz.prog w = .ok (.int .u32 (S.at k)) w := by
            intro w
            rcases k with _ | _ | _ | _ | _ | _ | _ | _ | k
            · kernel_rfl
            · kernel_rfl
            · kernel_rfl
            · kernel_rfl
            · kernel_rfl
            · kernel_rfl
            · kernel_rfl
            · kernel_rfl
            · omega
          have hx : w32 (S.at k) := HS8 k hlt
          obtain ⟨X, hX⟩ : ∃ X, X = S.at k := ⟨_, rfl⟩
          rw [← hX] at hidx hx
          obtain ⟨hx0, hx1⟩ := hx
          have HX := Lib.hid hX; clear hX
          have HO := Lib.hid hown; clear hown
          have HB := Lib.hid hbel; clear hbel
          go_wp2_with (at_builtin; refine wpList_append_own _ rfl (.tmp 52) (.tmp 64) 108 rfl w5.heap.size 5 i0 (.int .u8 0) 1 1 Tryz.underlying108 hi hz0 hz1 hz2 rfl (by decide) _ (4 * k) (Lib.byteCells (sumK S k)) rfl (HO.out.alloc _) ⟨wr.heap.size, 0, none⟩ 4 4 [.int .u8 (X / 16777216), .int .u8 (X / 65536 % 256), .int .u8 (X / 256 % 256), .int .u8 (X % 256)] rfl rfl ?c1 ?c2 ?c3 ?c4 ?c5 ?_)
          case c1 =>
            intro j u hj
            rcases j with _ | _ | _ | _ | j <;> simp at hj <;> subst hj <;> go_simp
          case c2 => intro u hu; simp at hu; rcases hu with rfl | rfl | rfl | rfl <;> rfl
          case c3 => unfold maxLen; omega
          case c4 => omega
          case c5 => have := HB.out.size; simp; omega
          intro v' w6 hown' hgrow _
          have HO2 := Lib.hid hown'; clear hown'
          have HG := Lib.hid hgrow; clear hgrow
          go_wp2
          go_roundw
          case rel =>
            refine ⟨k + 1, by omega, by go_num, ?_, ?_⟩
            · have e := sumK_cells S k X HX.out hx0 hx1
              rw [show 4 * (k + 1) = 4 * k + 4 by omega, e]; exact HO2.out
            · exact (HB.out.alloc (by have := HB.out.size; omega) _).grown HG.out (by have := HB.out.size; simp; omega) (fun g hg => (HO.out.lt g hg).1)
          case measure => simp [intOf]; omega
        · obtain rfl : k = 8 := by omega
          have hcv := run_convert_owned (P := Tryz.prog) 108 9 5 Tryz.underlying108 Tryz.underlying5 Tryz.underlying9 hown
          have HF : Hid (Below w.heap.size w wr) := HB5.out.trans (hbel.mono (by omega))
          clear hown hbel hlt hk
          go_wp2
          go_ret
          exact ⟨by rw [HE.out]; rfl, HF.out⟩

set_option maxHeartbeats 400000 in
theorem shaSumF (s : ByteArray) (w : World) (hs : s.size ≤ 1099511627000) (hi : ∀ i, i < 8 → w.cell? ⟨1, i, none⟩ = some (.int .u32 (hinit.at i)))
    (hk : ∀ i, i < 64 → w.cell? ⟨2, i, none⟩ = some (.int .u32 (kay i))) (hg : 2 < w.heap.size) :
    Calls Tryz.prog 63 #[.string s] w fun e w' => e = .returned (.string ⟨(shaSum s.data.toList).toArray⟩) ∧ Below w.heap.size w w' := by
  have HI := Lib.hid hi; clear hi
  have HK := Lib.hid hk; clear hk
  go_enter Tryz.func63, Tryz.ntmps63
  go_wp2_with fail
  refine (shaNew w HI.out).mono ?_
  rintro e w1 ⟨rfl, h1, h2⟩
  have H1 := Lib.hid h1; clear h1
  have H2 := Lib.hid h2; clear h2
  go_wp2_with fail
  have hz1 : w.heap.size < w1.heap.size := by obtain ⟨_, h, _⟩ := H1.out; exact h.lt
  refine (shaWrite w.heap.size 151 [] s w1 H1.out (by simp; omega) (fun i hi => by rw [H2.out.cell hg]; exact HK.out i hi) (by omega) (by omega)).mono ?_
  rintro e w2 ⟨rfl, h3, h4⟩
  have H3 := Lib.hid h3; clear h3
  have H4 : Hid (Below w.heap.size w w2) := H2.out.trans (h4.below (by omega) fun k hk e => by omega)
  clear h4
  go_wp2_with fail
  refine (shaHashSum w.heap.size 151 _ w2 H3.out (by simp; omega) (fun i hi => by rw [H4.out.cell hg]; exact HK.out i hi) (by have := H4.out.size; omega)).mono ?_
  rintro e w3 ⟨rfl, h5⟩
  have H5 := Lib.hid h5; clear h5
  go_wp2
  go_ret
  exact ⟨rfl, H4.out.trans (H5.out.mono H4.out.size)⟩

end Go.Proofs.YtaekmmnpdbmoeaaGreatDoor

namespace Go.Proofs.YtaekmmnpdbmoeaaGreatDoor
open Go.RowKit

def hexChar (n : Nat) : UInt8 := if n < 10 then UInt8.ofNat (48 + n) else UInt8.ofNat (87 + n)
def hexEnc : List UInt8 → List UInt8
  | [] => []
  | c :: r => hexChar (c.toNat / 16) :: hexChar (c.toNat % 16) :: hexEnc r
theorem hexEnc_append (l m : List UInt8) : hexEnc (l ++ m) = hexEnc l ++ hexEnc m := by
  induction l with
  | nil => rfl
  | cons c r ih => simp [hexEnc, ih]
theorem hexEnc_length (l : List UInt8) : (hexEnc l).length = 2 * l.length := by
  induction l with
  | nil => rfl
  | cons c r ih => simp [hexEnc, ih]; omega

theorem hexEnc_snoc (s : ByteArray) (k : Nat) (h : k < s.size) (c : Nat) (hc : c = s[k].toNat) :
    Lib.byteCells (hexEnc (s.data.toList.take (k + 1))) = Lib.byteCells (hexEnc (s.data.toList.take k)) ++ [.int .u8 (hexChar (c / 16)).toNat, .int .u8 (hexChar (c % 16)).toNat] := by
  subst hc; rw [take_snoc s k h, hexEnc_append]; simp [hexEnc, Lib.byteCells]

set_option maxRecDepth 100000 in
set_option maxHeartbeats 400000 in
theorem hexEncode (s : ByteArray) (w : World) (hs : s.size ≤ 1099511627776) (hd : ∀ i, i < 16 → w.cell? ⟨0, i, none⟩ = some (.int .u8 (hexChar i).toNat)) (hg : 0 < w.heap.size) :
    Calls Tryz.prog 46 #[.string s] w fun e w' => e = .returned (.string ⟨(hexEnc s.data.toList).toArray⟩) ∧ Below w.heap.size w w' := by
  have HD := Lib.hid hd; clear hd
  obtain ⟨i0, hi, hz0, hz1, hz2⟩ := info_parts infoU8
  go_enter Tryz.func46, Tryz.ntmps46
  go_wp2_with (at_make; refine wpList_make_own _ rfl (.const (.int .i64 0)) (.tmp 7) 108 rfl w.heap.size 5 i0 (.int .u8 0) 1 Tryz.underlying108 hi hz0 hz1 .i64 .i64 _ (2 * s.size) rfl rfl ?hC ?b2 ?b3 (Nat.le_refl _) ?_)
  case hC => push_cast; rfl
  case b2 => rw [hz2]; omega
  case b3 => unfold maxLen; omega
  intro w1 hown hgrow
  have HB1 : Hid (Below w.heap.size w w1) := (Below.refl _ _).grown hgrow (Nat.le_refl _) (by simp)
  have HO1 := Lib.hid hown
  clear hown hgrow
  go_wp2
  go_loopw [3, 4] (fun v i wr => ∃ k : Nat, k ≤ s.size ∧ i = .int .i64 k ∧ wr.ownsRow w.heap.size 5 1 v (2 * k) (Lib.byteCells (hexEnc (s.data.toList.take k))) ∧ Below w.heap.size w wr) (fun _ i _ => s.size - (intOf i).toNat)
  case atStart => exact ⟨0, by omega, rfl, by simpa [hexEnc, Lib.byteCells] using HO1.out, HB1.out⟩
  case round =>
    clear HO1 HB1
    obtain ⟨k, hk, rfl, hown, hbel⟩ := hrel
    by_cases hlt : k < s.size
    · have hlt0 := hlt
      have hc : s[k].toNat < 256 := s[k].toNat_lt
      have d1 : wr.cell? ⟨0, s[k].toNat / 16, none⟩ = some (.int .u8 (hexChar (s[k].toNat / 16)).toNat) := by rw [hbel.cell hg]; exact HD.out _ (by omega)
      have d2 : wr.cell? ⟨0, s[k].toNat % 16, none⟩ = some (.int .u8 (hexChar (s[k].toNat % 16)).toNat) := by rw [hbel.cell hg]; exact HD.out _ (by omega)
      have m0 : (k : Int) < (s.size : Int) := by omega
      have hnb : u3.ownBlock ≠ some 0 := fun e => by have := (hown.lt _ e).1; omega
      have hz : 0 < wr.heap.size := by have := hbel.size; omega
      have HO := Lib.hid hown; clear hown
      have HB := Lib.hid hbel; clear hbel
      have a1 : bits BinOp.and IntKind.u8 (s[k].toNat : Int) 15 = (s[k].toNat : Int) % 16 := by
        rw [u8_and _ _ (by omega) (by omega) (by omega) (by omega)]; show ((s[k].toNat &&& 15 : Nat) : Int) = _; rw [nat_mask4]; omega
      obtain ⟨c, hcc⟩ : ∃ c, c = s[k].toNat := ⟨_, rfl⟩
      rw [← hcc] at a1 hc d1 d2
      have b1 : (0 : Int) ≤ (c : Int) / 16 := by omega
      have b2 : (c : Int) / 16 < 16 := by omega
      have b3 : ((c : Int) / 16).toNat = c / 16 := by omega
      have b4 : (0 : Int) ≤ (c : Int) % 16 := by omega
      have b5 : (c : Int) % 16 < 16 := by omega
      have b6 : ((c : Int) % 16).toNat = c % 16 := by omega
      have hcc' : (s[k].toNat : Int) = (c : Int) := by rw [hcc]
      have H1 := Lib.hid hcc; clear hcc
      go_wp2_with fail
      go_region_held3 (fun w' => w'.cell? ⟨0, c / 16, none⟩ = some (.int .u8 (hexChar (c / 16)).toNat) ∧ w'.cell? ⟨0, c % 16, none⟩ = some (.int .u8 (hexChar (c % 16)).toNat)) (first | go_keep | (go_split_ands; refine ⟨?_, ?_⟩ <;> (rw [hgrow.cell_far _ (by simp <;> omega) (Ne.symm hnb)]; assumption))) ((refine step_append_lies _ (by rfl) _ _ _ (by rfl) w.heap.size 5 i0 _ 1 1 Tryz.underlying108 hi hz0 hz1 hz2 rfl (by omega) _ (2 * k) _ (by rfl) ((HO.out.alloc _).drew) ⟨wr.heap.size, 0, none⟩ 2 2 [.int .u8 (hexChar (c / 16)).toNat, .int .u8 (hexChar (c % 16)).toNat] (by rfl) (by rfl) (World.news_of_block (cs := #[.int .u8 (hexChar (c / 16)).toNat, .int .u8 (hexChar (c % 16)).toNat]) (t := 5) (fr := (0, 0)) (heap_alloc_new wr _)) (by simp [Value.oneCell']) (by omega) (by unfold maxLen; omega) (by omega) (by have := HB.out.size; simp; omega) (wr.heap.size + 1) (by simp) ?_; intro gg cap w1 hown1 hgrow hat hlt))
      all_goals
        have HO1 := Lib.hid hown1
        have HG := Lib.hid hgrow
        clear hown1 hgrow hat d1 d2
        go_wp2
        go_roundw
        case rel =>
          refine ⟨k + 1, by omega, by go_num, ?_, ?_⟩
          · rw [show 2 * (k + 1) = 2 * k + 2 by omega, hexEnc_snoc s k hlt0 c H1.out]; exact HO1.out
          · exact ((HB.out.alloc (by have := HB.out.size; omega) _).drew).grown HG.out (by have := HB.out.size; simp; omega) (fun g hg => (HO.out.lt g hg).1)
        case measure => simp [intOf]; omega
    · have hcv := run_convert_owned (P := Tryz.prog) 108 9 5 Tryz.underlying108 Tryz.underlying5 Tryz.underlying9 hown
      rw [List.take_of_length_le (by rw [toList_length]; omega)] at hcv
      have HB := Lib.hid hbel
      clear hown hbel
      go_wp2
      go_ret
      exact ⟨rfl, HB.out⟩

def shaHex (l : List UInt8) : List UInt8 := hexEnc (shaSum l)
theorem shaHex_length (l : List UInt8) : (shaHex l).length = 64 := by unfold shaHex; rw [hexEnc_length, shaSum_length]

set_option maxHeartbeats 400000 in
theorem shaDigest (s : ByteArray) (w : World) (hs : s.size ≤ 1099511627000) (hi : ∀ i, i < 8 → w.cell? ⟨1, i, none⟩ = some (.int .u32 (hinit.at i)))
    (hk : ∀ i, i < 64 → w.cell? ⟨2, i, none⟩ = some (.int .u32 (kay i))) (hd : ∀ i, i < 16 → w.cell? ⟨0, i, none⟩ = some (.int .u8 (hexChar i).toNat)) (hg : 2 < w.heap.size) (hg' : 0 < w.heap.size) :
    Calls Tryz.prog 35 #[.string s] w fun e w' => e = .returned (.string ⟨(shaHex s.data.toList).toArray⟩) ∧ Below w.heap.size w w' := by
  have HI := Lib.hid hi; clear hi
  have HK := Lib.hid hk; clear hk
  have HD := Lib.hid hd; clear hd
  go_enter Tryz.func35, Tryz.ntmps35
  go_wp2_with fail
  refine (shaSumF s w hs HI.out HK.out hg).mono ?_
  rintro e w1 ⟨rfl, h1⟩
  have H1 := Lib.hid h1; clear h1
  go_wp2_with fail
  refine (hexEncode _ w1 (by show (shaSum s.data.toList).toArray.size ≤ _; rw [List.size_toArray, shaSum_length]; omega) (fun i hi => by rw [H1.out.cell hg']; exact HD.out i hi) (by have := H1.out.size; omega)).mono ?_
  rintro e w2 ⟨rfl, h2⟩
  have H2 := Lib.hid h2; clear h2
  go_wp2
  go_ret
  exact ⟨rfl, H1.out.trans (H2.out.mono H1.out.size)⟩

end Go.Proofs.YtaekmmnpdbmoeaaGreatDoor

namespace Go.Proofs.YtaekmmnpdbmoeaaGreatDoor
open Go.RowKit

/-- The laid tables. -/
structure Tabs (w : World) : Prop where
  init : ∀ i, i < 8 → w.cell? ⟨1, i, none⟩ = some (.int .u32 (hinit.at i))
  rounds : ∀ i, i < 64 → w.cell? ⟨2, i, none⟩ = some (.int .u32 (kay i))
  digits : ∀ i, i < 16 → w.cell? ⟨0, i, none⟩ = some (.int .u8 (hexChar i).toNat)
  l1 : 1 < w.heap.size
  l2 : 2 < w.heap.size
  l3 : 0 < w.heap.size
theorem Tabs.below {w w' : World} (h : Tabs w) (hb : Below w.heap.size w w') : Tabs w' where
  init i hi := by rw [hb.cell h.l1]; exact h.init i hi
  rounds i hi := by rw [hb.cell h.l2]; exact h.rounds i hi
  digits i hi := by rw [hb.cell h.l3]; exact h.digits i hi
  l1 := Nat.lt_of_lt_of_le h.l1 hb.size
  l2 := Nat.lt_of_lt_of_le h.l2 hb.size
  l3 := Nat.lt_of_lt_of_le h.l3 hb.size
theorem digest (s : ByteArray) (w : World) (hs : s.size ≤ 1099511627000) (hT : Tabs w) :
    Calls Tryz.prog 35 #[.string s] w fun e w' => e = .returned (.string ⟨(shaHex s.data.toList).toArray⟩) ∧ Below w.heap.size w w' :=
  shaDigest s w hs hT.init hT.rounds hT.digits hT.l2 hT.l3

def keyId (s t : List UInt8) : List UInt8 := if keyOk s t then shaHex (keyForm s t) else []
def KeyIdPost (s t : ByteArray) (w : World) (e : Ending) (w' : World) : Prop :=
  e = .returned (.tuple #[.string ⟨(keyId s.data.toList t.data.toList).toArray⟩, .int .i64 (if keyOk s.data.toList t.data.toList then 0 else 3)]) ∧ Below w.heap.size w w'

set_option maxHeartbeats 400000 in
set_option maxRecDepth 100000 in
theorem keyID (s t : ByteArray) (w : World) (hs : s.size ≤ 4294967) (ht : t.size ≤ 4294967) (hT : Tabs w) :
    Calls Tryz.prog 37 #[.agg #[.string s, .string t]] w (KeyIdPost s t w) := by
  have HT := Lib.hid hT
  clear hT
  have HB0 := Lib.hid (show Below w.heap.size w (w.alloc (.cells #[.string s, .string t] 24)) from (Below.refl _ _).alloc (Nat.le_refl _) _)
  unfold KeyIdPost keyId
  cases hk : keyOk s.data.toList t.data.toList
  · have HV := Lib.hid (keyValue_no s t (w.alloc (.cells #[.string s, .string t] 24)) (by omega) (by omega) hk)
    clear hk
    go_enter Tryz.func37, Tryz.ntmps37
    go_wp2_with fail
    refine HV.out.mono ?_
    rintro e w1 ⟨rfl, hb1⟩
    have HB1 := Lib.hid (HB0.out.trans (hb1.mono (by simp)))
    clear hb1
    unfold zeroAgg
    go_wp2
    go_ret2
    exact ⟨rfl, HB1.out.alloc HB1.out.size _⟩
  · have HV := Lib.hid (keyValue_yes s t (w.alloc (.cells #[.string s, .string t] 24)) (by omega) (by omega) hk)
    have HM := Lib.hid (keyJ_may hk)
    have HF := Lib.hid (keyJ_form hk)
    have HE := Lib.hid (keyJ_enc hk)
    have HW := Lib.hid (keyJ_wt hs ht)
    clear hk
    go_enter Tryz.func37, Tryz.ntmps37
    go_wp2_with fail
    refine HV.out.mono ?_
    rintro e w1 ⟨an, cn, ai, ci, rfl, hr1, hb1⟩
    have HB1 := Lib.hid (HB0.out.trans (hb1.mono (by simp)))
    have HR1 := Lib.hid hr1
    clear hb1 hr1
    have HC := Lib.hid (canonEncode false (keyJ s t) _ (w1.alloc (.cells #[.int .u8 5, .int .i64 0, .string { data := #[] }, .slice an 2 cn, .slice ai 2 ci] 44)) HW.out (HR1.out.below ((Below.refl _ _).alloc (Nat.le_refl _) _) (Nat.le_refl _) (Nat.zero_le _) (by simp)) (fun _ => HF.out) (fun h => by cases h))
    unfold CanonPost at HC
    rw [HM.out, HE.out] at HC
    go_wp2_with fail
    refine HC.out.mono ?_
    clear HC
    rintro e w2 ⟨rfl, hb2⟩
    have HB2 := Lib.hid ((HB1.out.alloc HB1.out.size _).trans (hb2.mono (by have := HB1.out.size; simp; omega)))
    clear hb2
    go_wp2_with fail
    refine (digest _ w2 ?_ (HT.out.below HB2.out)).mono ?_
    · show (keyForm s.data.toList t.data.toList).toArray.size ≤ _
      rw [List.size_toArray, keyForm_len, toList_length, toList_length]; omega
    rintro e w3 ⟨rfl, hb3⟩
    have HB3 := Lib.hid (HB2.out.trans (hb3.mono HB2.out.size))
    clear hb3
    go_wp2
    go_ret2
    exact ⟨rfl, HB3.out⟩

end Go.Proofs.YtaekmmnpdbmoeaaGreatDoor

namespace Go.Proofs.YtaekmmnpdbmoeaaGreatDoor
open Go.ChangeShapes Go.WideShapes Go.ChangeAt Go.RowKit

theorem own : ownKnob Tryz.prog.godebug = none := by kernel_rfl
theorem gHex : Tryz.prog.globalNamed "legate/hex.digits" = some 0 := by kernel_rfl
theorem gIni : Tryz.prog.globalNamed "legate/sha.initial" = some 1 := by kernel_rfl
theorem gRou : Tryz.prog.globalNamed "legate/sha.rounds" = some 2 := by kernel_rfl
theorem gHexT : (Tryz.prog.globals[0]?).map (·.type) = some 111 := by kernel_rfl
theorem gIniT : (Tryz.prog.globals[1]?).map (·.type) = some 145 := by kernel_rfl
theorem gRouT : (Tryz.prog.globals[2]?).map (·.type) = some 160 := by kernel_rfl
theorem cellsHex : Tryz.prog.cellsOf 111 = 16 := by kernel_rfl
theorem cellsIni : Tryz.prog.cellsOf 145 = 8 := by kernel_rfl
theorem cellsRou : Tryz.prog.cellsOf 160 = 64 := by kernel_rfl
theorem cellsKey : Tryz.prog.cellsOf 24 = 2 := by kernel_rfl
theorem cells5 : Tryz.prog.cellsOf 5 = 1 := by kernel_rfl
theorem cells32 : Tryz.prog.cellsOf 144 = 1 := by kernel_rfl

def hexZs : List Int := [48, 49, 50, 51, 52, 53, 54, 55, 56, 57, 97, 98, 99, 100, 101, 102]
def iniZs : List Int := [1779033703, 3144134277, 1013904242, 2773480762, 1359893119, 2600822924, 528734635, 1541459225]
abbrev laidAll : List (String × DataW Unit) := [("legate/hex.digits", Rows.laid_legate_hex_digits), ("math/bits.deBruijn32tab", Rows.laid_math_bits_deBruijn32tab), ("math/bits.deBruijn64tab", Rows.laid_math_bits_deBruijn64tab), ("internal/strconv.uint64pow10", Rows.laid_internal_strconv_uint64pow10), ("legate/sha.initial", Rows.laid_legate_sha_initial), ("legate/sha.rounds", Rows.laid_legate_sha_rounds)]

theorem laid_drop {P : Program} {W : World} {x : String × DataW Unit} {r : List (String × DataW Unit)} (h : laidMet P (x :: r) W) : laidMet P r W := by
  obtain ⟨ps, ⟨g, t, cs, fuel, p, q, h1, h2, h3, h4, h5, rfl⟩, hn, ha⟩ := h
  exact ⟨q, h5, (List.nodup_append.1 hn).2.1, fun b off hp => ha b off (List.mem_append.2 (.inr hp))⟩

theorem tabs_of {W : World} (h : laidMet Tryz.prog laidAll W) : Tabs W := by
  have h1 : Lib.TabIs Tryz.prog W "legate/hex.digits" .u8 hexZs := Lib.tabIs_of_head gHex gHexT Tryz.underlying111 Tryz.underlying5 cells5 cellsHex h
  have h5 := laid_drop (laid_drop (laid_drop (laid_drop h)))
  have h2 : Lib.TabIs Tryz.prog W "legate/sha.initial" .u32 iniZs := Lib.tabIs_of_head gIni gIniT Tryz.underlying145 Tryz.underlying144 cells32 cellsIni h5
  have h3 : Lib.TabIs Tryz.prog W "legate/sha.rounds" .u32 kays := Lib.tabIs_of_head gRou gRouT Tryz.underlying160 Tryz.underlying144 cells32 cellsRou (laid_drop h5)
  have c1 : ∀ i, i < 16 → W.cell? ⟨0, i, none⟩ = some (.int .u8 (hexChar i).toNat) := fun i hi => by
    rw [h1.cell gHex i hi]
    have : ∀ m : Fin 16, hexZs.getD m.val 0 = ((hexChar m.val).toNat : Int) := by decide
    rw [this ⟨i, hi⟩]
  have c2 : ∀ i, i < 8 → W.cell? ⟨1, i, none⟩ = some (.int .u32 (hinit.at i)) := fun i hi => by
    rw [h2.cell gIni i hi]
    have : ∀ m : Fin 8, iniZs.getD m.val 0 = hinit.at m.val := by decide
    rw [this ⟨i, hi⟩]
  have c3 : ∀ i, i < 64 → W.cell? ⟨2, i, none⟩ = some (.int .u32 (kay i)) := fun i hi => h3.cell gRou i (show i < kays.length by exact hi)
  exact ⟨c2, c3, c1, World.block_lt_of_cell? W _ (c2 0 (by decide)), World.block_lt_of_cell? W _ (c3 0 (by decide)), World.block_lt_of_cell? W _ (c1 0 (by decide))⟩

/-- The cells of a table. -/
def tabCells : DataW Unit → Array Value
  | .agg l => (l.map fun
    | .lit (.int k n) => Value.int k n
    | _ => undef).toArray
  | _ => #[]
def lay (g : Nat) (d : DataW Unit) (h : Array Obj) : Array Obj := h.modify g fun
  | .cells _ t frozen => .cells (tabCells d) t frozen
  | o => o
/-- A world for the witness: the settled one, the tables as their initialisers lay them. -/
noncomputable def laidWorld (os : Os) : World :=
  { World.holding Tryz.prog os ⟨#[], #[], []⟩ with heap := lay 2 Rows.laid_legate_sha_rounds (lay 1 Rows.laid_legate_sha_initial (lay 4 Rows.laid_internal_strconv_uint64pow10 (lay 6 Rows.laid_math_bits_deBruijn64tab (lay 5 Rows.laid_math_bits_deBruijn32tab (lay 0 Rows.laid_legate_hex_digits (World.holding Tryz.prog os ⟨#[], #[], []⟩).heap))))) }

/-- The row's last step where the call has made memory, and marked some of it. -/
theorem post_below {H : Type} {enc : TypeId × Value → H} {P : Program} {f : Func} {s : ChangeSpec} {a1 a2 a3 a4 : Bool} {W W' : World} {args : Array Value} {v : Value} {ds gs : List (DataW H)} {before pa pv : List MemPlace}
    (hW : DataW.Whole enc P f.params.toList s.vars a1 W args.toList ds gs before)
    (hr : ∀ (b : Nat) (sp : Nat → Bool) (hd : Bool), DataW.TrodAll enc P W' b sp hd f.resultTypes.toList (v.resultList f.resultTypes.size) (s.fn H (ds ++ gs)).results [])
    (ha : ∀ sp : Nat → Bool, (∀ p ∈ before, sp p.block = true) → DataW.TrodAll enc P W' 0 sp true f.params.toList args.toList (s.fn H (ds ++ gs)).args pa)
    (hv : ∀ sp : Nat → Bool, (∀ p ∈ before, sp p.block = true) → DataW.TrodVars enc P W' sp s.vars (s.fn H (ds ++ gs)).vars pv)
    (he : before = pa ++ pv) (hb : Below W.heap.size W W')
    (hok : ∀ (j : Nat) (t : TypeId) (r : Value), f.resultTypes[j]? = some t → (v.resultList f.resultTypes.size)[j]? = some r → Value.okWide P W' .any 0 t r) :
    s.post enc P f a1 a2 a3 a4 W args v W' := by
  have hlt := hW.lt
  have hold : ∀ p ∈ before, (fun b => decide (b < W.heap.size)) p.block = true := fun p hp => decide_eq_true (hlt p hp)
  refine ⟨ds, gs, before, [], pa, pv, hW, hr _ _ _, ha _ hold, hv _ hold, World.keptBut_mono (fun p hp => ⟨hp, .inr ?_⟩) (hb.frame (· ∈ before)), fun _ => ?_⟩
  · rw [he] at hp; exact List.mem_append.1 hp
  obtain ⟨_, _, _, _, _, hz, hn⟩ := hW
  refine ⟨hok, _, _, ([] ++ pa) ++ pv, ⟨[] ++ pa, pv, trodAll_append (ha _ fun _ _ => rfl) (hr _ _ _), hv _ fun _ _ => rfl, rfl, fun b off hp => ?_, fun h1 => ?_⟩, fun p hp _ => ?_⟩
  · have hin : MemPlace.cell b off ∈ before := by rw [he]; exact hp
    rw [hb.frozen (hlt _ hin)]; exact hz b off hin
  · have := hn h1; rwa [he] at this
  · rw [he]; exact hp

end Go.Proofs.YtaekmmnpdbmoeaaGreatDoor

namespace Go.Proofs.YtaekmmnpdbmoeaaGreatDoor
open Go.ChangeShapes Go.WideShapes Go.ChangeAt Go.RowKit Go.Joins Go.ChangeMaps

theorem laidOut : laidOutB Tryz.prog = true := by kernel_rfl

theorem trodAll_stays {H : Type} {enc : TypeId × Value → H} {W W' : World} {sp : Nat → Bool} (hb : Below W.heap.size W W') : ∀ (ts : List TypeId) (vs : List Value) (ds : List (DataW H)) (ps : List MemPlace),
    (∀ t ∈ ts, Tryz.prog.readableRec t = true ∧ t < Tryz.prog.types.size) → DataW.TrodAll enc Tryz.prog W 0 (fun _ => true) true ts vs ds ps → (∀ x ∈ ps, x.block < W.heap.size) → (∀ x ∈ ps, sp x.block = true) → DataW.TrodAll enc Tryz.prog W' 0 sp true ts vs ds ps
  | [], vs, ds, ps, _, h, _, _ => by
    cases vs <;> cases ds <;> simp [DataW.TrodAll] at h
    subst h; simp [DataW.TrodAll]
  | t :: ts, vs, ds, ps, ht, h, hlt, hs => by
    obtain ⟨v, vs', d, ds', p, q, rfl, rfl, rfl, hd, hr⟩ := trodAll_cons h
    obtain ⟨h1, h2⟩ := ht t (by simp)
    have e1 := WideElems.Trod_stays (sp' := sp) laidOut h1 h2 hd (fun x hx => hb.same (hlt x (List.mem_append.2 (.inl hx)))) (fun x hx => hs x (List.mem_append.2 (.inl hx)))
    have e2 := trodAll_stays hb ts vs' ds' q (fun t' h' => ht t' (List.mem_cons.2 (.inr h'))) hr (fun x hx => hlt x (List.mem_append.2 (.inr hx))) (fun x hx => hs x (List.mem_append.2 (.inr hx)))
    exact ⟨p, q, e1, e2, rfl⟩

section
variable {H : Type} {enc : TypeId × Value → H} {W : World} {base : Nat}
set_option maxRecDepth 100000 in
theorem arg_keys {v : Value} {d : DataW H} {p : List MemPlace} (hv : Value.okWide Tryz.prog W .any base 29 v) (h : DataW.Trod enc Tryz.prog W 0 (fun _ => true) true 29 v d p) :
    ∃ (a : Option Addr) (cap : Nat) (l : List Key2), v = .slice a l.length cap ∧ l.length ≤ 9223372036854775807 ∧ KeysAt W 0 W.heap.size a l := by
  obtain ⟨a, n, c, rfl⟩ := okWide_slice Tryz.underlying29 hv
  obtain ⟨fuel, hf⟩ := h
  obtain ⟨a', cap, l, e, _, hm, _, hK⟩ := open_keys (c := .slice a n c) (by simpa [Value.cells] using hf)
  exact ⟨a', cap, l, e, by unfold maxLen at hm; omega, hK⟩
set_option maxRecDepth 100000 in
theorem arg_val {v : Value} {d : DataW H} {p : List MemPlace} (hv : Value.okWide Tryz.prog W .any base 44 v) (h : DataW.Trod enc Tryz.prog W 0 (fun _ => true) true 44 v d p) (hz : W.noneFrozen p) :
    ∃ u : JV, u.num ∧ u.fits ∧ Rep W 0 W.heap.size u v := by
  obtain ⟨cs, rfl, hsz⟩ := okWide_struct Tryz.underlying44 hv
  obtain ⟨fuel, hf⟩ := h
  obtain ⟨u, h1, h2, h3, _⟩ := open_val fuel cs.toList _ (by simpa [Value.cells] using hf) hz
  exact ⟨u, h1, h2, by simpa using h3⟩
set_option maxRecDepth 100000 in
theorem arg_key {v : Value} {d : DataW H} {p : List MemPlace} (hv : Value.okWide Tryz.prog W .any base 24 v) (h : DataW.Trod enc Tryz.prog W 0 (fun _ => true) true 24 v d p) :
    ∃ s t : ByteArray, v = .agg #[.string s, .string t] := by
  obtain ⟨c0, k0, y0, z0, m0, rfl, rfl, rfl, hy0, hz0⟩ := open_agg2 Tryz.underlying24 (by kernel_rfl) cellsKey hv h
  obtain ⟨s0, e0, rfl, ws0⟩ := DataW.trod_string Tryz.underlying9 hy0
  obtain ⟨t0, g0, rfl, wt0⟩ := DataW.trod_string Tryz.underlying9 hz0
  simp at e0 g0
  subst e0 g0
  exact ⟨s0, t0, rfl⟩
set_option maxRecDepth 100000 in
theorem arg_str {v : Value} {d : DataW H} {p : List MemPlace} (hv : Value.okWide Tryz.prog W .any base 9 v) (h : DataW.Trod enc Tryz.prog W 0 (fun _ => true) true 9 v d p) :
    ∃ s : ByteArray, v = .string s := by
  obtain ⟨s, rfl, _⟩ := open_string Tryz.underlying9 hv h
  exact ⟨s, rfl⟩
end
theorem u8_wf {n : Int} (h : (Lit.int .u8 n).wf = true) : 0 ≤ n ∧ n ≤ 255 := by
  unfold Lit.wf at h
  rw [Bool.and_eq_true, decide_eq_true_eq, decide_eq_true_eq] at h
  exact h

end Go.Proofs.YtaekmmnpdbmoeaaGreatDoor

namespace Go.Proofs.YtaekmmnpdbmoeaaGreatDoor
open Go.ChangeShapes Go.WideShapes Go.ChangeAt Go.RowKit Go.Joins Go.ChangeMaps

theorem gPow : Tryz.prog.globalNamed "internal/strconv.uint64pow10" = some 4 := by kernel_rfl
theorem gPowT : (Tryz.prog.globals[4]?).map (·.type) = some 198 := by kernel_rfl
theorem cellsPow : Tryz.prog.cellsOf 198 = 20 := by kernel_rfl
theorem cells64 : Tryz.prog.cellsOf 143 = 1 := by kernel_rfl
theorem cellsSig : Tryz.prog.cellsOf 26 = 2 := by kernel_rfl
theorem cellsVer : Tryz.prog.cellsOf 60 = 3 := by kernel_rfl
theorem pow_of {W : World} (h : laidMet Tryz.prog laidAll W) : Pow10 W :=
  Lib.tabIs_of_head gPow gPowT Tryz.underlying198 Tryz.underlying143 cells64 cellsPow (laid_drop (laid_drop (laid_drop h)))

theorem trodAll_seven {H : Type} {P : Program} {enc : TypeId × Value → H} {w : World} {base : Nat} {spare : Nat → Bool} {held : Bool} {t0 t1 t2 t3 t4 t5 t6 : TypeId} {args : Array Value} {ds : List (DataW H)} {ps : List MemPlace} (h : DataW.TrodAll enc P w base spare held [t0, t1, t2, t3, t4, t5, t6] args.toList ds ps) :
    ∃ v0 v1 v2 v3 v4 v5 v6 d0 d1 d2 d3 d4 d5 d6 p0 p1 p2 p3 p4 p5 p6, args = #[v0, v1, v2, v3, v4, v5, v6] ∧ ds = [d0, d1, d2, d3, d4, d5, d6] ∧ ps = p0 ++ p1 ++ p2 ++ p3 ++ p4 ++ p5 ++ p6 ∧ DataW.Trod enc P w base spare held t0 v0 d0 p0 ∧ DataW.Trod enc P w base spare held t1 v1 d1 p1 ∧ DataW.Trod enc P w base spare held t2 v2 d2 p2 ∧ DataW.Trod enc P w base spare held t3 v3 d3 p3 ∧ DataW.Trod enc P w base spare held t4 v4 d4 p4 ∧ DataW.Trod enc P w base spare held t5 v5 d5 p5 ∧ DataW.Trod enc P w base spare held t6 v6 d6 p6 := by
  obtain ⟨v0, vs0, d0, ds0, p0, q0, hargs, rfl, rfl, hd0, hr0⟩ := trodAll_cons h
  obtain ⟨v1, vs1, d1, ds1, p1, q1, rfl, rfl, rfl, hd1, hr1⟩ := trodAll_cons hr0
  obtain ⟨v2, vs2, d2, ds2, p2, q2, rfl, rfl, rfl, hd2, hr2⟩ := trodAll_cons hr1
  obtain ⟨v3, vs3, d3, ds3, p3, q3, rfl, rfl, rfl, hd3, hr3⟩ := trodAll_cons hr2
  obtain ⟨v4, vs4, d4, ds4, p4, q4, rfl, rfl, rfl, hd4, hr4⟩ := trodAll_cons hr3
  obtain ⟨v5, vs5, d5, ds5, p5, q5, rfl, rfl, rfl, hd5, hr5⟩ := trodAll_cons hr4
  obtain ⟨v6, vs6, d6, ds6, p6, q6, rfl, rfl, rfl, hd6, hr6⟩ := trodAll_cons hr5
  obtain ⟨rfl, rfl, rfl⟩ := trodAll_nil hr6
  exact ⟨v0, v1, v2, v3, v4, v5, v6, d0, d1, d2, d3, d4, d5, d6, p0, p1, p2, p3, p4, p5, p6, by cases args; simp_all, rfl, by simp, hd0, hd1, hd2, hd3, hd4, hd5, hd6⟩

theorem trodAll_five {H : Type} {P : Program} {enc : TypeId × Value → H} {w : World} {base : Nat} {spare : Nat → Bool} {held : Bool} {t0 t1 t2 t3 t4 : TypeId} {args : Array Value} {ds : List (DataW H)} {ps : List MemPlace} (h : DataW.TrodAll enc P w base spare held [t0, t1, t2, t3, t4] args.toList ds ps) :
    ∃ v0 v1 v2 v3 v4 d0 d1 d2 d3 d4 p0 p1 p2 p3 p4, args = #[v0, v1, v2, v3, v4] ∧ ds = [d0, d1, d2, d3, d4] ∧ ps = p0 ++ p1 ++ p2 ++ p3 ++ p4 ∧ DataW.Trod enc P w base spare held t0 v0 d0 p0 ∧ DataW.Trod enc P w base spare held t1 v1 d1 p1 ∧ DataW.Trod enc P w base spare held t2 v2 d2 p2 ∧ DataW.Trod enc P w base spare held t3 v3 d3 p3 ∧ DataW.Trod enc P w base spare held t4 v4 d4 p4 := by
  obtain ⟨v0, vs0, d0, ds0, p0, q0, hargs, rfl, rfl, hd0, hr0⟩ := trodAll_cons h
  obtain ⟨v1, vs1, d1, ds1, p1, q1, rfl, rfl, rfl, hd1, hr1⟩ := trodAll_cons hr0
  obtain ⟨v2, vs2, d2, ds2, p2, q2, rfl, rfl, rfl, hd2, hr2⟩ := trodAll_cons hr1
  obtain ⟨v3, vs3, d3, ds3, p3, q3, rfl, rfl, rfl, hd3, hr3⟩ := trodAll_cons hr2
  obtain ⟨v4, vs4, d4, ds4, p4, q4, rfl, rfl, rfl, hd4, hr4⟩ := trodAll_cons hr3
  obtain ⟨rfl, rfl, rfl⟩ := trodAll_nil hr4
  exact ⟨v0, v1, v2, v3, v4, d0, d1, d2, d3, d4, p0, p1, p2, p3, p4, by cases args; simp_all, rfl, by simp, hd0, hd1, hd2, hd3, hd4⟩

section
variable {H : Type} {enc : TypeId × Value → H} {W : World} {base : Nat}
set_option maxRecDepth 100000 in
theorem arg_vers {v : Value} {d : DataW H} {p : List MemPlace} (hv : Value.okWide Tryz.prog W .any base 22 v) (h : DataW.Trod enc Tryz.prog W 0 (fun _ => true) true 22 v d p) :
    ∃ (a : Option Addr) (cap : Nat) (l : List (ByteArray × ByteArray × ByteArray)), v = .slice a l.length cap ∧ l.length ≤ 9223372036854775807 ∧ TrisAt W 0 W.heap.size a l := by
  obtain ⟨a, n, c, rfl⟩ := okWide_slice Tryz.underlying22 hv
  obtain ⟨fuel, hf⟩ := h
  obtain ⟨a', cap, l, e, _, hm, hK⟩ := open_tris (c := .slice a n c) Tryz.underlying22 Tryz.underlying60 (by kernel_rfl) cellsVer Tryz.underlying9 Tryz.underlying9 Tryz.underlying9 (by simpa [Value.cells] using hf)
  exact ⟨a', cap, l, e, by unfold maxLen at hm; omega, hK⟩
set_option maxRecDepth 100000 in
theorem arg_sig {v : Value} {d : DataW H} {p : List MemPlace} (hv : Value.okWide Tryz.prog W .any base 26 v) (h : DataW.Trod enc Tryz.prog W 0 (fun _ => true) true 26 v d p) :
    ∃ s t : ByteArray, v = .agg #[.string s, .string t] := by
  obtain ⟨c0, k0, y0, z0, m0, rfl, rfl, rfl, hy0, hz0⟩ := open_agg2 Tryz.underlying26 (by kernel_rfl) cellsSig hv h
  obtain ⟨s0, e0, rfl, ws0⟩ := DataW.trod_string Tryz.underlying9 hy0
  obtain ⟨t0, g0, rfl, wt0⟩ := DataW.trod_string Tryz.underlying9 hz0
  simp at e0 g0
  subst e0 g0
  exact ⟨s0, t0, rfl⟩
theorem cellsAuth : Tryz.prog.cellsOf 49 = 2 := by kernel_rfl
set_option maxRecDepth 100000 in
theorem arg_auth {v : Value} {d : DataW H} {p : List MemPlace} (hv : Value.okWide Tryz.prog W .any base 49 v) (h : DataW.Trod enc Tryz.prog W 0 (fun _ => true) true 49 v d p) :
    ∃ (t : Int) (a : Option Addr) (cap : Nat) (l : List ByteArray), v = .agg #[.int .i64 t, .slice a l.length cap] ∧ l.length ≤ 9223372036854775807 ∧ StrsAt W 0 W.heap.size a l := by
  obtain ⟨c0, c1, y0, y1, n, rfl, _, _, h0, h1⟩ := open_agg2 Tryz.underlying49 (by kernel_rfl) cellsAuth hv h
  obtain ⟨t, e0, _, _⟩ := DataW.trod_int Tryz.underlying3 h0
  obtain ⟨ia, ic, ids, e1, _, hm, _, hS⟩ := open_names Tryz.underlying41 Tryz.underlying9 cellsStrV h1
  simp only [List.cons.injEq, and_true] at e0
  subst e0 e1
  exact ⟨t, ia, ic, ids, rfl, by unfold maxLen at hm; omega, hS⟩
theorem cellsEnv : Tryz.prog.cellsOf 47 = 6 := by kernel_rfl
set_option maxRecDepth 100000 in
theorem arg_env {v : Value} {d : DataW H} {p : List MemPlace} (hv : Value.okWide Tryz.prog W .any base 47 v) (h : DataW.Trod enc Tryz.prog W 0 (fun _ => true) true 47 v d p) (hz : W.noneFrozen p) :
    ∃ (u : JV) (an ai sa : Option Addr) (cn ci sc : Nat) (l : List Key2), v = .agg #[.int .u8 u.kind, .int .i64 u.n, .string u.t, .slice an u.names.length cn, .slice ai u.items.length ci, .slice sa l.length sc] ∧ u.num ∧ u.fits ∧ Rep W 0 W.heap.size u (.agg #[.int .u8 u.kind, .int .i64 u.n, .string u.t, .slice an u.names.length cn, .slice ai u.items.length ci]) ∧ KeysAt W 0 W.heap.size sa l ∧ l.length ≤ 9223372036854775807 ∧ l.length ≤ sc := by
  obtain ⟨cs, rfl, hsz⟩ := okWide_struct Tryz.underlying47 hv
  rw [cellsEnv] at hsz
  obtain ⟨cs⟩ := cs
  obtain ⟨c0, c1, c2, c3, c4, c5, rfl⟩ : ∃ c0 c1 c2 c3 c4 c5, cs = [c0, c1, c2, c3, c4, c5] := by
    match cs, hsz with
    | [c0, c1, c2, c3, c4, c5], _ => exact ⟨c0, c1, c2, c3, c4, c5, rfl⟩
  obtain ⟨fuel, hf⟩ := h
  obtain ⟨y0, y1, n, hx, _, h0, h1⟩ := trod_struct2 Tryz.underlying47 hf
  have g0 : DataW.trod enc Tryz.prog W 0 (fun _ => true) true n 44 [c0, c1, c2, c3, c4] = some y0 := h0
  have g1 : DataW.trod enc Tryz.prog W 0 (fun _ => true) true n 45 [c5] = some y1 := h1
  simp only [Prod.mk.injEq] at hx
  obtain ⟨u, hn, hfit, hR, _⟩ := open_val n _ _ g0 (fun b off hp => hz b off (by rw [hx.2]; exact List.mem_append.2 (.inl hp)))
  obtain ⟨sa, sc, l, rfl, hC, hm, _, hK⟩ := open_pairs Tryz.underlying45 Tryz.underlying26 (by kernel_rfl) cellsSig Tryz.underlying9 Tryz.underlying9 g1
  obtain ⟨an, cn, ai, ci, e, _⟩ := hR.parts
  have hR2 := hR
  rw [e] at hR2
  simp only [Value.agg.injEq, Array.mk.injEq, List.cons.injEq, and_true] at e
  obtain ⟨rfl, rfl, rfl, rfl, rfl⟩ := e
  exact ⟨u, an, ai, sa, cn, ci, sc, l, rfl, hn, hfit, hR2, hK, by unfold maxLen at hm; omega, hC⟩
set_option maxRecDepth 100000 in
theorem arg_sigs {v : Value} {d : DataW H} {p : List MemPlace} (hv : Value.okWide Tryz.prog W .any base 45 v) (h : DataW.Trod enc Tryz.prog W 0 (fun _ => true) true 45 v d p) :
    ∃ (a : Option Addr) (cap : Nat) (l : List Key2), v = .slice a l.length cap ∧ l.length ≤ 9223372036854775807 ∧ KeysAt W 0 W.heap.size a l ∧ ∀ k ∈ l, k.1.size ≤ 9223372036854775807 ∧ k.2.size ≤ 9223372036854775807 := by
  obtain ⟨a, n, c, rfl⟩ := okWide_slice Tryz.underlying45 hv
  obtain ⟨fuel, hf⟩ := h
  obtain ⟨a', cap, l, e, _, hm, hz, hK⟩ := open_pairs (c := .slice a n c) Tryz.underlying45 Tryz.underlying26 (by kernel_rfl) cellsSig Tryz.underlying9 Tryz.underlying9 (by simpa [Value.cells] using hf)
  exact ⟨a', cap, l, e, by unfold maxLen at hm; omega, hK, fun k hk => by have := hz k hk; unfold maxLen at this; omega⟩
set_option maxRecDepth 100000 in
theorem arg_strs {v : Value} {d : DataW H} {p : List MemPlace} (hv : Value.okWide Tryz.prog W .any base 41 v) (h : DataW.Trod enc Tryz.prog W 0 (fun _ => true) true 41 v d p) :
    ∃ (a : Option Addr) (cap : Nat) (l : List ByteArray), v = .slice a l.length cap ∧ l.length ≤ 9223372036854775807 ∧ StrsAt W 0 W.heap.size a l := by
  obtain ⟨a, n, c, rfl⟩ := okWide_slice Tryz.underlying41 hv
  obtain ⟨fuel, hf⟩ := h
  obtain ⟨a', cap, l, e, _, hm, _, hK⟩ := open_names (c := .slice a n c) Tryz.underlying41 Tryz.underlying9 cellsStrV (by simpa [Value.cells] using hf)
  exact ⟨a', cap, l, e, by unfold maxLen at hm; omega, hK⟩
end

theorem i64_wf {n : Int} (h : (Lit.int .i64 n).wf = true) : -9223372036854775808 ≤ n ∧ n ≤ 9223372036854775807 := by
  unfold Lit.wf at h
  rw [Bool.and_eq_true, decide_eq_true_eq, decide_eq_true_eq] at h
  exact h

end Go.Proofs.YtaekmmnpdbmoeaaGreatDoor

namespace Go.Proofs.YtaekmmnpdbmoeaaGreatDoor
open Go.RowKit

theorem isHex_char (n : Nat) (h : n < 16) : isHex (hexChar n) = true := by
  have : ∀ m : Fin 16, isHex (hexChar m.val) = true := by decide
  exact this ⟨n, h⟩
theorem allHex_enc : ∀ l : List UInt8, allHex (hexEnc l) = true
  | [] => rfl
  | c :: r => by
    have h := allHex_enc r
    have hc : c.toNat < 256 := c.toNat_lt
    unfold allHex at h ⊢
    simp only [hexEnc, List.all_cons, Bool.and_eq_true]
    exact ⟨isHex_char _ (by omega), isHex_char _ (by omega), h⟩
theorem allHex_sha (l : List UInt8) : allHex (shaHex l) = true := allHex_enc _


end Go.Proofs.YtaekmmnpdbmoeaaGreatDoor

namespace Go.Proofs.YtaekmmnpdbmoeaaGreatDoor
open Go.RowKit

/-- The bytes that digits denote. -/
def hexDec : List UInt8 → List UInt8
  | a :: b :: r => UInt8.ofNat (16 * (hexN a).toNat + (hexN b).toNat) :: hexDec r
  | _ => []
theorem hexDec_length : ∀ l : List UInt8, (hexDec l).length = l.length / 2
  | [] => rfl
  | [_] => by simp [hexDec]
  | a :: b :: r => by simp only [hexDec, List.length_cons, hexDec_length r]; omega
theorem hexDec_snoc (l : List UInt8) (k : Nat) (h : 2 * k + 1 < l.length) : hexDec (l.take (2 * k + 2)) = hexDec (l.take (2 * k)) ++ [UInt8.ofNat (16 * (hexN l[2 * k]).toNat + (hexN l[2 * k + 1]).toNat)] := by
  induction k generalizing l with
  | zero =>
    match l, h with
    | a :: b :: r, _ => simp [hexDec]
  | succ k ih =>
    match l, h with
    | a :: b :: r, h =>
      have hr : 2 * k + 1 < r.length := by simp at h; omega
      have hr0 : 2 * k < r.length := by omega
      have := ih r hr
      show UInt8.ofNat (16 * (hexN a).toNat + (hexN b).toNat) :: hexDec (List.take (2 * k + 2) r) = UInt8.ofNat (16 * (hexN a).toNat + (hexN b).toNat) :: (hexDec (List.take (2 * k) r) ++ [UInt8.ofNat (16 * (hexN r[2 * k]).toNat + (hexN r[2 * k + 1]).toNat)])
      rw [this]

/-- The block of a key. -/
def macBlk (k : List UInt8) : List UInt8 := (if 64 < k.length then shaSum k else k) ++ List.replicate (64 - (if 64 < k.length then shaSum k else k).length) 0
theorem macBlk_length (k : List UInt8) : (macBlk k).length = 64 := by
  unfold macBlk
  rw [List.length_append, List.length_replicate]
  split
  · rw [shaSum_length]
  · omega
def macX (x : UInt8) (l : List UInt8) : List UInt8 := l.map (· ^^^ x)
/-- HMAC. -/
def macL (k s : List UInt8) : List UInt8 := shaSum (macX 0x5c (macBlk k) ++ shaSum (macX 0x36 (macBlk k) ++ s))
theorem macL_length (k s : List UInt8) : (macL k s).length = 32 := by unfold macL; exact shaSum_length _
/-- The digits of the HMAC by a key's digits. -/
def macHex (p s : List UInt8) : List UInt8 := hexEnc (macL (hexDec p) s)

def wantL : List UInt8 := [119, 104, 97, 116, 32, 100, 111, 32, 121, 97, 32, 119, 97, 110, 116, 32, 102, 111, 114, 32, 110, 111, 116, 104, 105, 110, 103, 63]
def jefeL : List UInt8 := [52, 97, 54, 53, 54, 54, 54, 53]
set_option maxRecDepth 100000 in
theorem mac_jefe : macHex jefeL wantL = [53, 98, 100, 99, 99, 49, 52, 54, 98, 102, 54, 48, 55, 53, 52, 101, 54, 97, 48, 52, 50, 52, 50, 54, 48, 56, 57, 53, 55, 53, 99, 55, 53, 97, 48, 48, 51, 102, 48, 56, 57, 100, 50, 55, 51, 57, 56, 51, 57, 100, 101, 99, 53, 56, 98, 57, 54, 52, 101, 99, 51, 56, 52, 51] := by decide +kernel

/-- Digits stand for one text each. -/
theorem hexN_lt (c : UInt8) : 0 ≤ hexN c ∧ hexN c < 16 := by unfold hexN; split <;> (try split) <;> omega
theorem hexChar_hexN {c : UInt8} (h : isHex c = true) : hexChar (hexN c).toNat = c := by
  unfold isHex at h
  rw [decide_eq_true_eq] at h
  unfold hexN
  rcases h with h | h
  · rw [if_pos h]
    unfold hexChar
    rw [if_pos (by omega)]
    have e : 48 + ((c.toNat : Int) - 48).toNat = c.toNat := by omega
    rw [e]; simp
  · rw [if_neg (by omega), if_pos h]
    unfold hexChar
    rw [if_neg (by omega)]
    have e : 87 + ((c.toNat : Int) - 97 + 10).toNat = c.toNat := by omega
    rw [e]; simp

end Go.Proofs.YtaekmmnpdbmoeaaGreatDoor
