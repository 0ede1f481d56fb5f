/- The contracts of sha.New and (*sha.Hash).Write. -/
import Derived.Test.YtcahpjejpimdhaaGreatDoorSha
import Derived.Test.YtcahpjejpimdhaaGreatDoorLaws
namespace Go.Proofs.YtcahpjejpimdhaaGreatDoor
open Go.RowKit

/-- A Hash of what has been consumed: m bytes of l; its size cell says N. -/
def HashIn (w : World) (b T : Nat) (l : List UInt8) (m : Nat) (N : Int) : Prop :=
  ∃ p : Nat → Int, w.rowIs b T 74 (hashF true (shaSt l (m / 64)) p N) ∧ (∀ j, j < m % 64 → p j = byteI l (64 * (m / 64) + j)) ∧ ∀ j, j < 64 → 0 ≤ p j ∧ p j ≤ 255
def HashAt (w : World) (b T : Nat) (l : List UInt8) : Prop := HashIn w b T l l.length l.length

theorem sizeU8 (w : World) : (Go.sizeOf 5).run Tryz.prog w = .ok 1 w := by kernel_rfl
theorem sizeHash (w : World) : (Go.sizeOf 150).run Tryz.prog w = .ok 74 w := by kernel_rfl

/-- What a copy of n bytes into the part does to a Hash. -/
theorem hash_copied {w' : World} {b T : Nat} {l : List UInt8} {m n : Nat} {N : Int} {p : Nat → Int} {r : ByteArray}
    (hu : m % 64 + n ≤ 64) (hr : r.data.toList = l.drop m) (_hn : n ≤ r.size)
    (hp : ∀ j, j < m % 64 → p j = byteI l (64 * (m / 64) + j)) (hpb : ∀ j, j < 64 → 0 ≤ p j ∧ p j ≤ 255)
    (h' : w'.rowIs b T 74 (fun j => if 9 + m % 64 ≤ j ∧ j < 9 + m % 64 + n then .int .u8 (sbyte r (j - (9 + m % 64))) else hashF true (shaSt l (m / 64)) p N j)) :
    ∃ q : Nat → Int, w'.rowIs b T 74 (hashF true (shaSt l (m / 64)) q N) ∧ (∀ j, j < m % 64 + n → q j = byteI l (64 * (m / 64) + j)) ∧ ∀ j, j < 64 → 0 ≤ q j ∧ q j ≤ 255 := by
  refine ⟨fun j => if m % 64 ≤ j ∧ j < m % 64 + n then byteI l (64 * (m / 64) + j) else p j, ?_, ?_, ?_⟩
  · refine h'.congr fun j hj => ?_
    by_cases e : 9 + m % 64 ≤ j ∧ j < 9 + m % 64 + n
    · rw [if_pos e]; unfold hashF; rw [if_neg (by omega), if_neg (by omega), if_pos (by omega)]; simp only []; rw [if_pos (by omega)]; unfold sbyte; rw [hr]
      congr 1; unfold byteI; rw [List.getD_eq_getElem?_getD, List.getElem?_drop, List.getD_eq_getElem?_getD]
      congr 4; omega
    · rw [if_neg e]; unfold hashF
      by_cases e0 : j = 0
      · simp only [if_pos e0]
      · by_cases e1 : j ≤ 8
        · simp only [if_neg e0, if_pos e1]
        · by_cases e2 : j ≤ 72
          · simp only [if_neg e0, if_neg e1, if_pos e2]; rw [if_neg (by omega)]
          · simp only [if_neg e0, if_neg e1, if_neg e2]
  · intro j hj
    by_cases e : m % 64 ≤ j ∧ j < m % 64 + n
    · simp only [if_pos e]
    · simp only [if_neg e]; exact hp j (by omega)
  · intro j hj
    by_cases e : m % 64 ≤ j ∧ j < m % 64 + n
    · simp only [if_pos e]; exact byteI_bd _ _
    · simp only [if_neg e]; exact hpb j hj

def strLen : Value → Nat | .string s => s.size | _ => 0

theorem hash_start {w : World} {b T : Nat} {l k : List UInt8} (h : HashAt w b T l) (N : Int) (hN : N = (l ++ k).length) :
    HashIn (w.setCell ⟨b, 73, none⟩ (.int .i64 N)) b T (l ++ k) l.length (l ++ k).length := by
  obtain ⟨p, hr, hp, hpb⟩ := h
  have hb : ∀ i, i < l.length → byteI (l ++ k) i = byteI l i := fun i hi => by unfold byteI; rw [List.getD_eq_getElem?_getD, List.getElem?_append_left hi, List.getD_eq_getElem?_getD]
  refine ⟨p, (hr.set 73 _).congr fun j hj => ?_, fun j hj => ?_, hpb⟩
  · have e : shaSt (l ++ k) (l.length / 64) = shaSt l (l.length / 64) := shaSt_congr _ fun i hi => hb i (by omega)
    rw [e]
    by_cases e : j = 73
    · subst e; rw [if_pos rfl]; unfold hashF; simp [hN]
    · rw [if_neg e]; unfold hashF
      by_cases e0 : j = 0
      · simp only [if_pos e0]
      · by_cases e1 : j ≤ 8
        · simp only [if_neg e0, if_pos e1]
        · simp only [if_neg e0, if_neg e1, if_pos (show j ≤ 72 by omega)]
  · rw [hp j hj, hb _ (by omega)]

theorem drop_extract {r : ByteArray} {L : List UInt8} {m n : Nat} (h : r.data.toList = L.drop m) : (r.extract n r.size).data.toList = L.drop (m + n) := by
  rw [ByteArray.data_extract, Array.toList_extract, List.extract_eq_take_drop, h, List.drop_drop]
  rw [List.take_of_length_le (by
    have : r.size = (L.drop m).length := by rw [← h, toList_length]
    rw [this, List.length_drop, List.length_drop]; omega)]

set_option maxRecDepth 100000 in
set_option maxHeartbeats 1000000 in
theorem shaWrite (b T : Nat) (l : List UInt8) (s : ByteArray) (w : World) (hh : HashAt w b T l) (hl : l.length + s.size ≤ 1099511627776)
    (hk : ∀ i, i < 64 → w.cell? ⟨3, i, none⟩ = some (.int .u32 (kay i))) (hg : 3 < w.heap.size) (hgb : 3 ≠ b) :
    Calls Tryz.prog 97 #[.pointer (some ⟨b, 0, none⟩), .string s] w fun e w' => e = .returned (.int .i64 0) ∧ HashAt w' b T (l ++ s.data.toList) ∧ Touch (· = b) w w' := by
  have HH := Lib.hid hh
  obtain ⟨p, hr, hp, hpb⟩ := hh
  have HK := Lib.hid hk; clear hk
  have c0 : w.cell? ⟨b, 0, none⟩ = some (.bool true) := hr.cell (by omega)
  have c1 : w.cell? ⟨b, 73, none⟩ = some (.int .i64 (l.length : Int)) := hr.cell (by omega)
  have f1 : w.frozen? ⟨b, 73, none⟩ = false := hr.frozen 73
  have hbz : b < w.heap.size := hr.lt
  clear hr hp hpb
  obtain ⟨L, hL⟩ : ∃ L, L = l ++ s.data.toList := ⟨_, rfl⟩
  have HL := Lib.hid hL
  have HLl : Hid (L.length = l.length + s.size) := by rw [hL, List.length_append, toList_length]; rfl
  clear hL
  go_enter Tryz.func97, Tryz.ntmps97
  go_wp2
  go_loopw [1, 5] (fun v1 v5 wr => ∃ (m u : Nat) (r : ByteArray), v1 = .string r ∧ v5 = .int .i64 u ∧ u = m % 64 ∧ m ≤ L.length ∧ r.data.toList = L.drop m ∧ HashIn wr b T L m L.length ∧ Touch (· = b) w wr) (fun v1 _ _ => strLen v1)
  case atStart =>
    refine ⟨l.length, l.length % 64, s, rfl, by go_num, rfl, by have := HLl.out; omega, by rw [HL.out]; simp, ?_, (Touch.refl (· = b) _).setCell (p := ⟨b, 73, none⟩) (.inl rfl) _⟩
    rw [HL.out]
    exact hash_start HH.out _ (by rw [List.length_append, toList_length]; omega)
  case round =>
    clear c0 c1 f1
    obtain ⟨m, u, r, rfl, rfl, hu, hm, hrd, ⟨p, hrow, hp, hpb⟩, htch⟩ := hrel
    have hrs : r.size = L.length - m := by rw [← toList_length, hrd, List.length_drop]
    by_cases hlt : 0 < r.size
    · obtain ⟨n, hn⟩ : ∃ n, n = Nat.min r.size (64 - u) := ⟨_, rfl⟩
      have hn1 : n ≤ r.size := hn ▸ Nat.min_le_left _ _
      have hn2 : n ≤ 64 - u := hn ▸ Nat.min_le_right _ _
      have hn3 : 0 < n := by rw [hn]; exact Nat.lt_min.2 ⟨hlt, by omega⟩
      have hu2 : u < 64 := by omega
      have HU := Lib.hid hu
      have HM := Lib.hid hm
      have hrs' : r.size ≤ 1099511627776 := by have := HLl.out; omega
      have HN := Lib.hid hn
      have HRS := Lib.hid hrs
      have HRD := Lib.hid hrd
      have HP := Lib.hid hp
      have HPB := Lib.hid hpb
      have HR := Lib.hid hrow
      have HT := Lib.hid htch
      clear hu hm hn hrs hrd hp hpb hrow htch
      have hsl := run_sliceAt_lo (P := Tryz.prog) Tryz.underlying148 sizeU8 b 9 u hu2
      go_wp2_with (with_reducible refine wpList_copy_str rfl (.tmp 42) (.tmp 43) 62 9 rfl 5 Tryz.underlying62 sizeU8 b (9 + u) (64 - u) (64 - u) r rfl rfl T 74 _ HR.out n HN.out (by omega) ?_)
      intro w1 hrow1 htch1
      clear hsl
      have HC : Hid (∃ q : Nat → Int, w1.rowIs b T 74 (hashF true (shaSt L (m / 64)) q L.length) ∧ (∀ j, j < m % 64 + n → q j = byteI L (64 * (m / 64) + j)) ∧ ∀ j, j < 64 → 0 ≤ q j ∧ q j ≤ 255) := by
        have h1 := hrow1.out
        rw [HU.out] at h1
        exact hash_copied (by have := HU.out; omega) HRD.out hn1 HP.out HPB.out h1
      have HT1 : Hid (Touch (· = b) w w1) := HT.out.trans htch1.out
      clear hrow1 htch1 HP HPB HR
      by_cases h64 : u + n = 64
      · have h64' : ((u : Int) + (n : Int) == 64) = true := by simp; omega
        have H64 := Lib.hid h64; clear h64
        go_wp2_with fail
        obtain ⟨q, q1, q2, q3⟩ := HC.out
        refine (shaMix b T _ q _ w1 q1 q3 (shaSt_ok _ _) (fun i hi => by rw [HT1.out.cell hg hgb]; exact HK.out i hi) (Nat.lt_of_lt_of_le hg HT1.out.size)).mono ?_
        rintro e w2 ⟨rfl, r1, r2⟩
        have HF : Hid (HashIn w2 b T L (m + n) L.length) := by
          have e1 := HU.out; have e2 := H64.out
          have d1 : (m + n) / 64 = m / 64 + 1 := by omega
          have d2 : (m + n) % 64 = 0 := by omega
          refine ⟨q, ?_, ?_, q3⟩
          · rw [d1]; show w2.rowIs b T 74 (hashF true (press (shaSt L (m / 64)) _) q _)
            rw [press_congr (fun j hj => (q2 j (by omega)).symm)]; exact r1
          · rw [d2]; intro j hj; omega
        have HT2 : Hid (Touch (· = b) w w2) := HT1.out.trans r2
        clear q1 q2 q3 r1 r2
        go_wp2
        go_roundw
        case rel => exact ⟨m + n, 0, _, rfl, rfl, by have := HU.out; have := H64.out; omega, by have := HRS.out; omega, drop_extract HRD.out, HF.out, HT2.out⟩
        case measure => simp [strLen]; omega
      · have h64' : ((u : Int) + (n : Int) == 64) = false := by simp; omega
        have H64 := Lib.hid h64; clear h64
        have HF : Hid (HashIn w1 b T L (m + n) L.length) := by
          obtain ⟨q, q1, q2, q3⟩ := HC.out
          have e1 := HU.out; have e2 := H64.out
          have d1 : (m + n) / 64 = m / 64 := by omega
          have d2 : (m + n) % 64 = m % 64 + n := by omega
          exact ⟨q, by rw [d1]; exact q1, by rw [d1, d2]; exact q2, q3⟩
        go_wp2
        go_roundw
        case rel => exact ⟨m + n, u + n, _, rfl, by go_num, by have := HU.out; have := H64.out; omega, by have := HRS.out; omega, drop_extract HRD.out, HF.out, HT1.out⟩
        case measure => simp [strLen]; omega
    · have HF : Hid (HashAt wr b T (l ++ s.data.toList)) := by
        rw [← HL.out]; unfold HashAt
        have : m = L.length := by omega
        rw [← this] at hrow ⊢
        exact ⟨p, hrow, by rw [this] at hp ⊢; exact hp, hpb⟩
      have HT := Lib.hid htch
      clear hrow hp hpb htch hrd
      go_wp2
      go_ret
      exact ⟨rfl, HF.out, HT.out⟩

end Go.Proofs.YtcahpjejpimdhaaGreatDoor
