/- The contracts of legateref04.Next, legateref04.Len, legateref08.Text. The contracts of legateref04.Len, legateref08.Text, legateref08.rise. The contracts of legateref08.rise, legateref08.Depth, legateref08.part, legateref08.May. -/
import Derived.Test.YtcahpjejpimdhaaGreatDoorZt218
import Derived.Test.YtcahpjejpimdhaaGreatDoorZt206
import Derived.Test.YtcahpjejpimdhaaGreatDoorZt213
import Derived.Test.YtcahpjejpimdhaaGreatDoorZt207
import Derived.Test.YtcahpjejpimdhaaGreatDoorZt214

namespace Go.Proofs.YtcahpjejpimdhaaGreatDoor
open Go.RowKit

/-- What legateref04.Next tells: how many bytes a rune has, or an error. -/
def NextPost (s : ByteArray) (pos : Nat) (w : World) (e : Ending) (w' : World) : Prop :=
  ∃ r sz er : Int, e = .returned (.tuple #[.int .i64 r, .int .i64 sz, .int .i64 er]) ∧ ((utfBad s pos = false ∧ er = 0 ∧ sz = ((Utf8.decode s pos).2 : Int)) ∨ (utfBad s pos = true ∧ er ≠ 0)) ∧ Below w.heap.size w w'

theorem ext_list (s : ByteArray) (pos n : Nat) : (s.extract pos (pos + n)).data.toList = (s.data.toList.drop pos).take n := by
  rw [ByteArray.data_extract, Array.toList_extract, List.extract_eq_take_drop]; congr 1; omega
theorem ext1 (s : ByteArray) (pos : Nat) (h : pos + 1 ≤ s.size) : (s.extract pos (pos + 1)).data.toList = [s.get! pos] := by
  have hl : s.data.toList.length = s.size := by simp
  rw [ext_list, drop_at _ _ (by omega), ← get_at s pos (by omega)]; rfl
theorem ext2 (s : ByteArray) (pos : Nat) (h : pos + 2 ≤ s.size) : (s.extract pos (pos + 2)).data.toList = [s.get! pos, s.get! (pos + 1)] := by
  have hl : s.data.toList.length = s.size := by simp
  rw [ext_list, drop_at _ _ (by omega), drop_at _ _ (by omega), ← get_at s pos (by omega), ← get_at s (pos + 1) (by omega)]; rfl
theorem ext3 (s : ByteArray) (pos : Nat) (h : pos + 3 ≤ s.size) : (s.extract pos (pos + 3)).data.toList = [s.get! pos, s.get! (pos + 1), s.get! (pos + 2)] := by
  have hl : s.data.toList.length = s.size := by simp
  rw [ext_list, drop_at _ _ (by omega), drop_at _ _ (by omega), drop_at _ _ (by omega), ← get_at s pos (by omega), ← get_at s (pos + 1) (by omega), ← get_at s (pos + 1 + 1) (by omega)]; rfl
theorem ext4 (s : ByteArray) (pos : Nat) (h : pos + 4 ≤ s.size) : (s.extract pos (pos + 4)).data.toList = [s.get! pos, s.get! (pos + 1), s.get! (pos + 2), s.get! (pos + 3)] := by
  have hl : s.data.toList.length = s.size := by simp
  rw [ext_list, drop_at _ _ (by omega), drop_at _ _ (by omega), drop_at _ _ (by omega), drop_at _ _ (by omega), ← get_at s pos (by omega), ← get_at s (pos + 1) (by omega), ← get_at s (pos + 1 + 1) (by omega), ← get_at s (pos + 1 + 1 + 1) (by omega)]; rfl

theorem at2 (s : ByteArray) (pos : Nat) (hb : 192 ≤ (s.get! pos).toNat ∧ (s.get! pos).toNat ≤ 223) :
    (utfBad s pos = false → pos + 2 ≤ s.size ∧ (Utf8.decode s pos).2 = 2 ∧ ∀ n, 1 ≤ n → n ≤ 2 → beginsB (s.extract pos (pos + n)).data.toList 2 = true) ∧ (pos + 2 ≤ s.size → beginsB (s.extract pos (pos + 2)).data.toList 2 = true → utfBad s pos = false) := by
  obtain ⟨u1, u2⟩ := utf2 s pos (by omega)
  obtain ⟨b1, b2⟩ := beg2 (s.get! pos) (s.get! (pos + 1)) (by omega)
  constructor
  · intro h
    obtain ⟨h1, h2⟩ := u1.1 h
    refine ⟨by omega, u2 h, fun n hn hn' => ?_⟩
    obtain rfl | rfl : n = 1 ∨ n = 2 := by omega
    · rw [ext1 s pos (by omega)]; exact b2 h2
    · rw [ext2 s pos (by omega)]; exact b1.2 h2
  · intro h h'
    rw [ext2 s pos h] at h'
    exact u1.2 ⟨by omega, b1.1 h'⟩
theorem at3 (s : ByteArray) (pos : Nat) (hb : 224 ≤ (s.get! pos).toNat ∧ (s.get! pos).toNat ≤ 239) :
    (utfBad s pos = false → pos + 3 ≤ s.size ∧ (Utf8.decode s pos).2 = 3 ∧ ∀ n, 1 ≤ n → n ≤ 3 → beginsB (s.extract pos (pos + n)).data.toList 3 = true) ∧ (pos + 3 ≤ s.size → beginsB (s.extract pos (pos + 3)).data.toList 3 = true → utfBad s pos = false) := by
  obtain ⟨u1, u2⟩ := utf3 s pos (by omega)
  obtain ⟨b1, b2⟩ := beg3 (s.get! pos) (s.get! (pos + 1)) (s.get! (pos + 2)) (by omega)
  constructor
  · intro h
    obtain ⟨h1, h2⟩ := u1.1 h
    refine ⟨by omega, u2 h, fun n hn hn' => ?_⟩
    obtain rfl | rfl | rfl : n = 1 ∨ n = 2 ∨ n = 3 := by omega
    · rw [ext1 s pos (by omega)]; exact (b2 h2).1
    · rw [ext2 s pos (by omega)]; exact (b2 h2).2
    · rw [ext3 s pos (by omega)]; exact b1.2 h2
  · intro h h'
    rw [ext3 s pos h] at h'
    exact u1.2 ⟨by omega, b1.1 h'⟩
theorem at4 (s : ByteArray) (pos : Nat) (hb : 240 ≤ (s.get! pos).toNat ∧ (s.get! pos).toNat ≤ 247) :
    (utfBad s pos = false → pos + 4 ≤ s.size ∧ (Utf8.decode s pos).2 = 4 ∧ ∀ n, 1 ≤ n → n ≤ 4 → beginsB (s.extract pos (pos + n)).data.toList 4 = true) ∧ (pos + 4 ≤ s.size → beginsB (s.extract pos (pos + 4)).data.toList 4 = true → utfBad s pos = false) := by
  obtain ⟨u1, u2⟩ := utf4 s pos (by omega)
  obtain ⟨b1, b2⟩ := beg4 (s.get! pos) (s.get! (pos + 1)) (s.get! (pos + 2)) (s.get! (pos + 3)) (by omega)
  constructor
  · intro h
    obtain ⟨h1, h2⟩ := u1.1 h
    refine ⟨by omega, u2 h, fun n hn hn' => ?_⟩
    obtain rfl | rfl | rfl | rfl : n = 1 ∨ n = 2 ∨ n = 3 ∨ n = 4 := by omega
    · rw [ext1 s pos (by omega)]; exact (b2 h2).1
    · rw [ext2 s pos (by omega)]; exact (b2 h2).2.1
    · rw [ext3 s pos (by omega)]; exact (b2 h2).2.2
    · rw [ext4 s pos (by omega)]; exact b1.2 h2
  · intro h h'
    rw [ext4 s pos h] at h'
    exact u1.2 ⟨by omega, b1.1 h'⟩

theorem get_byte (s : ByteArray) (k : Nat) (h : k < s.size) : s.get! k = s[k] := by
  have hl : k < s.data.toList.length := by simpa using h
  rw [get_at s k hl]; rfl
theorem ext_byte (s : ByteArray) (pos n : Nat) (h : pos + n ≤ s.size) (hn : 1 ≤ n) : byteI (s.extract pos (pos + n)).data.toList 0 = (s[pos].toNat : Int) := by
  have hl : s.data.toList.length = s.size := by simp
  rw [ext_list, drop_at _ _ (by omega), ← get_at s pos (by omega), get_byte s pos (by omega)]
  obtain ⟨m, rfl⟩ : ∃ m, n = m + 1 := ⟨n - 1, by omega⟩
  rfl
def rBd (k : Nat) (r : Int) : Prop := 0 ≤ r ∧ ((k = 0 ∧ r < 256) ∨ (k = 1 ∧ r < 16896) ∨ (k = 2 ∧ r < 1081600) ∨ (k = 3 ∧ r < 69222656))

set_option maxHeartbeats 1000000 in
set_option maxRecDepth 100000 in
theorem refNext2 (s : ByteArray) (pos : Nat) (w : World) (hs : s.size ≤ 4611686018427387904) (hp : pos < s.size) (h1 : 192 ≤ (s[pos].toNat : Int)) (h2 : (s[pos].toNat : Int) ≤ 223) :
    Calls Tryz.prog 166 #[.string s, .int .i64 pos] w (NextPost s pos w) := by
  have HAT := Lib.hid (at2 s pos (by rw [get_byte s pos hp]; omega))
  have hp1 : ¬ (pos : Int) < 0 := by omega
  have hp2 : (pos : Int) < (s.size : Int) := by omega
  have hp3 : ((pos : Int) == (s.size : Int)) = false := by simp; omega
  have hp4 : decide ((pos : Int) < 0) = false := decide_eq_false (by omega)
  have HBY := Lib.hid (fun n => ext_byte s pos n)
  obtain ⟨c0, hc0⟩ : ∃ c0, c0 = (s[pos].toNat : Int) := ⟨_, rfl⟩
  have HC0 := Lib.hid hc0
  have hc1 : (s[pos].toNat : Int) = c0 := hc0.symm
  rw [← hc0] at h1 h2
  clear hc0
  have g1 : decide (c0 < 192) = false := by simp; omega
  go_enter Tryz.func166, Tryz.ntmps166
  go_wp2
  go_loopw [9] (fun i wr => ∃ k : Nat, k ≤ 2 ∧ i = .int .i64 ((k : Int) + 1) ∧ (1 ≤ k → pos + k ≤ s.size ∧ beginsB (s.extract pos (pos + k)).data.toList 2 = true) ∧ Below w.heap.size w wr) (fun i _ => 2 + 1 - (intOf i).toNat)
  case atStart => exact ⟨0, by omega, rfl, fun h => by omega, Below.refl _ _⟩
  case round =>
    obtain ⟨k, hk, rfl, hin, hbel⟩ := hrel
    have HIN := Lib.hid hin
    have HB := Lib.hid hbel
    clear hin hbel
    by_cases hlt : k < 2
    · have hlt1 : (k : Int) + 1 ≤ 2 := by omega
      by_cases hsz : pos + (k + 1) ≤ s.size
      · have hsz1 : ¬ (s.size : Int) < (pos : Int) + ((k : Int) + 1) := by omega
        have hsz2 : (pos : Int) + ((k : Int) + 1) ≤ (s.size : Int) := by omega
        have t1 : ((pos : Int) + ((k : Int) + 1)).toNat = pos + (k + 1) := by omega
        have HBG := Lib.hid (refBegins2 (s.extract pos (pos + (k + 1))) wr (by rw [ByteArray.size_extract]; omega) (by rw [HBY.out (k + 1) hsz (by omega), ← HC0.out]; exact h1) (by rw [HBY.out (k + 1) hsz (by omega), ← HC0.out]; exact h2))
        cases hbg : beginsB (s.extract pos (pos + (k + 1))).data.toList 2
        · rw [hbg] at HBG
          have HBAD := Lib.hid (show utfBad s pos = true by
            cases h : utfBad s pos
            · have := (HAT.out.1 h).2.2 (k + 1) (by omega) (by omega)
              rw [hbg] at this; cases this
            · rfl)
          clear hbg
          go_wp2_with fail
          refine HBG.out.mono ?_
          rintro e w1 ⟨rfl, hb1⟩
          have HB1 := Lib.hid (HB.out.trans (hb1.mono HB.out.size))
          clear hb1
          go_wp2
          go_ret3
          exact ⟨0, 0, 12, rfl, .inr ⟨HBAD.out, by decide⟩, HB1.out⟩
        · rw [hbg] at HBG
          have HBT := Lib.hid hbg
          clear hbg
          go_wp2_with fail
          refine HBG.out.mono ?_
          rintro e w1 ⟨rfl, hb1⟩
          have HB1 := Lib.hid (HB.out.trans (hb1.mono HB.out.size))
          clear hb1
          go_wp2
          go_roundw
          case rel => exact ⟨k + 1, by omega, by go_num, fun _ => ⟨hsz, HBT.out⟩, HB1.out⟩
          case measure => simp [intOf]; omega
      · have hsz1 : (s.size : Int) < (pos : Int) + ((k : Int) + 1) := by omega
        have HBAD := Lib.hid (show utfBad s pos = true by
          cases h : utfBad s pos
          · have := (HAT.out.1 h).1; omega
          · rfl)
        go_wp2
        go_ret3
        exact ⟨0, 0, 4, rfl, .inr ⟨HBAD.out, by decide⟩, HB.out⟩
    · have hk2 : k = 2 := by omega
      have HOK := Lib.hid (show utfBad s pos = false by
        obtain ⟨q1, q2⟩ := HIN.out (by omega)
        rw [hk2] at q1 q2
        exact HAT.out.2 q1 q2)
      have hfit : pos + 2 ≤ s.size := by have := (HIN.out (by omega)).1; omega
      have HDE := Lib.hid (HAT.out.1 HOK.out).2.1
      have hlt1 : ¬ (k : Int) + 1 ≤ 2 := by omega
      clear hk2
      obtain ⟨wo, rfl⟩ : ∃ wo : World, wo = wr := ⟨_, rfl⟩
      go_wp2
      go_loopw [10, 11] (fun r i wr => ∃ (j : Nat) (r' : Int), j + 1 ≤ 2 ∧ i = .int .i64 ((j : Int) + 1) ∧ r = .int .i64 r' ∧ rBd j r' ∧ Below w.heap.size w wr) (fun _ i _ => 2 - (intOf i).toNat)
      case atStart => exact ⟨0, _, by omega, rfl, rfl, by unfold rBd; omega, HB.out.alloc HB.out.size _⟩
      case round =>
        obtain ⟨j, r', hj, rfl, rfl, hrb, hbel⟩ := hrel
        have HB2 := Lib.hid hbel
        clear hbel
        have hr0 : 0 ≤ r' := hrb.1
        have hr1 : r' < 69222656 := by unfold rBd at hrb; omega
        by_cases hjl : j + 1 < 2
        · have hjl1 : (j : Int) + 1 < 2 := by omega
          have hx1 : (pos : Int) + ((j : Int) + 1) < (s.size : Int) := by omega
          have t1 : ((pos : Int) + ((j : Int) + 1)).toNat = pos + (j + 1) := by omega
          have hx2 : pos + (j + 1) < s.size := by omega
          obtain ⟨c, hc⟩ : ∃ c : Int, (s[pos + (j + 1)].toNat : Int) = c := ⟨_, rfl⟩
          have hc2 : 0 ≤ c ∧ c ≤ 255 := by have := s[pos + (j + 1)].toNat_lt; omega
          obtain ⟨d, hd⟩ : ∃ d : Int, IntKind.u8.wrap (c - 128) = d := ⟨_, rfl⟩
          have hd2 : 0 ≤ d ∧ d ≤ 255 := by rw [← hd, IntKind.wrap_u8]; omega
          go_wp2
          go_roundw
          case rel => exact ⟨j + 1, _, by omega, by go_num, rfl, by unfold rBd at hrb ⊢; omega, HB2.out⟩
          case measure => simp [intOf]; omega
        · have hjl1 : ¬ (j : Int) + 1 < 2 := by omega
          go_wp2
          go_ret3
          exact ⟨_, 2, 0, rfl, .inl ⟨HOK.out, rfl, by rw [HDE.out]; rfl⟩, HB2.out⟩

set_option maxHeartbeats 1000000 in
set_option maxRecDepth 100000 in
theorem refNext3 (s : ByteArray) (pos : Nat) (w : World) (hs : s.size ≤ 4611686018427387904) (hp : pos < s.size) (h1 : 224 ≤ (s[pos].toNat : Int)) (h2 : (s[pos].toNat : Int) ≤ 239) :
    Calls Tryz.prog 166 #[.string s, .int .i64 pos] w (NextPost s pos w) := by
  have HAT := Lib.hid (at3 s pos (by rw [get_byte s pos hp]; omega))
  have hp1 : ¬ (pos : Int) < 0 := by omega
  have hp2 : (pos : Int) < (s.size : Int) := by omega
  have hp3 : ((pos : Int) == (s.size : Int)) = false := by simp; omega
  have hp4 : decide ((pos : Int) < 0) = false := decide_eq_false (by omega)
  have HBY := Lib.hid (fun n => ext_byte s pos n)
  obtain ⟨c0, hc0⟩ : ∃ c0, c0 = (s[pos].toNat : Int) := ⟨_, rfl⟩
  have HC0 := Lib.hid hc0
  have hc1 : (s[pos].toNat : Int) = c0 := hc0.symm
  rw [← hc0] at h1 h2
  clear hc0
  have g1 : decide (c0 < 192) = false := by simp; omega
  go_enter Tryz.func166, Tryz.ntmps166
  go_wp2
  go_loopw [9] (fun i wr => ∃ k : Nat, k ≤ 3 ∧ i = .int .i64 ((k : Int) + 1) ∧ (1 ≤ k → pos + k ≤ s.size ∧ beginsB (s.extract pos (pos + k)).data.toList 3 = true) ∧ Below w.heap.size w wr) (fun i _ => 3 + 1 - (intOf i).toNat)
  case atStart => exact ⟨0, by omega, rfl, fun h => by omega, Below.refl _ _⟩
  case round =>
    obtain ⟨k, hk, rfl, hin, hbel⟩ := hrel
    have HIN := Lib.hid hin
    have HB := Lib.hid hbel
    clear hin hbel
    by_cases hlt : k < 3
    · have hlt1 : (k : Int) + 1 ≤ 3 := by omega
      by_cases hsz : pos + (k + 1) ≤ s.size
      · have hsz1 : ¬ (s.size : Int) < (pos : Int) + ((k : Int) + 1) := by omega
        have hsz2 : (pos : Int) + ((k : Int) + 1) ≤ (s.size : Int) := by omega
        have t1 : ((pos : Int) + ((k : Int) + 1)).toNat = pos + (k + 1) := by omega
        have HBG := Lib.hid (refBegins3 (s.extract pos (pos + (k + 1))) wr (by rw [ByteArray.size_extract]; omega) (by rw [HBY.out (k + 1) hsz (by omega), ← HC0.out]; exact h1) (by rw [HBY.out (k + 1) hsz (by omega), ← HC0.out]; exact h2))
        cases hbg : beginsB (s.extract pos (pos + (k + 1))).data.toList 3
        · rw [hbg] at HBG
          have HBAD := Lib.hid (show utfBad s pos = true by
            cases h : utfBad s pos
            · have := (HAT.out.1 h).2.2 (k + 1) (by omega) (by omega)
              rw [hbg] at this; cases this
            · rfl)
          clear hbg
          go_wp2_with fail
          refine HBG.out.mono ?_
          rintro e w1 ⟨rfl, hb1⟩
          have HB1 := Lib.hid (HB.out.trans (hb1.mono HB.out.size))
          clear hb1
          go_wp2
          go_ret3
          exact ⟨0, 0, 12, rfl, .inr ⟨HBAD.out, by decide⟩, HB1.out⟩
        · rw [hbg] at HBG
          have HBT := Lib.hid hbg
          clear hbg
          go_wp2_with fail
          refine HBG.out.mono ?_
          rintro e w1 ⟨rfl, hb1⟩
          have HB1 := Lib.hid (HB.out.trans (hb1.mono HB.out.size))
          clear hb1
          go_wp2
          go_roundw
          case rel => exact ⟨k + 1, by omega, by go_num, fun _ => ⟨hsz, HBT.out⟩, HB1.out⟩
          case measure => simp [intOf]; omega
      · have hsz1 : (s.size : Int) < (pos : Int) + ((k : Int) + 1) := by omega
        have HBAD := Lib.hid (show utfBad s pos = true by
          cases h : utfBad s pos
          · have := (HAT.out.1 h).1; omega
          · rfl)
        go_wp2
        go_ret3
        exact ⟨0, 0, 4, rfl, .inr ⟨HBAD.out, by decide⟩, HB.out⟩
    · have hk2 : k = 3 := by omega
      have HOK := Lib.hid (show utfBad s pos = false by
        obtain ⟨q1, q2⟩ := HIN.out (by omega)
        rw [hk2] at q1 q2
        exact HAT.out.2 q1 q2)
      have hfit : pos + 3 ≤ s.size := by have := (HIN.out (by omega)).1; omega
      have HDE := Lib.hid (HAT.out.1 HOK.out).2.1
      have hlt1 : ¬ (k : Int) + 1 ≤ 3 := by omega
      clear hk2
      obtain ⟨wo, rfl⟩ : ∃ wo : World, wo = wr := ⟨_, rfl⟩
      go_wp2
      go_loopw [10, 11] (fun r i wr => ∃ (j : Nat) (r' : Int), j + 1 ≤ 3 ∧ i = .int .i64 ((j : Int) + 1) ∧ r = .int .i64 r' ∧ rBd j r' ∧ Below w.heap.size w wr) (fun _ i _ => 3 - (intOf i).toNat)
      case atStart => exact ⟨0, _, by omega, rfl, rfl, by unfold rBd; omega, HB.out.alloc HB.out.size _⟩
      case round =>
        obtain ⟨j, r', hj, rfl, rfl, hrb, hbel⟩ := hrel
        have HB2 := Lib.hid hbel
        clear hbel
        have hr0 : 0 ≤ r' := hrb.1
        have hr1 : r' < 69222656 := by unfold rBd at hrb; omega
        by_cases hjl : j + 1 < 3
        · have hjl1 : (j : Int) + 1 < 3 := by omega
          have hx1 : (pos : Int) + ((j : Int) + 1) < (s.size : Int) := by omega
          have t1 : ((pos : Int) + ((j : Int) + 1)).toNat = pos + (j + 1) := by omega
          have hx2 : pos + (j + 1) < s.size := by omega
          obtain ⟨c, hc⟩ : ∃ c : Int, (s[pos + (j + 1)].toNat : Int) = c := ⟨_, rfl⟩
          have hc2 : 0 ≤ c ∧ c ≤ 255 := by have := s[pos + (j + 1)].toNat_lt; omega
          obtain ⟨d, hd⟩ : ∃ d : Int, IntKind.u8.wrap (c - 128) = d := ⟨_, rfl⟩
          have hd2 : 0 ≤ d ∧ d ≤ 255 := by rw [← hd, IntKind.wrap_u8]; omega
          go_wp2
          go_roundw
          case rel => exact ⟨j + 1, _, by omega, by go_num, rfl, by unfold rBd at hrb ⊢; omega, HB2.out⟩
          case measure => simp [intOf]; omega
        · have hjl1 : ¬ (j : Int) + 1 < 3 := by omega
          go_wp2
          go_ret3
          exact ⟨_, 3, 0, rfl, .inl ⟨HOK.out, rfl, by rw [HDE.out]; rfl⟩, HB2.out⟩

set_option maxHeartbeats 1000000 in
set_option maxRecDepth 100000 in
theorem refNext4 (s : ByteArray) (pos : Nat) (w : World) (hs : s.size ≤ 4611686018427387904) (hp : pos < s.size) (h1 : 240 ≤ (s[pos].toNat : Int)) (h2 : (s[pos].toNat : Int) ≤ 247) :
    Calls Tryz.prog 166 #[.string s, .int .i64 pos] w (NextPost s pos w) := by
  have HAT := Lib.hid (at4 s pos (by rw [get_byte s pos hp]; omega))
  have hp1 : ¬ (pos : Int) < 0 := by omega
  have hp2 : (pos : Int) < (s.size : Int) := by omega
  have hp3 : ((pos : Int) == (s.size : Int)) = false := by simp; omega
  have hp4 : decide ((pos : Int) < 0) = false := decide_eq_false (by omega)
  have HBY := Lib.hid (fun n => ext_byte s pos n)
  obtain ⟨c0, hc0⟩ : ∃ c0, c0 = (s[pos].toNat : Int) := ⟨_, rfl⟩
  have HC0 := Lib.hid hc0
  have hc1 : (s[pos].toNat : Int) = c0 := hc0.symm
  rw [← hc0] at h1 h2
  clear hc0
  have g1 : decide (c0 < 192) = false := by simp; omega
  go_enter Tryz.func166, Tryz.ntmps166
  go_wp2
  go_loopw [9] (fun i wr => ∃ k : Nat, k ≤ 4 ∧ i = .int .i64 ((k : Int) + 1) ∧ (1 ≤ k → pos + k ≤ s.size ∧ beginsB (s.extract pos (pos + k)).data.toList 4 = true) ∧ Below w.heap.size w wr) (fun i _ => 4 + 1 - (intOf i).toNat)
  case atStart => exact ⟨0, by omega, rfl, fun h => by omega, Below.refl _ _⟩
  case round =>
    obtain ⟨k, hk, rfl, hin, hbel⟩ := hrel
    have HIN := Lib.hid hin
    have HB := Lib.hid hbel
    clear hin hbel
    by_cases hlt : k < 4
    · have hlt1 : (k : Int) + 1 ≤ 4 := by omega
      by_cases hsz : pos + (k + 1) ≤ s.size
      · have hsz1 : ¬ (s.size : Int) < (pos : Int) + ((k : Int) + 1) := by omega
        have hsz2 : (pos : Int) + ((k : Int) + 1) ≤ (s.size : Int) := by omega
        have t1 : ((pos : Int) + ((k : Int) + 1)).toNat = pos + (k + 1) := by omega
        have HBG := Lib.hid (refBegins4 (s.extract pos (pos + (k + 1))) wr (by rw [ByteArray.size_extract]; omega) (by rw [HBY.out (k + 1) hsz (by omega), ← HC0.out]; exact h1) (by rw [HBY.out (k + 1) hsz (by omega), ← HC0.out]; exact h2))
        cases hbg : beginsB (s.extract pos (pos + (k + 1))).data.toList 4
        · rw [hbg] at HBG
          have HBAD := Lib.hid (show utfBad s pos = true by
            cases h : utfBad s pos
            · have := (HAT.out.1 h).2.2 (k + 1) (by omega) (by omega)
              rw [hbg] at this; cases this
            · rfl)
          clear hbg
          go_wp2_with fail
          refine HBG.out.mono ?_
          rintro e w1 ⟨rfl, hb1⟩
          have HB1 := Lib.hid (HB.out.trans (hb1.mono HB.out.size))
          clear hb1
          go_wp2
          go_ret3
          exact ⟨0, 0, 12, rfl, .inr ⟨HBAD.out, by decide⟩, HB1.out⟩
        · rw [hbg] at HBG
          have HBT := Lib.hid hbg
          clear hbg
          go_wp2_with fail
          refine HBG.out.mono ?_
          rintro e w1 ⟨rfl, hb1⟩
          have HB1 := Lib.hid (HB.out.trans (hb1.mono HB.out.size))
          clear hb1
          go_wp2
          go_roundw
          case rel => exact ⟨k + 1, by omega, by go_num, fun _ => ⟨hsz, HBT.out⟩, HB1.out⟩
          case measure => simp [intOf]; omega
      · have hsz1 : (s.size : Int) < (pos : Int) + ((k : Int) + 1) := by omega
        have HBAD := Lib.hid (show utfBad s pos = true by
          cases h : utfBad s pos
          · have := (HAT.out.1 h).1; omega
          · rfl)
        go_wp2
        go_ret3
        exact ⟨0, 0, 4, rfl, .inr ⟨HBAD.out, by decide⟩, HB.out⟩
    · have hk2 : k = 4 := by omega
      have HOK := Lib.hid (show utfBad s pos = false by
        obtain ⟨q1, q2⟩ := HIN.out (by omega)
        rw [hk2] at q1 q2
        exact HAT.out.2 q1 q2)
      have hfit : pos + 4 ≤ s.size := by have := (HIN.out (by omega)).1; omega
      have HDE := Lib.hid (HAT.out.1 HOK.out).2.1
      have hlt1 : ¬ (k : Int) + 1 ≤ 4 := by omega
      clear hk2
      obtain ⟨wo, rfl⟩ : ∃ wo : World, wo = wr := ⟨_, rfl⟩
      go_wp2
      go_loopw [10, 11] (fun r i wr => ∃ (j : Nat) (r' : Int), j + 1 ≤ 4 ∧ i = .int .i64 ((j : Int) + 1) ∧ r = .int .i64 r' ∧ rBd j r' ∧ Below w.heap.size w wr) (fun _ i _ => 4 - (intOf i).toNat)
      case atStart => exact ⟨0, _, by omega, rfl, rfl, by unfold rBd; omega, HB.out.alloc HB.out.size _⟩
      case round =>
        obtain ⟨j, r', hj, rfl, rfl, hrb, hbel⟩ := hrel
        have HB2 := Lib.hid hbel
        clear hbel
        have hr0 : 0 ≤ r' := hrb.1
        have hr1 : r' < 69222656 := by unfold rBd at hrb; omega
        by_cases hjl : j + 1 < 4
        · have hjl1 : (j : Int) + 1 < 4 := by omega
          have hx1 : (pos : Int) + ((j : Int) + 1) < (s.size : Int) := by omega
          have t1 : ((pos : Int) + ((j : Int) + 1)).toNat = pos + (j + 1) := by omega
          have hx2 : pos + (j + 1) < s.size := by omega
          obtain ⟨c, hc⟩ : ∃ c : Int, (s[pos + (j + 1)].toNat : Int) = c := ⟨_, rfl⟩
          have hc2 : 0 ≤ c ∧ c ≤ 255 := by have := s[pos + (j + 1)].toNat_lt; omega
          obtain ⟨d, hd⟩ : ∃ d : Int, IntKind.u8.wrap (c - 128) = d := ⟨_, rfl⟩
          have hd2 : 0 ≤ d ∧ d ≤ 255 := by rw [← hd, IntKind.wrap_u8]; omega
          go_wp2
          go_roundw
          case rel => exact ⟨j + 1, _, by omega, by go_num, rfl, by unfold rBd at hrb ⊢; omega, HB2.out⟩
          case measure => simp [intOf]; omega
        · have hjl1 : ¬ (j : Int) + 1 < 4 := by omega
          go_wp2
          go_ret3
          exact ⟨_, 4, 0, rfl, .inl ⟨HOK.out, rfl, by rw [HDE.out]; rfl⟩, HB2.out⟩

set_option maxHeartbeats 400000 in
theorem refNext (s : ByteArray) (pos : Nat) (w : World) (hs : s.size ≤ 4611686018427387904) (hp : pos < s.size) :
    Calls Tryz.prog 166 #[.string s, .int .i64 pos] w (NextPost s pos w) := by
  have hlt := s[pos].toNat_lt
  have HG := Lib.hid (get_byte s pos hp)
  by_cases q0 : (s[pos].toNat : Int) < 128
  · have HU := Lib.hid (utf1 s pos (by rw [HG.out]; omega))
    have hp1 : ¬ (pos : Int) < 0 := by omega
    have hp2 : (pos : Int) < (s.size : Int) := by omega
    have hp3 : ((pos : Int) == (s.size : Int)) = false := by simp; omega
    have hp4 : decide ((pos : Int) < 0) = false := decide_eq_false (by omega)
    obtain ⟨c0, hc0⟩ : ∃ c0, (s[pos].toNat : Int) = c0 := ⟨_, rfl⟩
    rw [hc0] at q0
    have q1 : 0 ≤ c0 := by omega
    clear hlt
    go_enter Tryz.func166, Tryz.ntmps166
    go_wp2
    go_ret3
    exact ⟨_, 1, 0, rfl, .inl ⟨HU.out.1, rfl, by rw [HU.out.2]; rfl⟩, Below.refl _ _⟩
  by_cases q1 : (s[pos].toNat : Int) < 192 ∨ 247 < (s[pos].toNat : Int)
  · have HU := Lib.hid (utf0 s pos (by rw [HG.out]; omega))
    have hp1 : ¬ (pos : Int) < 0 := by omega
    have hp2 : (pos : Int) < (s.size : Int) := by omega
    have hp3 : ((pos : Int) == (s.size : Int)) = false := by simp; omega
    have hp4 : decide ((pos : Int) < 0) = false := decide_eq_false (by omega)
    obtain ⟨c0, hc0⟩ : ∃ c0, (s[pos].toNat : Int) = c0 := ⟨_, rfl⟩
    rw [hc0] at q0 q1
    clear hlt
    by_cases q2 : c0 < 192
    · go_enter Tryz.func166, Tryz.ntmps166
      go_wp2
      go_ret3
      exact ⟨0, 0, 12, rfl, .inr ⟨HU.out, by decide⟩, Below.refl _ _⟩
    · have q3 : 247 < c0 := by omega
      have q4 : decide (c0 < 192) = false := by simp; omega
      go_enter Tryz.func166, Tryz.ntmps166
      go_wp2
      go_ret3
      exact ⟨0, 0, 12, rfl, .inr ⟨HU.out, by decide⟩, Below.refl _ _⟩
  by_cases q2 : (s[pos].toNat : Int) ≤ 223
  · exact refNext2 s pos w hs hp (by omega) q2
  by_cases q3 : (s[pos].toNat : Int) ≤ 239
  · exact refNext3 s pos w hs hp (by omega) q3
  · exact refNext4 s pos w hs hp (by omega) (by omega)

end Go.Proofs.YtcahpjejpimdhaaGreatDoor

namespace Go.Proofs.YtcahpjejpimdhaaGreatDoor
open Go.RowKit

theorem decode_fit (s : ByteArray) (pos : Nat) (h : pos < s.size) : pos + (Utf8.decode s pos).2 ≤ s.size := by
  unfold Utf8.decode; dsimp only
  repeat' split
  all_goals (first | (show pos + 1 ≤ s.size; omega) | (rename_i g _; simp at g; show _ ≤ _; omega))

set_option maxHeartbeats 400000 in
theorem refLen (s : ByteArray) (w : World) (hs : s.size ≤ 4611686018427387904) :
    Calls Tryz.prog 147 #[.string s] w (LenPost s w) := by
  go_enter Tryz.func147, Tryz.ntmps147
  go_wp2
  go_loopw [4, 5, 6, 7, 8] (fun v4 v5 _ _ _ wr => ∃ (pos n f : Nat), n ≤ pos ∧ pos ≤ s.size ∧ v4 = .int .i64 n ∧ v5 = .int .i64 pos ∧ utfOk s f pos = utfV s ∧ s.size + 1 ≤ f + pos ∧ Below w.heap.size w wr) (fun _ v5 _ _ _ _ => s.size - (intOf v5).toNat)
  case atStart => exact ⟨0, 0, s.size + 1, by omega, by omega, rfl, rfl, rfl, by omega, Below.refl _ _⟩
  case round =>
    obtain ⟨pos, n, f, hn, hn', rfl, rfl, hok, hf, hbel⟩ := hrel
    have HB := Lib.hid hbel
    clear hbel
    by_cases hlt : pos < s.size
    · obtain ⟨f, rfl⟩ : ∃ g, f = g + 1 := ⟨f - 1, by omega⟩
      have hdp := decode_pos s pos
      have hdl := decode_fit s pos hlt
      have hun : utfOk s (f + 1) pos = if utfBad s pos then false else utfOk s f (pos + (Utf8.decode s pos).2) := by rw [utfOk, if_pos hlt]
      rw [hun] at hok
      have HOK := Lib.hid hok
      clear hok hun
      have HN := Lib.hid (refNext s pos wr hs hlt)
      go_wp2_with fail
      refine HN.out.mono ?_
      clear HN
      rintro e w1 ⟨r, sz, er, rfl, hcase, hb1⟩
      have HB1 := Lib.hid (HB.out.trans (hb1.mono HB.out.size))
      clear hb1
      rcases hcase with ⟨h1, rfl, rfl⟩ | ⟨h1, h2⟩
      · have HF := Lib.hid (show utfOk s f (pos + (Utf8.decode s pos).2) = utfV s by rw [← HOK.out, h1]; rfl)
        have hsz : pos + (Utf8.decode s pos).2 ≤ s.size := by omega
        clear h1
        generalize (Utf8.decode s pos).2 = d at *
        go_wp2
        go_roundw
        case rel => exact ⟨pos + d, n + 1, f, by omega, by omega, by go_num, by go_num, HF.out, by omega, HB1.out⟩
        case measure => simp [intOf]; omega
      · have HF := Lib.hid (show utfV s = false by rw [← HOK.out, h1]; rfl)
        have h3 : (er != 0) = true := by simpa using h2
        have h4 : (er == 0) = false := by simpa using h2
        clear h1 h2
        go_wp2
        go_ret2
        exact ⟨0, by rw [HF.out] <;> rfl, HB1.out⟩
    · have HF := Lib.hid (show utfV s = true by
        rw [← hok]; cases f with
        | zero => rfl
        | succ f => rw [utfOk, if_neg hlt])
      clear hok
      go_wp2
      go_ret2
      exact ⟨n, by rw [HF.out] <;> rfl, HB.out⟩

set_option maxHeartbeats 400000 in
theorem refText (s : ByteArray) (w : World) (hs : s.size ≤ 4611686018427387904) :
    Calls Tryz.prog 115 #[.string s] w fun e w' => e = .returned (.bool (txtOk s)) ∧ Below w.heap.size w w' := by
  have HL := Lib.hid (refLen s w hs)
  unfold LenPost at HL
  unfold txtOk
  cases hv : utfV s
  · rw [hv] at HL
    rw [Bool.and_false]
    clear hv
    go_enter Tryz.func115, Tryz.ntmps115
    go_wp2_with fail
    refine HL.out.mono ?_
    rintro e w1 ⟨n, rfl, hb⟩
    have HB := Lib.hid hb
    clear hb
    go_wp2
    go_ret
    exact ⟨rfl, HB.out⟩
  · rw [hv] at HL
    rw [Bool.and_true]
    clear hv
    by_cases h4 : s.size ≤ 4096
    · rw [decide_eq_true h4]
      have h5 : (s.size : Int) ≤ 4096 := by omega
      go_enter Tryz.func115, Tryz.ntmps115
      go_wp2_with fail
      refine HL.out.mono ?_
      rintro e w1 ⟨n, rfl, hb⟩
      have HB := Lib.hid hb
      clear hb
      go_wp2
      go_ret
      exact ⟨rfl, HB.out⟩
    · rw [decide_eq_false h4]
      have h5 : ¬ (s.size : Int) ≤ 4096 := by omega
      have h6 : decide ((s.size : Int) ≤ 4096) = false := decide_eq_false h5
      go_enter Tryz.func115, Tryz.ntmps115
      go_wp2_with fail
      refine HL.out.mono ?_
      rintro e w1 ⟨n, rfl, hb⟩
      have HB := Lib.hid hb
      clear hb
      go_wp2
      go_ret
      exact ⟨rfl, HB.out⟩

end Go.Proofs.YtcahpjejpimdhaaGreatDoor

namespace Go.Proofs.YtcahpjejpimdhaaGreatDoor
open Go.RowKit

set_option maxHeartbeats 400000 in
theorem refRise (ns : List ByteArray) (an : Option Addr) (cn : Nat) (w : World) (h : StrsAt w 0 w.heap.size an ns) (hn : ns.length ≤ 4294967296) :
    Calls Tryz.prog 116 #[.slice an ns.length cn] w fun e w' => e = .returned (.bool (rises ns)) ∧ Below w.heap.size w w' := by
  have HS := Lib.hid h; clear h
  go_enter Tryz.func116, Tryz.ntmps116
  go_wp2
  go_loopw [3] (fun i wr => ∃ k : Nat, 1 ≤ k ∧ (k ≤ ns.length ∨ k = 1) ∧ i = .int .i64 k ∧ rises (ns.take k) = true ∧ Below w.heap.size w wr) (fun i _ => ns.length - (intOf i).toNat)
  case atStart => exact ⟨1, by omega, .inr rfl, rfl, by cases ns <;> rfl, Below.refl _ _⟩
  case round =>
    obtain ⟨k, hk1, hk2, rfl, hr, hbel⟩ := hrel
    by_cases hlt : k < ns.length
    · obtain ⟨b, off, rfl, _, hb, c1⟩ := (HS.out.below hbel (Nat.le_refl _) (Nat.le_refl _) hbel.size).at k hlt
      obtain ⟨b', off', hbb, _, _, c0⟩ := (HS.out.below hbel (Nat.le_refl _) (Nat.le_refl _) hbel.size).at (k - 1) (by omega)
      obtain ⟨rfl, rfl⟩ : b = b' ∧ off = off' := by simpa using hbb
      have HB := Lib.hid hbel
      have HR := Lib.hid hr
      have H2 := Lib.hid (rises_two ns k hk1 hlt)
      have HX := Lib.hid (rises_bad ns k hk1 hlt)
      clear hbel hr hbb
      obtain ⟨x, hx⟩ : ∃ x, x = ns[k-1] := ⟨_, rfl⟩
      obtain ⟨y, hy⟩ : ∃ y, y = ns[k] := ⟨_, rfl⟩
      rw [← hx] at c0 H2 HX
      rw [← hy] at c1 H2 HX
      clear hx hy
      have i0 : IntKind.i64.wrap ((k : Int) - 1) = (k : Int) - 1 := IntWalk.i64_in _ (by omega)
      have j0 : 0 ≤ (k : Int) - 1 := by omega
      have j1 : 1 ≤ (k : Int) := by omega
      have j2 : (k : Int) - 1 < (ns.length : Int) := by omega
      have j3 : (k : Int) < (ns.length : Int) := by omega
      have t0 : ((k : Int) - 1).toNat = k - 1 := by omega
      cases hlss : Op.bytesLess x.toList y.toList
      · have HF := Lib.hid (HX.out hlss)
        have hle : (Op.bytesLess y.toList x.toList || y.toList == x.toList) = true := by
          cases h : Op.bytesLess y.toList x.toList
          · rw [less_tri _ _ hlss h]; simp
          · rfl
        clear hlss
        go_wp2_with fail
        go_quiet (fail)
        go_wp2
        go_ret
        exact ⟨by rw [HF.out]; rfl, Below.drewN HB.out _⟩
      · have HL := Lib.hid hlss
        have hle1 : Op.bytesLess y.toList x.toList = false := by
          cases h : Op.bytesLess y.toList x.toList
          · rfl
          · have := less_trans _ _ _ hlss h; rw [less_irrefl] at this; cases this
        have hle2 : (y.toList == x.toList) = false := by
          rw [beq_eq_false_iff_ne]; intro h; rw [h, less_irrefl] at hlss; cases hlss
        clear hlss
        go_wp2_with fail
        go_quiet (fail)
        go_wp2
        go_roundw
        case rel => exact ⟨k + 1, by omega, by omega, by go_num, by rw [H2.out, HR.out, HL.out]; rfl, Below.drewN HB.out _⟩
        case measure => simp [intOf]; omega
    · have HB := Lib.hid hbel
      have HF := Lib.hid (show rises ns = true by
        have : ns.take k = ns := List.take_of_length_le (by omega)
        rwa [this] at hr)
      clear hr hbel
      go_wp2
      go_ret
      exact ⟨by rw [HF.out]; rfl, HB.out⟩

set_option maxHeartbeats 400000 in
theorem refDepth (N : Nat) : ∀ (v : JV) (x : Value) (w : World), v.wt ≤ N → N ≤ 4294967296 → Rep w 0 w.heap.size v x →
    Calls Tryz.prog 91 #[x] w fun e w' => e = .returned (.int .i64 v.depth) ∧ Below w.heap.size w w' := by
  induction N with
  | zero => intro v x w h; have := v.wt_pos; omega
  | succ N ih =>
    intro v x w hN hM hR
    obtain ⟨an, cn, ai, ci, rfl, h1, h2, h3, h4⟩ := hR.parts
    obtain ⟨b1, b2, b3, b4⟩ := v.wt_bd
    have IH := Lib.hid ih; clear ih
    have H4 := Lib.hid h4; clear h4 hR h3
    have HD := Lib.hid v.depth_eq
    by_cases hk : v.kind ≠ 4 ∧ v.kind ≠ 5
    · rw [if_pos hk] at HD
      have e4 : (v.kind == 4) = false := by simpa using hk.1
      have e5 : (v.kind == 5) = false := by simpa using hk.2
      have e6 : (v.kind != 4) = true := by simpa using hk.1
      have e7 : (v.kind != 5) = true := by simpa using hk.2
      clear hk
      go_enter Tryz.func91, Tryz.ntmps91
      go_wp2
      go_ret
      exact ⟨by rw [HD.out] <;> rfl, (Below.refl _ _).alloc (Nat.le_refl _) _⟩
    · rw [if_neg hk] at HD
      have hk' : v.kind = 4 ∨ v.kind = 5 := by omega
      obtain ⟨kd, hkd⟩ : ∃ kd, kd = v.kind := ⟨_, rfl⟩
      rw [← hkd] at hk' ⊢
      clear hk hkd
      have hD := JV.depths_le v.items
      rcases hk' with rfl | rfl
      all_goals
        go_enter Tryz.func91, Tryz.ntmps91
        go_wp2
        go_loopw [3, 4] (fun s i wr => ∃ k : Nat, k ≤ v.items.length ∧ i = .int .i64 k ∧ s = .int .i64 (JV.depths (v.items.take k) : Nat) ∧ Below w.heap.size w wr ∧ wr.cell? ⟨w.heap.size, 4, none⟩ = some (.slice ai v.items.length ci) ∧ w.heap.size < wr.heap.size) (fun _ i _ => v.items.length - (intOf i).toNat)
        case atStart => exact ⟨0, Nat.zero_le _, rfl, by simp [JV.depths], (Below.refl _ _).alloc (Nat.le_refl _) _, by go_simp, by simp⟩
        case round =>
          obtain ⟨k, hk, rfl, rfl, hw, hc4, hz⟩ := hrel
          by_cases hlt : k < v.items.length
          · obtain ⟨b, off, c0, c1, c2, c3, c4, rfl, _, hb, e0, e1, e2, e3, e4, hrep⟩ := (H4.out.below hw (Nat.le_refl _) (Nat.le_refl _) hw.size).at k hlt
            have hk1 := JV.wts_get v.items k hlt
            have hk2 := JV.depth_le v.items[k]
            have hk3 := JV.depths_le (v.items.take k)
            have hk4 := JV.wts_take v.items k
            have HS := Lib.hid (JV.depths_take v.items k hlt)
            have HW := Lib.hid hw; clear hw
            have HR := Lib.hid hrep; clear hrep
            go_wp2_with fail
            refine (IH.out v.items[k] _ _ (by omega) (by omega) HR.out).mono ?_
            rintro e w1 ⟨rfl, hb1⟩
            have HC4 := Lib.hid (show w1.cell? ⟨w.heap.size, 4, none⟩ = _ from (hb1.cell hz).trans hc4)
            have hz1 : w.heap.size < w1.heap.size := Nat.lt_of_lt_of_le hz hb1.size
            have HB1 := Lib.hid hb1; clear hb1
            generalize JV.depth v.items[k] = dk at *
            generalize JV.depths (v.items.take k) = ds at *
            go_wp2
            go_roundw
            case rel => exact ⟨k + 1, by omega, by go_num, by rw [HS.out] <;> (congr 1; omega), HW.out.trans (HB1.out.mono HW.out.size), HC4.out, hz1⟩
            case measure => simp [intOf]; omega
          · obtain rfl : k = v.items.length := by omega
            have HW := Lib.hid hw; clear hw
            have HE := Lib.hid (show v.depth = JV.depths (v.items.take v.items.length) + 1 by rw [HD.out, List.take_length])
            have hk3 : JV.depths (v.items.take v.items.length) ≤ 4294967296 := by rw [List.take_length]; omega
            generalize JV.depths (v.items.take v.items.length) = ds at *
            go_wp2
            go_ret
            exact ⟨ret_int (by rw [HE.out]; push_cast; rfl), HW.out⟩

set_option maxHeartbeats 2000000 in
set_option maxRecDepth 100000 in
theorem refPart (N : Nat) : ∀ (v : JV) (x : Value) (w : World), v.wt ≤ N → N ≤ 4294967296 → Rep w 0 w.heap.size v x →
    Calls Tryz.prog 89 #[x] w fun e w' => e = .returned (.bool v.partB) ∧ Below w.heap.size w w' := by
  induction N with
  | zero => intro v x w h; have := v.wt_pos; omega
  | succ N ih =>
    intro v x w hN hM hR
    obtain ⟨an, cn, ai, ci, rfl, h1, h2, h3, h4⟩ := hR.parts
    obtain ⟨b1, b2, b3, b4⟩ := v.wt_bd
    have b5 := v.wt_eq
    have IH := Lib.hid ih
    have H3 := Lib.hid h3
    have H4 := Lib.hid h4
    have HP := Lib.hid v.partB_eq
    have HPL := Lib.hid v.part_leaf
    have hbs : bytesSum v.names ≤ 4294967296 := by omega
    clear ih h3 h4 hR h1 h2 b5
    obtain ⟨k, hk⟩ : ∃ k, k = v.kind := ⟨_, rfl⟩
    obtain ⟨n, hn⟩ : ∃ n, n = v.n := ⟨_, rfl⟩
    obtain ⟨t, ht⟩ : ∃ t, t = v.t := ⟨_, rfl⟩
    obtain ⟨ns, hns⟩ : ∃ ns, ns = v.names := ⟨_, rfl⟩
    obtain ⟨xs, hxs⟩ : ∃ xs, xs = v.items := ⟨_, rfl⟩
    obtain ⟨pb, hpb⟩ : ∃ pb, pb = v.partB := ⟨_, rfl⟩
    rw [← hk, ← hn, ← ht, ← hns, ← hxs, ← hpb] at HP HPL
    rw [← hns] at H3 b2 hbs
    rw [← hxs] at H4 b3 b4
    rw [← ht] at b1
    rw [← hk, ← hn, ← ht, ← hns, ← hxs, ← hpb]
    have hwN : JV.wts xs ≤ N := by omega
    have hwv : v.wt ≤ 4294967296 := by omega
    clear hk hn ht hns hxs hpb hN
    obtain ⟨ln, hln⟩ : ∃ ln, ln = ns.length := ⟨_, rfl⟩
    obtain ⟨li, hli⟩ : ∃ li, li = xs.length := ⟨_, rfl⟩
    rw [← hln] at b2 ⊢
    rw [← hli] at b3 HP HPL ⊢
    have HLN := Lib.hid hln
    have HLI := Lib.hid hli
    clear hln hli
    by_cases hk1 : k = 1
    · subst hk1
      have HQ := Lib.hid (show pb = decide (t.toList = [] ∧ ln = 0 ∧ li = 0 ∧ (n = 0 ∨ n = 1)) by rw [HPL.out (by decide) (by decide), HLN.out]; rfl)
      go_enter Tryz.func89, Tryz.ntmps89
      go_wp2
      all_goals go_ret
      all_goals refine ⟨ret_bool ?_, (Below.refl _ _).alloc (Nat.le_refl _) _⟩
      all_goals rw [HQ.out]
      all_goals (first | (simp_all; done) | (rw [Bool.eq_iff_iff]; simp_all; done) | (simp_all; omega))
    by_cases hk2 : k = 2
    · subst hk2
      have HQ := Lib.hid (show pb = decide (t.toList = [] ∧ ln = 0 ∧ li = 0) by rw [HPL.out (by decide) (by decide), HLN.out]; rfl)
      clear hk1
      go_enter Tryz.func89, Tryz.ntmps89
      go_wp2
      all_goals go_ret
      all_goals refine ⟨ret_bool ?_, (Below.refl _ _).alloc (Nat.le_refl _) _⟩
      all_goals rw [HQ.out]
      all_goals (first | (simp_all; done) | (rw [Bool.eq_iff_iff]; simp_all; done) | (simp_all; omega))
    by_cases hk3 : k = 3
    · subst hk3
      have HQ := Lib.hid (show pb = (decide (n = 0 ∧ ln = 0 ∧ li = 0) && txtOk t) by rw [HPL.out (by decide) (by decide), HLN.out]; rfl)
      clear hk1 hk2
      by_cases hn : n = 0
      · subst hn
        cases htx : txtOk t
        · rw [htx, Bool.and_false] at HQ
          have HT := Lib.hid (fun w => refText t w (by omega))
          rw [htx] at HT
          clear htx
          go_enter Tryz.func89, Tryz.ntmps89
          go_wp2_with (go_at_call 115; refine (HT.out _).mono ?_; rintro e w1 ⟨rfl, hb1⟩; have HB1 := Lib.hid hb1; clear hb1)
          go_ret
          exact ⟨by rw [HQ.out] <;> rfl, ((Below.refl _ _).alloc (Nat.le_refl _) _).trans (HB1.out.mono (by simp))⟩
        · rw [htx, Bool.and_true] at HQ
          have HT := Lib.hid (fun w => refText t w (by omega))
          rw [htx] at HT
          clear htx
          go_enter Tryz.func89, Tryz.ntmps89
          go_wp2_with fail
          refine (HT.out _).mono ?_
          rintro e w1 ⟨rfl, hb1⟩
          have c3 : w1.cell? ⟨w.heap.size, 3, none⟩ = some (.slice an ln cn) := by rw [hb1.cell (by simp)]; go_simp
          have c4 : w1.cell? ⟨w.heap.size, 4, none⟩ = some (.slice ai li ci) := by rw [hb1.cell (by simp)]; go_simp
          have HB1 := Lib.hid (((Below.refl _ _).alloc (Nat.le_refl _) _).trans (hb1.mono (by simp)))
          clear hb1
          go_wp2
          all_goals go_ret
          all_goals refine ⟨ret_bool ?_, HB1.out⟩
          all_goals rw [HQ.out]
          all_goals (first | (simp_all; done) | (rw [Bool.eq_iff_iff]; simp_all; done) | (simp_all; omega))
      · have HF := Lib.hid (show pb = false by rw [HQ.out, decide_eq_false (fun h => hn h.1)]; rfl)
        go_enter Tryz.func89, Tryz.ntmps89
        go_wp2
        go_ret
        exact ⟨by rw [HF.out] <;> rfl, (Below.refl _ _).alloc (Nat.le_refl _) _⟩
    by_cases hk45 : k = 4 ∨ k = 5
    · clear hk1 hk2 hk3 HPL
      by_cases hg : n = 0 ∧ t.toList = [] ∧ (k = 4 → ln = 0) ∧ (k = 5 → ln = li)
      · obtain ⟨rfl, te, g4, g5⟩ := hg
        have HQ := Lib.hid (show pb = (rises ns && ns.all txtOk && JV.partsB xs) by
          rw [HP.out]
          rcases hk45 with rfl | rfl
          · have hz : ns = [] := List.eq_nil_of_length_eq_zero (by rw [← HLN.out]; exact g4 rfl)
            subst hz
            simp [properB, te, rises]
          · have hz : ns.length = li := by rw [← HLN.out]; exact g5 rfl
            simp [properB, te, hz])
        clear HP
        rcases hk45 with rfl | rfl
        · have h0 : ln = 0 := g4 rfl
          subst h0
          clear g4 g5
          cases hr : rises ns
          · have HF := Lib.hid (show pb = false by rw [HQ.out, hr]; rfl)
            have HRS := Lib.hid (fun w (h : StrsAt w 0 w.heap.size an ns) => refRise ns an cn w h (by rw [← HLN.out]; omega))
            rw [hr, ← HLN.out] at HRS
            clear hr
            go_enter Tryz.func89, Tryz.ntmps89
            go_wp2_with fail
            refine (HRS.out _ (H3.out.below ((Below.refl _ _).alloc (Nat.le_refl _) _) (Nat.le_refl _) (Nat.le_refl _) (by simp))).mono ?_
            rintro e w1 ⟨rfl, hb1⟩
            have HB1 := Lib.hid (((Below.refl _ _).alloc (Nat.le_refl _) _).trans (hb1.mono (by simp)))
            clear hb1
            go_wp2
            go_ret
            exact ⟨by rw [HF.out] <;> rfl, HB1.out⟩
          · rw [hr, Bool.true_and] at HQ
            have HRS := Lib.hid (fun w (h : StrsAt w 0 w.heap.size an ns) => refRise ns an cn w h (by rw [← HLN.out]; omega))
            rw [hr, ← HLN.out] at HRS
            clear hr
            go_enter Tryz.func89, Tryz.ntmps89
            go_wp2_with fail
            refine (HRS.out _ (H3.out.below ((Below.refl _ _).alloc (Nat.le_refl _) _) (Nat.le_refl _) (Nat.le_refl _) (by simp))).mono ?_
            rintro e w1 ⟨rfl, hb1⟩
            have HX1 := Lib.hid (show w1.heap[w.heap.size]? = some (.cells #[.int .u8 4, .int .i64 0, .string t, .slice an 0 cn, .slice ai li ci] 29 (0, 0)) by rw [hb1.block _ (by simp)]; exact heap_alloc_new w _)
            have HB1 := Lib.hid (((Below.refl _ _).alloc (Nat.le_refl _) _).trans (hb1.mono (by simp)))
            clear hb1 HRS
            go_wp2_with fail
            go_loopw [3] (fun i wr => ∃ j : Nat, j ≤ 0 ∧ i = .int .i64 j ∧ (ns.take j).all txtOk = true ∧ Below w.heap.size w wr ∧ wr.heap[w.heap.size]? = some (.cells #[.int .u8 4, .int .i64 0, .string t, .slice an 0 cn, .slice ai li ci] 29 (0, 0))) (fun i _ => 0 - (intOf i).toNat)
            case atStart => exact ⟨0, by omega, rfl, by simp, HB1.out, HX1.out⟩
            case round =>
              clear HB1 HX1
              obtain ⟨j, hj, rfl, ha, hbel, hx⟩ := hrel
              have c3 : wr.cell? ⟨w.heap.size, 3, none⟩ = some (.slice an 0 cn) := box_cell hx rfl
              have HX := Lib.hid hx
              have HA1 := Lib.hid ha
              have HB := Lib.hid hbel
              have hz : w.heap.size < wr.heap.size := heap_lt hx
              clear ha hbel hx
              by_cases hlt : j < 0
              · exact absurd hlt (by omega)
              · have HQ2 := Lib.hid (show pb = JV.partsB xs by
                  have : ns.all txtOk = true := by
                    have h := HA1.out
                    rwa [List.take_of_length_le (by rw [← HLN.out]; omega)] at h
                  rw [HQ.out, this]; rfl)
                clear HA1 HQ
                obtain ⟨wo, rfl⟩ : ∃ wo : World, wo = wr := ⟨_, rfl⟩
                go_wp2_with fail
                go_loopw [4] (fun i wr => ∃ q : Nat, q ≤ li ∧ i = .int .i64 q ∧ JV.partsB (xs.take q) = true ∧ Below w.heap.size w wr ∧ wr.heap[w.heap.size]? = some (.cells #[.int .u8 4, .int .i64 0, .string t, .slice an 0 cn, .slice ai li ci] 29 (0, 0))) (fun i _ => li - (intOf i).toNat)
                case atStart => exact ⟨0, by omega, rfl, rfl, HB.out, HX.out⟩
                case round =>
                  clear HB HX c3
                  obtain ⟨q, hq, rfl, ha, hbel, hx⟩ := hrel
                  have c4 : wr.cell? ⟨w.heap.size, 4, none⟩ = some (.slice ai li ci) := box_cell hx rfl
                  have HX := Lib.hid hx
                  have HA1 := Lib.hid ha
                  have HB := Lib.hid hbel
                  have hz2 : w.heap.size < wr.heap.size := heap_lt hx
                  clear ha hbel hx
                  by_cases hql : q < li
                  · have hqx : q < xs.length := by rw [← HLI.out]; exact hql
                    obtain ⟨b, off, c0, c1, c2, c3, c5, hae, _, hb2, e0, e1, e2, e3, e4, hrep⟩ := (H4.out.below HB.out (Nat.le_refl _) (Nat.le_refl _) HB.out.size).at q hqx
                    subst hae
                    have hwq := JV.wts_get xs q hqx
                    have HA := Lib.hid (JV.partsB_take xs q hqx)
                    have HN := Lib.hid (JV.partsB_bad xs q hqx)
                    have HI := Lib.hid (IH.out xs[q] _ wr (by omega) (by omega) hrep)
                    clear hrep
                    generalize xs[q] = it at HA HN HI hwq
                    cases hy : it.partB
                    · have HF := Lib.hid (show pb = false by rw [HQ2.out, HN.out hy])
                      rw [hy] at HI
                      clear hy
                      go_wp2_with fail
                      refine HI.out.mono ?_
                      rintro e w2 ⟨rfl, hb2'⟩
                      have HB2 := Lib.hid (HB.out.trans (hb2'.mono HB.out.size))
                      clear hb2'
                      go_wp2
                      go_ret
                      exact ⟨by rw [HF.out] <;> rfl, HB2.out⟩
                    · rw [hy] at HI HA
                      clear hy
                      go_wp2_with fail
                      refine HI.out.mono ?_
                      rintro e w2 ⟨rfl, hb2'⟩
                      have HB2 := Lib.hid (HB.out.trans (hb2'.mono HB.out.size))
                      have HX2 := Lib.hid (show w2.heap[w.heap.size]? = _ from (hb2'.block _ hz2).trans HX.out)
                      clear hb2'
                      go_wp2
                      go_roundw
                      case rel => exact ⟨q + 1, by omega, by go_num, by rw [HA.out, HA1.out]; rfl, HB2.out, HX2.out⟩
                      case measure => simp [intOf]; omega
                  · have HF := Lib.hid (show pb = true by
                      have h := HA1.out
                      rw [List.take_of_length_le (by rw [← HLI.out]; omega)] at h
                      rw [HQ2.out, h])
                    go_wp2
                    go_ret
                    exact ⟨by rw [HF.out] <;> rfl, HB.out⟩
        · have h0 : ln = li := g5 rfl
          subst h0
          clear g4 g5
          cases hr : rises ns
          · have HF := Lib.hid (show pb = false by rw [HQ.out, hr]; rfl)
            have HRS := Lib.hid (fun w (h : StrsAt w 0 w.heap.size an ns) => refRise ns an cn w h (by rw [← HLN.out]; omega))
            rw [hr, ← HLN.out] at HRS
            clear hr
            go_enter Tryz.func89, Tryz.ntmps89
            go_wp2_with fail
            refine (HRS.out _ (H3.out.below ((Below.refl _ _).alloc (Nat.le_refl _) _) (Nat.le_refl _) (Nat.le_refl _) (by simp))).mono ?_
            rintro e w1 ⟨rfl, hb1⟩
            have HB1 := Lib.hid (((Below.refl _ _).alloc (Nat.le_refl _) _).trans (hb1.mono (by simp)))
            clear hb1
            go_wp2
            go_ret
            exact ⟨by rw [HF.out] <;> rfl, HB1.out⟩
          · rw [hr, Bool.true_and] at HQ
            have HRS := Lib.hid (fun w (h : StrsAt w 0 w.heap.size an ns) => refRise ns an cn w h (by rw [← HLN.out]; omega))
            rw [hr, ← HLN.out] at HRS
            clear hr
            go_enter Tryz.func89, Tryz.ntmps89
            go_wp2_with fail
            refine (HRS.out _ (H3.out.below ((Below.refl _ _).alloc (Nat.le_refl _) _) (Nat.le_refl _) (Nat.le_refl _) (by simp))).mono ?_
            rintro e w1 ⟨rfl, hb1⟩
            have HX1 := Lib.hid (show w1.heap[w.heap.size]? = some (.cells #[.int .u8 5, .int .i64 0, .string t, .slice an ln cn, .slice ai ln ci] 29 (0, 0)) by rw [hb1.block _ (by simp)]; exact heap_alloc_new w _)
            have HB1 := Lib.hid (((Below.refl _ _).alloc (Nat.le_refl _) _).trans (hb1.mono (by simp)))
            clear hb1 HRS
            go_wp2_with fail
            go_loopw [3] (fun i wr => ∃ j : Nat, j ≤ ln ∧ i = .int .i64 j ∧ (ns.take j).all txtOk = true ∧ Below w.heap.size w wr ∧ wr.heap[w.heap.size]? = some (.cells #[.int .u8 5, .int .i64 0, .string t, .slice an ln cn, .slice ai ln ci] 29 (0, 0))) (fun i _ => ln - (intOf i).toNat)
            case atStart => exact ⟨0, by omega, rfl, by simp, HB1.out, HX1.out⟩
            case round =>
              clear HB1 HX1
              obtain ⟨j, hj, rfl, ha, hbel, hx⟩ := hrel
              have c3 : wr.cell? ⟨w.heap.size, 3, none⟩ = some (.slice an ln cn) := box_cell hx rfl
              have HX := Lib.hid hx
              have HA1 := Lib.hid ha
              have HB := Lib.hid hbel
              have hz : w.heap.size < wr.heap.size := heap_lt hx
              clear ha hbel hx
              by_cases hlt : j < ln
              · have hltn : j < ns.length := by rw [← HLN.out]; exact hlt
                obtain ⟨b, off, hae, _, hb2, c0⟩ := (H3.out.below HB.out (Nat.le_refl _) (Nat.le_refl _) HB.out.size).at j hltn
                subst hae
                have hsz := bytesSum_get ns j hltn
                have HA := Lib.hid (show (ns.take (j + 1)).all txtOk = ((ns.take j).all txtOk && txtOk ns[j]) by rw [List.take_succ_eq_append_getElem hltn, List.all_append]; simp)
                have HN := Lib.hid (show txtOk ns[j] = false → ns.all txtOk = false from fun hf => by rw [List.all_eq_false]; exact ⟨ns[j], List.getElem_mem _, by simp [hf]⟩)
                generalize ns[j] = y at c0 hsz HA HN
                have HT := Lib.hid (refText y wr (by omega))
                cases hy : txtOk y
                · have HF := Lib.hid (show pb = false by rw [HQ.out, HN.out hy]; rfl)
                  rw [hy] at HT
                  clear hy
                  go_wp2_with fail
                  refine HT.out.mono ?_
                  rintro e w2 ⟨rfl, hb2'⟩
                  have HB2 := Lib.hid (HB.out.trans (hb2'.mono HB.out.size))
                  clear hb2'
                  go_wp2
                  go_ret
                  exact ⟨by rw [HF.out] <;> rfl, HB2.out⟩
                · rw [hy] at HT HA
                  clear hy
                  go_wp2_with fail
                  refine HT.out.mono ?_
                  rintro e w2 ⟨rfl, hb2'⟩
                  have HB2 := Lib.hid (HB.out.trans (hb2'.mono HB.out.size))
                  have HX2 := Lib.hid (show w2.heap[w.heap.size]? = _ from (hb2'.block _ hz).trans HX.out)
                  clear hb2'
                  go_wp2
                  go_roundw
                  case rel => exact ⟨j + 1, by omega, by go_num, by rw [HA.out, HA1.out]; rfl, HB2.out, HX2.out⟩
                  case measure => simp [intOf]; omega
              · have HQ2 := Lib.hid (show pb = JV.partsB xs by
                  have : ns.all txtOk = true := by
                    have h := HA1.out
                    rwa [List.take_of_length_le (by rw [← HLN.out]; omega)] at h
                  rw [HQ.out, this]; rfl)
                clear HA1 HQ
                obtain ⟨wo, rfl⟩ : ∃ wo : World, wo = wr := ⟨_, rfl⟩
                go_wp2_with fail
                go_loopw [4] (fun i wr => ∃ q : Nat, q ≤ ln ∧ i = .int .i64 q ∧ JV.partsB (xs.take q) = true ∧ Below w.heap.size w wr ∧ wr.heap[w.heap.size]? = some (.cells #[.int .u8 5, .int .i64 0, .string t, .slice an ln cn, .slice ai ln ci] 29 (0, 0))) (fun i _ => ln - (intOf i).toNat)
                case atStart => exact ⟨0, by omega, rfl, rfl, HB.out, HX.out⟩
                case round =>
                  clear HB HX c3
                  obtain ⟨q, hq, rfl, ha, hbel, hx⟩ := hrel
                  have c4 : wr.cell? ⟨w.heap.size, 4, none⟩ = some (.slice ai ln ci) := box_cell hx rfl
                  have HX := Lib.hid hx
                  have HA1 := Lib.hid ha
                  have HB := Lib.hid hbel
                  have hz2 : w.heap.size < wr.heap.size := heap_lt hx
                  clear ha hbel hx
                  by_cases hql : q < ln
                  · have hqx : q < xs.length := by rw [← HLI.out]; exact hql
                    obtain ⟨b, off, c0, c1, c2, c3, c5, hae, _, hb2, e0, e1, e2, e3, e4, hrep⟩ := (H4.out.below HB.out (Nat.le_refl _) (Nat.le_refl _) HB.out.size).at q hqx
                    subst hae
                    have hwq := JV.wts_get xs q hqx
                    have HA := Lib.hid (JV.partsB_take xs q hqx)
                    have HN := Lib.hid (JV.partsB_bad xs q hqx)
                    have HI := Lib.hid (IH.out xs[q] _ wr (by omega) (by omega) hrep)
                    clear hrep
                    generalize xs[q] = it at HA HN HI hwq
                    cases hy : it.partB
                    · have HF := Lib.hid (show pb = false by rw [HQ2.out, HN.out hy])
                      rw [hy] at HI
                      clear hy
                      go_wp2_with fail
                      refine HI.out.mono ?_
                      rintro e w2 ⟨rfl, hb2'⟩
                      have HB2 := Lib.hid (HB.out.trans (hb2'.mono HB.out.size))
                      clear hb2'
                      go_wp2
                      go_ret
                      exact ⟨by rw [HF.out] <;> rfl, HB2.out⟩
                    · rw [hy] at HI HA
                      clear hy
                      go_wp2_with fail
                      refine HI.out.mono ?_
                      rintro e w2 ⟨rfl, hb2'⟩
                      have HB2 := Lib.hid (HB.out.trans (hb2'.mono HB.out.size))
                      have HX2 := Lib.hid (show w2.heap[w.heap.size]? = _ from (hb2'.block _ hz2).trans HX.out)
                      clear hb2'
                      go_wp2
                      go_roundw
                      case rel => exact ⟨q + 1, by omega, by go_num, by rw [HA.out, HA1.out]; rfl, HB2.out, HX2.out⟩
                      case measure => simp [intOf]; omega
                  · have HF := Lib.hid (show pb = true by
                      have h := HA1.out
                      rw [List.take_of_length_le (by rw [← HLI.out]; omega)] at h
                      rw [HQ2.out, h])
                    go_wp2
                    go_ret
                    exact ⟨by rw [HF.out] <;> rfl, HB.out⟩
      · have HF := Lib.hid (show pb = false by
          rw [HP.out]
          have : properB k n t ns li = false := by
            rcases hk45 with rfl | rfl
            · simp only [properB, show ¬ (4 : Int) = 1 by decide, show ¬ (4 : Int) = 2 by decide, show ¬ (4 : Int) = 3 by decide, if_false, if_true]
              exact decide_eq_false fun h => hg ⟨h.1, h.2.1, fun _ => by rw [HLN.out]; exact h.2.2, fun h => by omega⟩
            · simp only [properB, show ¬ (5 : Int) = 1 by decide, show ¬ (5 : Int) = 2 by decide, show ¬ (5 : Int) = 3 by decide, show ¬ (5 : Int) = 4 by decide, if_false, if_true]
              rw [decide_eq_false fun h => hg ⟨h.1, h.2.1, fun h => by omega, fun _ => by rw [HLN.out]; exact h.2.2⟩]; rfl
          rw [this]; rfl)
        clear HP
        by_cases a1 : n = 0
        · subst a1
          by_cases a2 : t.toList = []
          · rcases hk45 with rfl | rfl
            · have a5 : 0 < ln := Nat.pos_of_ne_zero fun e => hg ⟨rfl, a2, fun _ => e, fun h => by omega⟩
              clear hg
              go_enter Tryz.func89, Tryz.ntmps89
              go_wp2
              go_ret
              exact ⟨by rw [HF.out] <;> rfl, (Below.refl _ _).alloc (Nat.le_refl _) _⟩
            · have a5 : ¬ (ln : Int) = (li : Int) := fun e => hg ⟨rfl, a2, fun h => by omega, fun _ => by omega⟩
              clear hg
              go_enter Tryz.func89, Tryz.ntmps89
              go_wp2_with fail
              all_goals first | (exfalso; omega) | (go_ret; exact ⟨by rw [HF.out] <;> rfl, (Below.refl _ _).alloc (Nat.le_refl _) _⟩)
          · have a3 : t.toList.isEmpty = false := by rw [isEmpty_dec]; simp [a2]
            clear hg
            rcases hk45 with rfl | rfl
            all_goals
              go_enter Tryz.func89, Tryz.ntmps89
              go_wp2
              go_ret
              exact ⟨by rw [HF.out] <;> rfl, (Below.refl _ _).alloc (Nat.le_refl _) _⟩
        · clear hg
          rcases hk45 with rfl | rfl
          all_goals
            go_enter Tryz.func89, Tryz.ntmps89
            go_wp2
            go_ret
            exact ⟨by rw [HF.out] <;> rfl, (Below.refl _ _).alloc (Nat.le_refl _) _⟩
    · have HF := Lib.hid (show pb = false by rw [HP.out]; unfold properB; rw [if_neg hk1, if_neg hk2, if_neg hk3, if_neg (fun h => hk45 (.inl h)), if_neg (fun h => hk45 (.inr h))]; rfl)
      have e1 : (k == 1) = false := by simp [hk1]
      have e2 : (k == 2) = false := by simp [hk2]
      have e3 : (k == 3) = false := by simp [hk3]
      have e4 : (k == 4) = false := by simp; omega
      have e5 : (k == 5) = false := by simp; omega
      clear hk1 hk2 hk3 hk45
      go_enter Tryz.func89, Tryz.ntmps89
      go_wp2
      go_ret
      exact ⟨by rw [HF.out] <;> rfl, (Below.refl _ _).alloc (Nat.le_refl _) _⟩

end Go.Proofs.YtcahpjejpimdhaaGreatDoor
