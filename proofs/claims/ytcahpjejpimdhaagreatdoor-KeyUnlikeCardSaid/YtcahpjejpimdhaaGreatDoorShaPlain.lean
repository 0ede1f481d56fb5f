/- SHA-256 as plain functions on integers. No program in sight. -/
import Derived.Test.YtcahpjejpimdhaaGreatDoorPlain
import Derived.Deep.OwnRows
import Derived.Laws.BitsAllLaws
namespace Go.Proofs.YtcahpjejpimdhaaGreatDoor
open Go.RowKit

/-- A word's bits, turned to the right by n places. -/
def rotr (x : Int) (n : Nat) : Int := x % 2 ^ n * 2 ^ (32 - n) + x / 2 ^ n
def bxor (a b : Int) : Int := bits .xor .u32 a b
def band (a b : Int) : Int := bits .and .u32 a b
def bnot (a : Int) : Int := bits .xor .u32 IntKind.u32.max a
def wadd (a b : Int) : Int := (a + b) % 4294967296
def sg0 (x : Int) : Int := bxor (bxor (rotr x 7) (rotr x 18)) (x / 8)
def sg1 (x : Int) : Int := bxor (bxor (rotr x 17) (rotr x 19)) (x / 1024)
def bg0 (x : Int) : Int := bxor (bxor (rotr x 2) (rotr x 13)) (rotr x 22)
def bg1 (x : Int) : Int := bxor (bxor (rotr x 6) (rotr x 11)) (rotr x 25)
def chc (e f g : Int) : Int := bxor (band e f) (band (bnot e) g)
def maj (a b c : Int) : Int := bxor (bxor (band a b) (band a c)) (band b c)
def be4 (p : Nat → Int) (i : Nat) : Int := p (4 * i) * 16777216 + p (4 * i + 1) * 65536 + p (4 * i + 2) * 256 + p (4 * i + 3)
/-- The first n words of a block's 64. -/
def wseq (p : Nat → Int) : Nat → List Int
  | 0 => []
  | n + 1 => let l := wseq p n
    l ++ [if n < 16 then be4 p n else wadd (wadd (wadd (l.getD (n - 16) 0) (sg0 (l.getD (n - 15) 0))) (l.getD (n - 7) 0)) (sg1 (l.getD (n - 2) 0))]
def wrd (p : Nat → Int) (i : Nat) : Int := (wseq p (i + 1)).getD i 0

structure S8 where
  (a b c d e f g h : Int)
def S8.at (s : S8) : Nat → Int
  | 0 => s.a | 1 => s.b | 2 => s.c | 3 => s.d | 4 => s.e | 5 => s.f | 6 => s.g | _ => s.h
def kays : List Int := [0x428a2f98, 0x71374491, 0xb5c0fbcf, 0xe9b5dba5, 0x3956c25b, 0x59f111f1, 0x923f82a4, 0xab1c5ed5,
  0xd807aa98, 0x12835b01, 0x243185be, 0x550c7dc3, 0x72be5d74, 0x80deb1fe, 0x9bdc06a7, 0xc19bf174,
  0xe49b69c1, 0xefbe4786, 0x0fc19dc6, 0x240ca1cc, 0x2de92c6f, 0x4a7484aa, 0x5cb0a9dc, 0x76f988da,
  0x983e5152, 0xa831c66d, 0xb00327c8, 0xbf597fc7, 0xc6e00bf3, 0xd5a79147, 0x06ca6351, 0x14292967,
  0x27b70a85, 0x2e1b2138, 0x4d2c6dfc, 0x53380d13, 0x650a7354, 0x766a0abb, 0x81c2c92e, 0x92722c85,
  0xa2bfe8a1, 0xa81a664b, 0xc24b8b70, 0xc76c51a3, 0xd192e819, 0xd6990624, 0xf40e3585, 0x106aa070,
  0x19a4c116, 0x1e376c08, 0x2748774c, 0x34b0bcb5, 0x391c0cb3, 0x4ed8aa4a, 0x5b9cca4f, 0x682e6ff3,
  0x748f82ee, 0x78a5636f, 0x84c87814, 0x8cc70208, 0x90befffa, 0xa4506ceb, 0xbef9a3f7, 0xc67178f2]
def kay (i : Nat) : Int := kays.getD i 0
def hinit : S8 := ⟨0x6a09e667, 0xbb67ae85, 0x3c6ef372, 0xa54ff53a, 0x510e527f, 0x9b05688c, 0x1f83d9ab, 0x5be0cd19⟩
def first (k x : Int) (s : S8) : Int := wadd (wadd (wadd (wadd s.h (bg1 s.e)) (chc s.e s.f s.g)) k) x
def rnd (k x : Int) (s : S8) : S8 := ⟨wadd (wadd (first k x s) (bg0 s.a)) (maj s.a s.b s.c), s.a, s.b, s.c, wadd s.d (first k x s), s.e, s.f, s.g⟩
def rnds (p : Nat → Int) (s : S8) : Nat → S8
  | 0 => s
  | n + 1 => rnd (kay n) (wrd p n) (rnds p s n)
def S8.add (s t : S8) : S8 := ⟨wadd s.a t.a, wadd s.b t.b, wadd s.c t.c, wadd s.d t.d, wadd s.e t.e, wadd s.f t.f, wadd s.g t.g, wadd s.h t.h⟩
/-- The eight numbers behind a block. -/
def press (s : S8) (p : Nat → Int) : S8 := s.add (rnds p s 64)

theorem wseq_len (p : Nat → Int) : ∀ n, (wseq p n).length = n
  | 0 => rfl
  | n + 1 => by simp [wseq, wseq_len p n]
theorem wseq_getD (p : Nat → Int) (i : Nat) : ∀ n, i < n → (wseq p n).getD i 0 = wrd p i
  | 0, h => by omega
  | n + 1, h => by
    by_cases e : i = n
    · subst e; rfl
    · rw [← wseq_getD p i n (by omega)]
      simp only [wseq, List.getD_eq_getElem?_getD]
      rw [List.getElem?_append_left (by rw [wseq_len]; omega)]
theorem wrd_lo (p : Nat → Int) (n : Nat) (h : n < 16) : wrd p n = be4 p n := by
  unfold wrd; simp only [wseq, List.getD_eq_getElem?_getD]
  rw [List.getElem?_append_right (by rw [wseq_len]; omega), wseq_len]; simp [h]
theorem wrd_hi (p : Nat → Int) (n : Nat) (h : 16 ≤ n) : wrd p n = wadd (wadd (wadd (wrd p (n - 16)) (sg0 (wrd p (n - 15)))) (wrd p (n - 7))) (sg1 (wrd p (n - 2))) := by
  conv => lhs; unfold wrd
  simp only [wseq, List.getD_eq_getElem?_getD]
  rw [List.getElem?_append_right (by rw [wseq_len]; omega), wseq_len]
  simp only [Nat.sub_self, List.getElem?_cons_zero, Option.getD_some, if_neg (show ¬ n < 16 by omega)]
  simp only [← List.getD_eq_getElem?_getD]
  rw [wseq_getD p (n - 16) n (by omega), wseq_getD p (n - 15) n (by omega), wseq_getD p (n - 7) n (by omega), wseq_getD p (n - 2) n (by omega)]

theorem wadd_bd (a b : Int) : 0 ≤ wadd a b ∧ wadd a b < 4294967296 := by unfold wadd; omega
theorem bxor_bd {a b : Int} (h1 : 0 ≤ a) (h2 : a < 4294967296) (h3 : 0 ≤ b) (h4 : b < 4294967296) : 0 ≤ bxor a b ∧ bxor a b < 4294967296 := by
  unfold bxor; rw [u32_xor a b h1 h2 h3 h4]
  have := Nat.xor_lt_two_pow (x := a.toNat) (y := b.toNat) (n := 32) (by omega) (by omega)
  omega
theorem band_bd {a b : Int} (h1 : 0 ≤ a) (h2 : a < 4294967296) (h3 : 0 ≤ b) (h4 : b < 4294967296) : 0 ≤ band a b ∧ band a b < 4294967296 := by
  unfold band; rw [u32_and a b h1 h2 h3 h4]
  have := Nat.and_lt_two_pow (x := a.toNat) (y := b.toNat) (n := 32) (by omega)
  omega
def w32 (x : Int) : Prop := 0 ≤ x ∧ x < 4294967296
theorem rotr_bd {x : Int} (h : w32 x) (n : Nat) (hn : n ≤ 32) : w32 (rotr x n) := by
  obtain ⟨h1, h2⟩ := h
  unfold rotr w32
  have hp : (0 : Int) < 2 ^ n := Int.pow_pos (by omega)
  have hq : (0 : Int) < 2 ^ (32 - n) := Int.pow_pos (by omega)
  have e : (2 : Int) ^ n * 2 ^ (32 - n) = 4294967296 := by rw [← Int.pow_add, show n + (32 - n) = 32 by omega]; rfl
  have a1 : 0 ≤ x % 2 ^ n := Int.emod_nonneg _ (by omega)
  have a2 : x % 2 ^ n ≤ 2 ^ n - 1 := by have := Int.emod_lt_of_pos x hp; omega
  have a3 : 0 ≤ x / 2 ^ n := Int.ediv_nonneg h1 (by omega)
  have a4 : x / 2 ^ n < 2 ^ (32 - n) := by
    apply Int.ediv_lt_of_lt_mul hp; rw [Int.mul_comm, e]; exact h2
  have a5 : x % 2 ^ n * 2 ^ (32 - n) ≤ (2 ^ n - 1) * 2 ^ (32 - n) := Int.mul_le_mul_of_nonneg_right a2 (by omega)
  have a6 : 0 ≤ x % 2 ^ n * 2 ^ (32 - n) := Int.mul_nonneg a1 (by omega)
  rw [Int.sub_mul, e] at a5
  constructor <;> omega

theorem be4_eq (a b c d : Int) (ha : 0 ≤ a ∧ a ≤ 255) (hb : 0 ≤ b ∧ b ≤ 255) (hc : 0 ≤ c ∧ c ≤ 255) (hd : 0 ≤ d ∧ d ≤ 255) :
    bits .or .u32 (bits .or .u32 (bits .or .u32 (a % 4294967296 * 16777216 % 4294967296) (b % 4294967296 * 65536 % 4294967296)) (c % 4294967296 * 256 % 4294967296)) (d % 4294967296) =
      a * 16777216 + b * 65536 + c * 256 + d := by
  obtain ⟨a, rfl⟩ := Int.eq_ofNat_of_zero_le ha.1
  obtain ⟨b, rfl⟩ := Int.eq_ofNat_of_zero_le hb.1
  obtain ⟨c, rfl⟩ := Int.eq_ofNat_of_zero_le hc.1
  obtain ⟨d, rfl⟩ := Int.eq_ofNat_of_zero_le hd.1
  have e1 : ((a : Int) % 4294967296 * 16777216 % 4294967296) = ((a * 16777216 : Nat) : Int) := by omega
  have e2 : ((b : Int) % 4294967296 * 65536 % 4294967296) = ((b * 65536 : Nat) : Int) := by omega
  have e3 : ((c : Int) % 4294967296 * 256 % 4294967296) = ((c * 256 : Nat) : Int) := by omega
  have e4 : ((d : Int) % 4294967296) = ((d : Nat) : Int) := by omega
  rw [e1, e2, e3, e4, u32_or_nat _ _ (by omega) (by omega), nat_join 24 _ _ (by omega) (by omega), u32_or_nat _ _ (by omega) (by omega), nat_join 16 _ _ (by omega) (by omega), u32_or_nat _ _ (by omega) (by omega), nat_join 8 _ _ (by omega) (by omega)]
  omega

theorem wrd_w32 (p : Nat → Int) (hp : ∀ i, i < 64 → 0 ≤ p i ∧ p i ≤ 255) (i : Nat) : w32 (wrd p i) := by
  by_cases h : i < 16
  · rw [wrd_lo p i h]; unfold be4 w32
    have := hp (4 * i) (by omega); have := hp (4 * i + 1) (by omega); have := hp (4 * i + 2) (by omega); have := hp (4 * i + 3) (by omega); omega
  · rw [wrd_hi p i (by omega)]; exact wadd_bd _ _

def S8.ok (s : S8) : Prop := w32 s.a ∧ w32 s.b ∧ w32 s.c ∧ w32 s.d ∧ w32 s.e ∧ w32 s.f ∧ w32 s.g ∧ w32 s.h
theorem rnd_ok {k x : Int} {s : S8} (h : s.ok) : (rnd k x s).ok := by
  obtain ⟨ha, hb, hc, hd, he, hf, hg, hh⟩ := h
  exact ⟨wadd_bd _ _, ha, hb, hc, wadd_bd _ _, he, hf, hg⟩
theorem rnds_ok (p : Nat → Int) {s : S8} (h : s.ok) : ∀ n, (rnds p s n).ok
  | 0 => h
  | n + 1 => rnd_ok (rnds_ok p h n)
theorem add_ok (s t : S8) : (s.add t).ok := ⟨wadd_bd _ _, wadd_bd _ _, wadd_bd _ _, wadd_bd _ _, wadd_bd _ _, wadd_bd _ _, wadd_bd _ _, wadd_bd _ _⟩
theorem hinit_ok : hinit.ok := by unfold S8.ok hinit w32; simp
theorem press_ok (s : S8) (p : Nat → Int) : (press s p).ok := add_ok _ _

theorem rnd_a (k x : Int) (s : S8) : (s.h + bg1 s.e + chc s.e s.f s.g + k + x + bg0 s.a + maj s.a s.b s.c) % 4294967296 = (rnd k x s).a := by
  show _ = wadd (wadd (first k x s) (bg0 s.a)) (maj s.a s.b s.c)
  unfold first wadd; omega
theorem rnd_e (k x : Int) (s : S8) : (s.d + (s.h + bg1 s.e + chc s.e s.f s.g + k + x)) % 4294967296 = (rnd k x s).e := by
  show _ = wadd s.d (first k x s)
  unfold first wadd; omega
theorem add_at (s t : S8) (j : Nat) : (s.add t).at j = wadd (s.at j) (t.at j) := by
  rcases j with _ | _ | _ | _ | _ | _ | _ | j <;> rfl

/-- The byte at a place, as a number. -/
def byteI (l : List UInt8) (i : Nat) : Int := ((l.getD i 0).toNat : Int)
/-- The eight numbers behind the first n blocks. -/
def shaSt (l : List UInt8) : Nat → S8
  | 0 => hinit
  | n + 1 => press (shaSt l n) (fun j => byteI l (64 * n + j))
theorem shaSt_ok (l : List UInt8) : ∀ n, (shaSt l n).ok
  | 0 => hinit_ok
  | _ + 1 => press_ok _ _
theorem byteI_bd (l : List UInt8) (i : Nat) : 0 ≤ byteI l i ∧ byteI l i ≤ 255 := by
  unfold byteI; have := (l.getD i 0).toNat_lt; omega
theorem wseq_congr {p q : Nat → Int} (h : ∀ j, j < 64 → p j = q j) : ∀ n, wseq p n = wseq q n
  | 0 => rfl
  | n + 1 => by
    simp only [wseq, wseq_congr h n]
    by_cases hn : n < 16
    · simp only [if_pos hn]; unfold be4; rw [h _ (by omega), h _ (by omega), h _ (by omega), h _ (by omega)]
    · simp only [if_neg hn]
theorem rnds_congr {p q : Nat → Int} (h : ∀ j, j < 64 → p j = q j) (s : S8) : ∀ n, rnds p s n = rnds q s n
  | 0 => rfl
  | n + 1 => by simp only [rnds, rnds_congr h s n, wrd, wseq_congr h (n + 1)]
theorem press_congr {p q : Nat → Int} (h : ∀ j, j < 64 → p j = q j) (s : S8) : press s p = press s q := by
  unfold press; rw [rnds_congr h]
theorem shaSt_congr {l m : List UInt8} : ∀ n, (∀ i, i < 64 * n → byteI l i = byteI m i) → shaSt l n = shaSt m n
  | 0, _ => rfl
  | n + 1, h => by
    simp only [shaSt]
    rw [shaSt_congr n fun i hi => h i (by omega)]
    exact press_congr (fun j hj => h _ (by omega)) _

/-- The byte j of a number's eight, the greatest first. -/
def be8 (n : Nat) (j : Nat) : Int := (n : Int) / 2 ^ (56 - 8 * j) % 256
def u8 (i : Int) : UInt8 := UInt8.ofNat i.toNat
theorem u8_toNat {i : Int} (h : 0 ≤ i) (h' : i < 256) : ((u8 i).toNat : Int) = i := by
  unfold u8; rw [UInt8.toNat_ofNat']; omega
def be8L (n : Nat) : List UInt8 := (List.range 8).map fun j => u8 (be8 n j)
theorem be8L_len (n : Nat) : (be8L n).length = 8 := by simp [be8L]
theorem be8_bd (n j : Nat) : 0 ≤ be8 n j ∧ be8 n j < 256 := by unfold be8; omega
theorem be8L_get (n j : Nat) (hj : j < (be8L n).length) : ((be8L n)[j].toNat : Int) = be8 n j := by
  simp only [be8L, List.getElem_map, List.getElem_range]; exact u8_toNat (be8_bd n j).1 (be8_bd n j).2
def wordBytes (x : Int) : List UInt8 := [u8 (x / 16777216 % 256), u8 (x / 65536 % 256), u8 (x / 256 % 256), u8 (x % 256)]
def sumK (s : S8) : Nat → List UInt8
  | 0 => []
  | k + 1 => sumK s k ++ wordBytes (s.at k)
/-- What is hashed: the text, and what is laid behind it. -/
def shaPad (l : List UInt8) : List UInt8 := l ++ (128 :: List.replicate ((119 - l.length % 64) % 64) 0) ++ be8L (l.length * 8)
def shaSum (l : List UInt8) : List UInt8 := sumK (shaSt (shaPad l) ((shaPad l).length / 64)) 8
theorem sumK_length (s : S8) : ∀ k, (sumK s k).length = 4 * k
  | 0 => rfl
  | k + 1 => by simp [sumK, sumK_length s k, wordBytes]; omega
theorem shaSum_length (l : List UInt8) : (shaSum l).length = 32 := sumK_length _ 8
theorem shaPad_length (l : List UInt8) : (shaPad l).length = l.length + 9 + (119 - l.length % 64) % 64 := by
  unfold shaPad be8L; simp; omega

end Go.Proofs.YtcahpjejpimdhaaGreatDoor
