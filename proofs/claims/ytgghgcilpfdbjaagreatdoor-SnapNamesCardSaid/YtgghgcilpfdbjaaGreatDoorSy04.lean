/- The references' functions on values (legateref08). -/
import Derived.Test.YtgghgcilpfdbjaaGreatDoorSy00
import Derived.Test.YtgghgcilpfdbjaaGreatDoorSy03
import Derived.Lib.Hide

namespace Go.Proofs.YtgghgcilpfdbjaaGreatDoor
open Go.RowKit
theorem digs_drop (l : List UInt8) (k : Nat) (h : k < l.length) (n : Int) : digsN (l.drop k) n = if 48 ≤ l[k].toNat ∧ l[k].toNat ≤ 57 then digsN (l.drop (k + 1)) (10 * n + ((l[k].toNat : Int) - 48)) else -1 := by
 rw [List.drop_eq_getElem_cons h, digsN]
set_option maxHeartbeats 1000000 in
theorem whenDigits (s : ByteArray) (w : World) (hs : s.size ≤ 4) : Calls Tryz.prog 168 #[.string s] w fun e w' => e = .returned (.int .i64 (digsN s.data.toList 0)) ∧ w' = w := by
 go_enter Tryz.func168, Tryz.ntmps168
 go_wp2
 go_loop [3, 4, 7] (fun n _ i => ∃ k : Nat, ∃ m : Int, k ≤ s.size ∧ i = .int .i64 k ∧ n = .int .i64 m ∧ 0 ≤ m ∧ m < 10 ^ k ∧ digsN s.data.toList 0 = digsN (s.data.toList.drop k) m) (fun _ _ i => s.size - (intOf i).toNat)
 case atStart => exact ⟨0, 0, Nat.zero_le _, rfl, rfl, by omega, by decide, rfl⟩
 case round =>
   obtain ⟨k, m, hk, rfl, rfl, h0, h1, hd⟩ := hrel
   have HD := Lib.hid hd
   clear hd
   by_cases hlt : k < s.size
   · have hp : (10 : Int) ^ k ≤ 1000 := by
       have : k = 0 ∨ k = 1 ∨ k = 2 ∨ k = 3 := by omega
       rcases this with rfl | rfl | rfl | rfl <;> decide
     have hp2 : (10 : Int) ^ (k + 1) = 10 * 10 ^ k := by rw [Int.pow_succ]; omega
     have HN := Lib.hid (digs_drop s.data.toList k (by rw [Array.length_toList]; exact hlt) m)
     have HE := Lib.hid (show s.data.toList[k]'(by rw [Array.length_toList]; exact hlt) = s[k] from rfl)
     rw [HE.out] at HN
     have hc : s[k].toNat < 256 := s[k].toNat_lt
     by_cases g1 : s[k].toNat < 48
     · have g1' : decide ((s[k].toNat : Int) < 48) = true := by simp; omega
       have HR := Lib.hid (show digsN s.data.toList 0 = -1 by rw [HD.out, HN.out, if_neg (by omega)])
       go_wp2
       go_ret
       exact ⟨ret_int (by rw [HR.out]), rfl⟩
     · have g1' : decide ((s[k].toNat : Int) < 48) = false := by simp; omega
       by_cases g2 : 57 < s[k].toNat
       · have g2' : decide ((57 : Int) < s[k].toNat) = true := by simp; omega
         have HR := Lib.hid (show digsN s.data.toList 0 = -1 by rw [HD.out, HN.out, if_neg (by omega)])
         go_wp2
         go_ret
         exact ⟨ret_int (by rw [HR.out]), rfl⟩
       · have g2' : decide ((57 : Int) < s[k].toNat) = false := by simp; omega
         have HR := Lib.hid (show digsN s.data.toList 0 = digsN (s.data.toList.drop (k + 1)) (10 * m + ((s[k].toNat : Int) - 48)) by rw [HD.out, HN.out, if_pos (by omega)])
         go_wp2
         go_round
         case rel => exact ⟨k + 1, 10 * m + ((s[k].toNat : Int) - 48), by omega, by go_num, by go_num, by omega, by omega, HR.out⟩
         case measure => simp [intOf]; omega
   · obtain rfl : k = s.size := by omega
     have HR := Lib.hid (show digsN s.data.toList 0 = m by rw [HD.out, List.drop_eq_nil_of_le (by rw [Array.length_toList]; exact Nat.le_refl _)]; rfl)
     go_wp2
     go_ret
     exact ⟨ret_int (by rw [HR.out]), rfl⟩
set_option maxHeartbeats 400000 in
theorem recDigits (s : ByteArray) (w : World) (hs : s.size ≤ 9223372036854775807) : Calls Tryz.prog 106 #[.string s] w fun e w' => e = .returned (.bool (pubOk s.data.toList)) ∧ w = w' := by
 by_cases h2 : 2 ≤ s.size
 · have d2 : decide ((2 : Int) ≤ (s.size : Int)) = true := by simp; omega
   by_cases h3 : s.size ≤ 128
   · have d3 : decide ((s.size : Int) ≤ 128) = true := by simp; omega
     have hm : (s.size : Int).tmod 2 = ((s.size % 2 : Nat) : Int) := by rw [Int.tmod_eq_emod_of_nonneg (by omega)]; omega
     by_cases h4 : s.size % 2 = 0
     · have HP := Lib.hid (pub_hex (s := s) h2 h3 h4)
       rw [h4] at hm
       have hm : (s.size : Int).tmod 2 = 0 := hm
       clear h4
       go_enter Tryz.func106, Tryz.ntmps106
       go_wp2_with fail
       refine (hexIs s _ hs).mono ?_
       rintro e w1 ⟨rfl, rfl⟩
       go_wp2
       go_ret
       exact ⟨ret_bool (by rw [HP.out]), rfl⟩
     · have HP := Lib.hid (pub_no (s := s) (by omega))
       have h5 : s.size % 2 = 1 := by omega
       rw [h5] at hm
       have hm : (s.size : Int).tmod 2 = 1 := hm
       clear h4 h5
       go_enter Tryz.func106, Tryz.ntmps106
       go_wp2
       go_ret
       exact ⟨ret_bool (by rw [HP.out]), rfl⟩
   · have d3 : decide ((s.size : Int) ≤ 128) = false := by simp; omega
     have HP := Lib.hid (pub_no (s := s) (by omega))
     go_enter Tryz.func106, Tryz.ntmps106
     go_wp2
     go_ret
     exact ⟨ret_bool (by rw [HP.out]), rfl⟩
 · have d2 : decide ((2 : Int) ≤ (s.size : Int)) = false := by simp; omega
   have HP := Lib.hid (pub_no (s := s) (by omega))
   go_enter Tryz.func106, Tryz.ntmps106
   go_wp2
   go_ret
   exact ⟨ret_bool (by rw [HP.out]), rfl⟩
mutual
def JV.count : JV → Nat
 | .mk _ _ _ _ xs => 1 + JV.counts xs
def JV.counts : List JV → Nat
 | [] => 0
 | x :: r => JV.count x + JV.counts r
end
mutual
theorem JV.count_le : ∀ v : JV, v.count ≤ v.wt
 | .mk _ _ _ _ xs => by have := JV.counts_le xs; simp [JV.count, JV.wt]; omega
theorem JV.counts_le : ∀ l : List JV, JV.counts l ≤ JV.wts l
 | [] => by simp [JV.counts]
 | x :: r => by have := JV.count_le x; have := JV.counts_le r; simp [JV.counts, JV.wts]; omega
end
end Go.Proofs.YtgghgcilpfdbjaaGreatDoor
