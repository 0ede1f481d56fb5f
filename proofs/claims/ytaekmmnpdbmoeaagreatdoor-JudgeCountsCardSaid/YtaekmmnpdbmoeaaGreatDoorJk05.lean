/- The contract of legatelaw17.both. -/
import Derived.Test.YtaekmmnpdbmoeaaGreatDoorJk04

namespace Go.Proofs.YtaekmmnpdbmoeaaGreatDoor
open Go.RowKit

set_option maxHeartbeats 400000 in
theorem lawBoth (hm : Bool) (l : List Ver3) (a : Option Addr) (c : Nat) (w : World) (hR : TrisAt w 0 w.heap.size a l) (hl : l.length ≤ 60) :
    Calls Tryz.prog 15 #[.bool hm, .slice a l.length c] w fun e w' => ∃ x y, e = .returned (.tuple #[x, y]) ∧ VerIs w' x (verOf hm l) ∧ RVer w' y (verOf hm l) ∧ Below w.heap.size w w' := by
  cases hm
  · have HC := Lib.hid (judgeTable l a c w hR hl)
    have HRT := Lib.hid hR
    clear hR
    go_enter Tryz.func15, Tryz.ntmps15
    go_wp2_with fail
    refine HC.out.mono ?_
    rintro e w1 ⟨p, a', c', rfl, hp, hx, hT, hb⟩
    have HX := Lib.hid hx
    have HTT := Lib.hid hT
    have HB := Lib.hid hb
    clear hx hT hb
    go_wp2
    go_ret2
    refine ⟨_, _, rfl, .inl ⟨p, a', c', rfl, ?_, hl, ?_⟩, ⟨_, a, c, rfl, heap_alloc_new w1 _, hl, ?_⟩, ?_⟩
    · rw [Below.heap_alloc _ _ _ (heap_lt HX.out)]; exact HX.out
    · exact HTT.out.carry (Nat.zero_le _) (by have := heap_lt HX.out; simp; omega) (fun b _ hb => Below.heap_alloc _ _ _ (by have := heap_lt HX.out; omega))
    · exact HRT.out.below (HB.out.alloc HB.out.size _) (Nat.le_refl _) (Nat.le_refl _) (by have := HB.out.size; simp; omega)
    · exact HB.out.alloc HB.out.size _
  · go_enter Tryz.func15, Tryz.ntmps15
    go_wp2_with fail
    refine (judgeHMAC w).mono ?_
    rintro e w1 ⟨rfl, rfl⟩
    go_wp2
    go_ret2
    refine ⟨_, _, rfl, ⟨_, rfl, ?_⟩, ⟨_, rfl, ?_⟩, ?_⟩
    · rw [Below.heap_alloc _ _ _ (by simp)]; exact heap_alloc_new w _
    · have := heap_alloc_new (w.alloc (.cells #[.iface 94 (.agg #[])] 64)) (.cells #[.bool true, .slice none 0 0] 87)
      simpa using this
    · exact below_n2 w _ _

end Go.Proofs.YtaekmmnpdbmoeaaGreatDoor
