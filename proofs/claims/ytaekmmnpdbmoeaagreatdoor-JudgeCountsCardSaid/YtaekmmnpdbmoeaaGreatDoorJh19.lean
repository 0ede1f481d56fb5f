/- The contract of legateref02.keys. -/
import Derived.Test.YtaekmmnpdbmoeaaGreatDoorJh16

namespace Go.Proofs.YtaekmmnpdbmoeaaGreatDoor
open Go.RowKit

/-- The 64 keys. -/
def kCells : Array Value := (kays.map fun x => Value.int .u32 x).toArray
theorem kCells_get : ∀ i, i < 64 → kCells[i]? = some (.int .u32 (kay i)) := by
  intro i hi
  have hl : i < kays.length := hi
  simp only [kCells, List.getElem?_toArray, List.getElem?_map, List.getElem?_eq_getElem hl, Option.map_some, kay, List.getD_eq_getElem?_getD, Option.getD_some]
theorem kCells_of {c : Array Value} (hn : c.size = 64) (hf : ∀ i, i < 64 → c[i]? = some (.int .u32 (kay i))) : c = kCells := by
  apply Array.ext
  · rw [hn]; rfl
  · intro i h1 h2
    have := hf i (by omega)
    rw [← kCells_get i (by omega), Array.getElem?_eq_getElem h1, Array.getElem?_eq_getElem h2] at this
    exact Option.some.inj this
theorem sizeK64 (w : World) : (Go.sizeOf 160).run Tryz.prog w = .ok 64 w := by kernel_rfl

set_option maxRecDepth 100000 in
set_option maxHeartbeats 1000000 in
theorem refKeys (w : World) :
    Calls Tryz.prog 118 #[] w fun e w' => e = .returned (.agg kCells) ∧ Below w.heap.size w w' := by
  go_enter Tryz.func118, Tryz.ntmps118
  go_wp2_with (refine wpList_store_row rfl 160 (.tmp 0) (.tmp 1) rfl w.heap.size 160 64 _ (fun j => .int .u32 (kay j)) rfl (rowIs_any w _ _ 64 rfl) kCells rfl rfl kCells_get (fun _ _ => rfl) sizeK64 ?_)
  intro w1 h3 h4
  have HB1 := Lib.hid (show Below w.heap.size w w1 from ((Below.refl _ _).alloc (Nat.le_refl _) _).trans ((h4.out.below (B := w.heap.size) (by simp) (fun k hk e => by omega))))
  obtain ⟨c, hc, hn, hf⟩ := h3.out
  have HC := Lib.hid hc
  have HCW := Lib.hid (show c = kCells from kCells_of hn hf)
  have HN := Lib.hid (show (Tryz.prog.info? 160).map (·.size) = some c.size by rw [hn]; kernel_rfl)
  clear hc hn hf h3 h4
  go_wp2
  refine bodyPost_ret (results_cell_row Tryz.results118 _ _ w.heap.size 160 _ (0, 0) _ rfl HC.out Tryz.underlying160 rfl HN.out) rfl ⟨by rw [HCW.out], HB1.out⟩

end Go.Proofs.YtaekmmnpdbmoeaaGreatDoor
