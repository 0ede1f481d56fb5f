/- The law SnapBack: the call returns true. Printed by genback.py. -/
import Derived.Test.YtgghgcilpfdbjaaGreatDoorSu23
import Derived.Test.YtgghgcilpfdbjaaGreatDoorSu30
import Derived.Test.YtgghgcilpfdbjaaGreatDoorSu31
import Derived.Test.YtgghgcilpfdbjaaGreatDoorSu26
import Derived.Test.YtgghgcilpfdbjaaGreatDoorSu18
import Derived.Test.YtgghgcilpfdbjaaGreatDoorSu10
import Derived.Test.YtgghgcilpfdbjaaGreatDoorSu33
import Derived.Test.YtgghgcilpfdbjaaGreatDoorSu35
import Derived.Test.YtgghgcilpfdbjaaGreatDoorSu27

namespace Go.Proofs.YtgghgcilpfdbjaaGreatDoor
open Go.RowKit Go.Shelf Go.Sort
theorem repL_one {w : World} {lo hi b T : Nat} {v : JV} {c0 c1 c2 c3 c4 : Value} (hb : w.heap[b]? = some (.cells #[c0, c1, c2, c3, c4] T (0, 0))) (h1 : lo ≤ b) (h2 : b < hi) (hR : Rep w lo hi v (.agg #[c0, c1, c2, c3, c4])) : ValsAt w lo hi (some ⟨b, 0, none⟩) [v] := by
 refine .inr ⟨b, 0, rfl, h1, h2, ⟨_, _, _, hb, fun _ => rfl⟩, ?_⟩
 unfold RepL
 refine ⟨⟨c0, c1, c2, c3, c4, box_cell hb rfl, box_cell hb rfl, box_cell hb rfl, box_cell hb rfl, box_cell hb rfl, by simp [World.frozen?, hb], hR⟩, by unfold RepL; trivial⟩
end Go.Proofs.YtgghgcilpfdbjaaGreatDoor
