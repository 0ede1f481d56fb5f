/- The law SnapBack: the call returns true. Printed by genback.py. -/
import Derived.Test.YtgghgcilpfdbjaaGreatDoorSy27
import Derived.Test.YtgghgcilpfdbjaaGreatDoorSy31
import Derived.Test.YtgghgcilpfdbjaaGreatDoorSy32
import Derived.Test.YtgghgcilpfdbjaaGreatDoorSy21
import Derived.Test.YtgghgcilpfdbjaaGreatDoorSy17
import Derived.Test.YtgghgcilpfdbjaaGreatDoorSy09
import Derived.Test.YtgghgcilpfdbjaaGreatDoorSy29
import Derived.Test.YtgghgcilpfdbjaaGreatDoorSy33
import Derived.Test.YtgghgcilpfdbjaaGreatDoorSy20

namespace Go.Proofs.YtgghgcilpfdbjaaGreatDoor
open Go.RowKit Go.Shelf Go.Sort
theorem pinFits_may {p : PinV} (h : mayPin p = true) : PinFits p := by
 obtain ⟨h1, h2, h3, h4⟩ := mayPin_parts h
 have hf := file_size h1
 refine ⟨by unfold in64; omega, by unfold in64; omega, by unfold maxLen; omega, ?_, fun k hk => ?_⟩
 · rcases h4 with h4 | h4
   · rw [h4]; exact Nat.zero_le _
   · have := (mayHashes_parts h4).1.2; unfold maxLen; omega
 · rcases h4 with h4 | h4
   · rw [h4] at hk; cases hk
   · have h5 := (mayHashes_parts h4).2.1 k hk
     have h6 := role_size2 h5.1
     have h7 := pub_size h5.2
     unfold maxLen
     omega
end Go.Proofs.YtgghgcilpfdbjaaGreatDoor
