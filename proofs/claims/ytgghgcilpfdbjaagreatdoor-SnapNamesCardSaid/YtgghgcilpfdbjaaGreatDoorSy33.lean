/- The contracts of legatelaw08.size and legatelaw08.Long: what is not long is of little weight. -/
import Derived.Test.YtgghgcilpfdbjaaGreatDoorSy00
import Derived.WalkLawsBesides
import Derived.Lib.Hide

namespace Go.Proofs.YtgghgcilpfdbjaaGreatDoor
open Go.RowKit
end Go.Proofs.YtgghgcilpfdbjaaGreatDoor
