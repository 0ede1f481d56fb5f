/- The contract of legatelaw23.Long of one snapshot: what is not long is few, and short. -/
import Derived.Test.YtgghgcilpfdbjaaGreatDoorSy10

namespace Go.Proofs.YtgghgcilpfdbjaaGreatDoor
open Go.RowKit
end Go.Proofs.YtgghgcilpfdbjaaGreatDoor
