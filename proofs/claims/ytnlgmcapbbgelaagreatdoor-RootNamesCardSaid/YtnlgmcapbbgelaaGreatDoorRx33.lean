/- The contract of legateref02.step: the walk. -/
import Derived.Test.YtnlgmcapbbgelaaGreatDoorRx32

namespace Go.Proofs.YtnlgmcapbbgelaaGreatDoor
open Go.RowKit
end Go.Proofs.YtnlgmcapbbgelaaGreatDoor
