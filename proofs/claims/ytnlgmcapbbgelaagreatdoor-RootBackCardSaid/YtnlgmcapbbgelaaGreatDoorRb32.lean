/- The contract of legateref02.Sum. -/
import Derived.Test.YtnlgmcapbbgelaaGreatDoorRb31
import Derived.Test.YtnlgmcapbbgelaaGreatDoorRb25
import Derived.Deep.RegionHeld3
import Derived.Deep.AppendLies

namespace Go.Proofs.YtnlgmcapbbgelaaGreatDoor
open Go.RowKit
end Go.Proofs.YtnlgmcapbbgelaaGreatDoor
