/- The contract of legateref02.Sum. -/
import Derived.Test.YtnlgmcapbbgelaaGreatDoorRx33

namespace Go.Proofs.YtnlgmcapbbgelaaGreatDoor
open Go.RowKit
end Go.Proofs.YtnlgmcapbbgelaaGreatDoor
