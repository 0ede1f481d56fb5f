/- The contract of legateref02.Sum. -/
import Derived.Test.YtnlgmcapbbgelaaGreatDoorRn31

namespace Go.Proofs.YtnlgmcapbbgelaaGreatDoor
open Go.RowKit
end Go.Proofs.YtnlgmcapbbgelaaGreatDoor
