/- The contract of slices.Equal of texts. -/
import Derived.Test.YtnlgmcapbbgelaaGreatDoorRx07
import Derived.Test.YtnlgmcapbbgelaaGreatDoorRx02

namespace Go.Proofs.YtnlgmcapbbgelaaGreatDoor
open Go.RowKit
end Go.Proofs.YtnlgmcapbbgelaaGreatDoor
