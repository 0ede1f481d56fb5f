/- Values that do not hang on a zero block: objects of members that do not. No program in sight. -/
import Derived.Test.YtnlgmcapbbgelaaGreatDoorRx04
import Derived.Test.YtnlgmcapbbgelaaGreatDoorRx17

namespace Go.Proofs.YtnlgmcapbbgelaaGreatDoor
open Go.RowKit
end Go.Proofs.YtnlgmcapbbgelaaGreatDoor
