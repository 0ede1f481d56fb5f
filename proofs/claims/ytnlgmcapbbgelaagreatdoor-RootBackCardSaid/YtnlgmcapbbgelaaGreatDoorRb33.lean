/- The contracts of key.Find and legateref14.Find. -/
import Derived.Test.YtnlgmcapbbgelaaGreatDoorRb32
import Derived.Test.YtnlgmcapbbgelaaGreatDoorRb25
import Derived.Test.YtnlgmcapbbgelaaGreatDoorRb09
import Derived.Test.YtnlgmcapbbgelaaGreatDoorRb00

namespace Go.Proofs.YtnlgmcapbbgelaaGreatDoor
open Go.RowKit
end Go.Proofs.YtnlgmcapbbgelaaGreatDoor
