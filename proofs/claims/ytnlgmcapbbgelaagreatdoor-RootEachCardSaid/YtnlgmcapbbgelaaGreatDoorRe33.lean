/- The contracts of key.Find and legateref14.Find. -/
import Derived.Test.YtnlgmcapbbgelaaGreatDoorRe32
import Derived.Test.YtnlgmcapbbgelaaGreatDoorRe25
import Derived.Test.YtnlgmcapbbgelaaGreatDoorRe09
import Derived.Test.YtnlgmcapbbgelaaGreatDoorRe00

namespace Go.Proofs.YtnlgmcapbbgelaaGreatDoor
open Go.RowKit
end Go.Proofs.YtnlgmcapbbgelaaGreatDoor
