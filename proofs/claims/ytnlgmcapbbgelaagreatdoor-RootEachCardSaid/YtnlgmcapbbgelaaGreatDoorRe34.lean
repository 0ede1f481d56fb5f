/- The contracts of legateref14.text and legateref14.Value. -/
import Derived.Test.YtnlgmcapbbgelaaGreatDoorRe19
import Derived.Test.YtnlgmcapbbgelaaGreatDoorRe14
import Derived.Test.YtnlgmcapbbgelaaGreatDoorRe22

namespace Go.Proofs.YtnlgmcapbbgelaaGreatDoor
open Go.RowKit
end Go.Proofs.YtnlgmcapbbgelaaGreatDoor
