/- The contract of legateref02.keys. -/
import Derived.Test.YtnlgmcapbbgelaaGreatDoorRx29

namespace Go.Proofs.YtnlgmcapbbgelaaGreatDoor
open Go.RowKit
def ak:Array Value:=(kays.map fun x=>Value.int .u32 x).toArray
end Go.Proofs.YtnlgmcapbbgelaaGreatDoor
