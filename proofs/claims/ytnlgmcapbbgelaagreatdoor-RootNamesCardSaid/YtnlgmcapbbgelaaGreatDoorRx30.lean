/- The contract of legateref02.words: the 64 words of a block. -/
import Derived.Test.YtnlgmcapbbgelaaGreatDoorRx29

namespace Go.Proofs.YtnlgmcapbbgelaaGreatDoor
open Go.RowKit
def aj (p:Nat→Int):Array Value:=((List.range 64).map fun i=>Value.int .u32 (wrd p i)).toArray
end Go.Proofs.YtnlgmcapbbgelaaGreatDoor
