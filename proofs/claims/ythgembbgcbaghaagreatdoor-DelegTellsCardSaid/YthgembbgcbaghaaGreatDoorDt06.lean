import Derived.Test.YthgembbgcbaghaaGreatDoorDt05
import Derived.Lib.AppendIntMem

namespace Go.Proofs.YthgembbgcbaghaaGreatDoor
open Go.RowKit Go.Lib
end Go.Proofs.YthgembbgcbaghaaGreatDoor
