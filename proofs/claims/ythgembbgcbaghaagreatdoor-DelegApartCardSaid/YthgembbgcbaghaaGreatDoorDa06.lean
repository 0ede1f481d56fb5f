/- The library's table of powers of ten, laid. -/
import Derived.Test.YthgembbgcbaghaaGreatDoorDa05
import Derived.Lib.AppendIntMem

namespace Go.Proofs.YthgembbgcbaghaaGreatDoor
open Go.RowKit Go.Lib
end Go.Proofs.YthgembbgcbaghaaGreatDoor
