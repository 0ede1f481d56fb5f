import Derived.Test.YthgembbgcbaghaaGreatDoorDn05
import Derived.Lib.AppendIntMem

namespace Go.Proofs.YthgembbgcbaghaaGreatDoor
open Go.RowKit Go.Lib
