import Derived.Test.YthgembbgcbaghaaGreatDoorDg05
import Derived.Lib.AppendIntMem

namespace Go.Proofs.YthgembbgcbaghaaGreatDoor
open Go.RowKit Go.Lib
