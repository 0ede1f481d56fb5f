import Derived.Test.YthgembbgcbaghaaGreatDoorDn36

namespace Go.Proofs.YthgembbgcbaghaaGreatDoor
open Go.RowKit
