import Derived.Test.YthgembbgcbaghaaGreatDoorDn29
set_option maxRecDepth 100000

namespace Go.Proofs.YthgembbgcbaghaaGreatDoor.delegNames
open Go.ChangeShapes Go.WideShapes Go.ChangeAt Go.RowKit Go.Joins
theorem facts:joinedFacts Tryz.prog 5 Tryz.f5 (OpenSpec.ofChange Rows.delegNamesSpec).bare Rows.delegNamesRow=true:=by kernel_rfl
end Go.Proofs.YthgembbgcbaghaaGreatDoor.delegNames
