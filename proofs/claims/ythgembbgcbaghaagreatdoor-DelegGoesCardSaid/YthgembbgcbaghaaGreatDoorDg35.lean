import Derived.Test.YthgembbgcbaghaaGreatDoorDg30
set_option maxRecDepth 100000

namespace Go.Proofs.YthgembbgcbaghaaGreatDoor.delegGoes
open Go.ChangeShapes Go.WideShapes Go.ChangeAt Go.RowKit Go.Joins
theorem facts:joinedFacts Tryz.prog 4 Tryz.f4 (OpenSpec.ofChange Rows.delegGoesSpec).bare Rows.delegGoesRow=true:=by kernel_rfl
end Go.Proofs.YthgembbgcbaghaaGreatDoor.delegGoes
