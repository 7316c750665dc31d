/- The reference's Get, of any tree and any path, walked. -/
import Derived.Test.YtoocfodefbechaaGreatDoorRefV
namespace Go.Proofs.YtoocfodefbechaaGreatDoor.Values
open Go.RowKit Go.Proofs.YtoocfodefbechaaGreatDoor.Q Go.Proofs.YtoocfodefbechaaGreatDoor.Real Go.Proofs.YtoocfodefbechaaGreatDoor.RealPure Go.Proofs.YtoocfodefbechaaGreatDoorW.PrintWords Go.Proofs.YtoocfodefbechaaGreatDoorW.PrintLast Go.Proofs.YtoocfodefbechaaGreatDoorW.PrintMore
set_option linter.unusedSimpArgs false
set_option linter.unusedVariables false
set_option maxRecDepth 100000
end Go.Proofs.YtoocfodefbechaaGreatDoor.Values
