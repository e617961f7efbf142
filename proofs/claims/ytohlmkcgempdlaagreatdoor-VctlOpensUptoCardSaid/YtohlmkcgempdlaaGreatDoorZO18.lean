/- Parts of the proof of vctlOpens_holds (18 of 22): what it says and shows stands at its declarations. -/
import Derived.Test.YtohlmkcgempdlaaGreatDoorZO17
import Derived.Maps.RangeWalk
import Derived.Maps.Own
namespace Go.Proofs.YtohlmkcgempdlaaGreatDoor.Cn
set_option linter.unusedSimpArgs false
set_option maxRecDepth 100000
set_option linter.unusedVariables false
open Go.RowKit Go.Maps Go.Proofs.YtohlmkcgempdlaaGreatDoorW.PrintWords Go.Proofs.YtohlmkcgempdlaaGreatDoorW.PrintLast Go.Proofs.YtohlmkcgempdlaaGreatDoorW.PrintMore Go.Proofs.YtohlmkcgempdlaaGreatDoor.QD
def DN (l : List Int) : DataW Unit := .map (l.map fun x => (Lit.int .i64 x, .nil))
end Go.Proofs.YtohlmkcgempdlaaGreatDoor.Cn
