/- The law of Report: part LP5. -/
import Derived.Test.YtegmckcdakndaaaGreatDoorLawD
set_option linter.unusedSimpArgs false
set_option linter.unusedVariables false
set_option linter.constructorNameAsVariable false
namespace Go.Proofs.YtegmckcdakndaaaGreatDoor
open Go.RowKit Go.Px
open Go.ChangeShapes Go.WideShapes Go.ChangeAt
open Go.ChangeMaps (open_string shut_string)
theorem goes_L:false=Rows.fnExactReportRow.goesBy Tryz.pinned.checked.prog:=by kernel_rfl
end Go.Proofs.YtegmckcdakndaaaGreatDoor
