/- The law of SrvNew: part LP5. -/
import Derived.Test.YtaeepiblggcjpaaGreatDoorLawD
set_option linter.unusedSimpArgs false
set_option linter.unusedVariables false
set_option linter.constructorNameAsVariable false
namespace Go.Proofs.YtaeepiblggcjpaaGreatDoor
open Go.RowKit Go.Px
open Go.ChangeShapes Go.WideShapes Go.ChangeAt
open Go.ChangeMaps (open_string shut_string)
theorem goes_L:false=Rows.fnExactSrvNewRow.goesBy Tryz.pinned.checked.prog:=by kernel_rfl
end Go.Proofs.YtaeepiblggcjpaaGreatDoor
