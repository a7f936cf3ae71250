/- The law of Status: part LST5. -/
import Derived.Test.YthjkndcfihodgaaGreatDoorLawD
set_option linter.unusedSimpArgs false
set_option linter.unusedVariables false
set_option linter.constructorNameAsVariable false
namespace Go.Proofs.YthjkndcfihodgaaGreatDoor
open Go.RowKit Go.Px
open Go.ChangeShapes Go.WideShapes Go.ChangeAt
open Go.ChangeMaps (open_string shut_string)
theorem goes_Status : false = Rows.fnExactStatusRow.goesBy Tryz.pinned.checked.prog := by kernel_rfl
end Go.Proofs.YthjkndcfihodgaaGreatDoor
