/- The law of Picture: part LP5. -/
import Derived.Test.YtoinimaobnbimaaGreatDoorLawD
set_option linter.unusedSimpArgs false
set_option linter.unusedVariables false
set_option linter.constructorNameAsVariable false
namespace Go.Proofs.YtoinimaobnbimaaGreatDoor
open Go.RowKit Go.Px
open Go.ChangeShapes Go.WideShapes Go.ChangeAt
open Go.ChangeMaps (open_string shut_string)
theorem goes_Picture:false=Rows.fnExactPictureRow.goesBy Tryz.pinned.checked.prog:=by kernel_rfl
end Go.Proofs.YtoinimaobnbimaaGreatDoor
