/- The law of Picture: part LP6. -/
import Derived.Test.YtoinimaobnbimaaGreatDoorLawE
set_option linter.unusedSimpArgs false
set_option linter.unusedVariables false
set_option linter.constructorNameAsVariable false
namespace Go.Proofs.YtoinimaobnbimaaGreatDoor
open Go.RowKit Go.Px
open Go.ChangeShapes Go.WideShapes Go.ChangeAt
open Go.ChangeMaps (open_string shut_string)
theorem proved_Picture:Rows.FnExactPictureCardSaid:=
 Claim7.holds_tied_plain_at .later [] _ _ _ _ said_Picture (fun _ h=>by cases h) (by kernel_rfl) (fun _ h=>by cases h) fnExactPicture_row_tie rfl ⟨rfl,rfl⟩ (by kernel_rfl) rfl plain_Picture goes_Picture
#print axioms proved_Picture
end Go.Proofs.YtoinimaobnbimaaGreatDoor
