/- The law of Status: part LST6. -/
import Derived.Test.YthjkndcfihodgaaGreatDoorLawE
set_option linter.unusedSimpArgs false
set_option linter.unusedVariables false
set_option linter.constructorNameAsVariable false
namespace Go.Proofs.YthjkndcfihodgaaGreatDoor
open Go.RowKit Go.Px
open Go.ChangeShapes Go.WideShapes Go.ChangeAt
open Go.ChangeMaps (open_string shut_string)
theorem proved_Status : Rows.FnExactStatusCardSaid :=
  Claim7.holds_tied_plain_at .later [] _ _ _ _ said_Status (fun _ h => by cases h) (by kernel_rfl) (fun _ h => by cases h) fnExactStatus_row_tie rfl ⟨rfl, rfl⟩ (by kernel_rfl) rfl plain_Status goes_Status
#print axioms proved_Status
end Go.Proofs.YthjkndcfihodgaaGreatDoor
