/- The law of Report: part LP6. -/
import Derived.Test.YtegmckcdakndaaaGreatDoorLawE
set_option linter.unusedSimpArgs false
set_option linter.unusedVariables false
set_option linter.constructorNameAsVariable false
namespace Go.Proofs.YtegmckcdakndaaaGreatDoor
open Go.RowKit Go.Px
open Go.ChangeShapes Go.WideShapes Go.ChangeAt
open Go.ChangeMaps (open_string shut_string)
theorem proved_Report:Rows.FnExactReportCardSaid:=
 Claim7.holds_tied_plain_at .later [] _ _ _ _ said_L (fun _ h=>by cases h) (by kernel_rfl) (fun _ h=>by cases h) fnExactReport_row_tie rfl ⟨rfl,rfl⟩ (by kernel_rfl) rfl plain_L goes_L
#print axioms proved_Report
end Go.Proofs.YtegmckcdakndaaaGreatDoor
