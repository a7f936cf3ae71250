/- The law of Report: part JF4. -/
import Derived.Test.YtegmckcdakndaaaGreatDoorJ3
set_option linter.unusedSimpArgs false
set_option linter.unusedVariables false
set_option linter.constructorNameAsVariable false
namespace Go.Proofs.YtegmckcdakndaaaGreatDoor
theorem jf_keys:Tryz.prog.plainKeys=Rows.fnExactReportRow.plainKeys:=by kernel_rfl
theorem jf_heard:Tryz.prog.stopsHeard=true:=by kernel_rfl
theorem jf_enter:Tryz.prog.mayEnter=true:=by kernel_rfl
end Go.Proofs.YtegmckcdakndaaaGreatDoor
