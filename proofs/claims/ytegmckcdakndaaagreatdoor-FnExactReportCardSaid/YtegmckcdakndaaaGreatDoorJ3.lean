/- The law of Report: part JF3. -/
import Derived.Test.YtegmckcdakndaaaGreatDoorJ2
set_option linter.unusedSimpArgs false
set_option linter.unusedVariables false
set_option linter.constructorNameAsVariable false
namespace Go.Proofs.YtegmckcdakndaaaGreatDoor
theorem jf_maps:mapsRowed Tryz.prog=true:=by kernel_rfl
theorem jf_laid:laidOutB Tryz.prog=true:=by kernel_rfl
theorem jf_loops:(Tryz.f3.params.toList++(OpenSpec.ofChange Rows.fnExactReportSpec).bare.plain.varTypes Tryz.prog).any (Tryz.prog.loopsFrom ·)=false:=by kernel_rfl
end Go.Proofs.YtegmckcdakndaaaGreatDoor
