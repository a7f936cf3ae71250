/- The law of SrvNew: part JF3. -/
import Derived.Test.YtaeepiblggcjpaaGreatDoorJ2
set_option linter.unusedSimpArgs false
set_option linter.unusedVariables false
set_option linter.constructorNameAsVariable false
namespace Go.Proofs.YtaeepiblggcjpaaGreatDoor
theorem jf_maps:mapsRowed Tryz.prog=true:=by kernel_rfl
theorem jf_laid:laidOutB Tryz.prog=true:=by kernel_rfl
theorem jf_loops:(Tryz.f4.params.toList++(OpenSpec.ofChange Rows.fnExactSrvNewSpec).bare.plain.varTypes Tryz.prog).any (Tryz.prog.loopsFrom ·)=false:=by kernel_rfl
end Go.Proofs.YtaeepiblggcjpaaGreatDoor
