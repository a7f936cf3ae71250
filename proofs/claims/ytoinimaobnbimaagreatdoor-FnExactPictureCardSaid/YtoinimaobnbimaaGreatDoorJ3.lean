/- The law of Picture: part JF3. -/
import Derived.Test.YtoinimaobnbimaaGreatDoorJ2
set_option linter.unusedSimpArgs false
set_option linter.unusedVariables false
set_option linter.constructorNameAsVariable false
namespace Go.Proofs.YtoinimaobnbimaaGreatDoor
theorem jf_maps:mapsRowed Tryz.prog=true:=by kernel_rfl
theorem jf_laid:laidOutB Tryz.prog=true:=by kernel_rfl
theorem jf_loops:(Tryz.f3.params.toList++(OpenSpec.ofChange Rows.fnExactPictureSpec).bare.plain.varTypes Tryz.prog).any (Tryz.prog.loopsFrom ·)=false:=by kernel_rfl
end Go.Proofs.YtoinimaobnbimaaGreatDoor
