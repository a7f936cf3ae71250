/- The law of Picture: part JF4. -/
import Derived.Test.YtoinimaobnbimaaGreatDoorJ3
set_option linter.unusedSimpArgs false
set_option linter.unusedVariables false
set_option linter.constructorNameAsVariable false
namespace Go.Proofs.YtoinimaobnbimaaGreatDoor
theorem jf_keys:Tryz.prog.plainKeys=Rows.fnExactPictureRow.plainKeys:=by kernel_rfl
theorem jf_heard:Tryz.prog.stopsHeard=true:=by kernel_rfl
theorem jf_enter:Tryz.prog.mayEnter=true:=by kernel_rfl
end Go.Proofs.YtoinimaobnbimaaGreatDoor
