/- The law of Picture: part JF1. -/
import Derived.Test.YtoinimaobnbimaaGreatDoorRows
import Derived.JoinedCond
import Derived.ProofKit
set_option linter.unusedSimpArgs false
set_option linter.unusedVariables false
set_option linter.constructorNameAsVariable false
namespace Go.Proofs.YtoinimaobnbimaaGreatDoor
theorem jf_inPlace:Tryz.prog.inPlace 3=["internal/bytealg.IndexByteString"]:=by kernel_rfl
theorem jf_unfollowed:Tryz.prog.unfollowed 3=true:=by kernel_rfl
end Go.Proofs.YtoinimaobnbimaaGreatDoor
