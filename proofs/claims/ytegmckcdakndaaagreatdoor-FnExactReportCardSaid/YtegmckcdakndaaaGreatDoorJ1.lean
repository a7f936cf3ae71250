/- The law of Report: part JF1. -/
import Derived.Test.YtegmckcdakndaaaGreatDoorRows
import Derived.JoinedCond
import Derived.ProofKit
set_option linter.unusedSimpArgs false
set_option linter.unusedVariables false
set_option linter.constructorNameAsVariable false
namespace Go.Proofs.YtegmckcdakndaaaGreatDoor
theorem jf_inPlace:Tryz.prog.inPlace 3=["internal/bytealg.IndexByteString","internal/bytealg.abigen_runtime_cmpstring","slices.overlaps[loop.example/g00661/impl.Link]","internal/abi.NoEscape","internal/bytealg.MakeNoZero"]:=by kernel_rfl
theorem jf_unfollowed:Tryz.prog.unfollowed 3=true:=by kernel_rfl
end Go.Proofs.YtegmckcdakndaaaGreatDoor
