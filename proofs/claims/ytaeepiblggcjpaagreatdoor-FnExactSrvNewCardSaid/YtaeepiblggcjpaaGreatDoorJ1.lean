/- The law of SrvNew: part JF1. -/
import Derived.Test.YtaeepiblggcjpaaGreatDoorRows
import Derived.JoinedCond
import Derived.ProofKit
set_option linter.unusedSimpArgs false
set_option linter.unusedVariables false
set_option linter.constructorNameAsVariable false
namespace Go.Proofs.YtaeepiblggcjpaaGreatDoor
theorem jf_inPlace:Tryz.prog.inPlace 4=["internal/bytealg.IndexByteString","internal/bytealg.abigen_runtime_cmpstring","slices.overlaps[loop.example/g00661/impl.Link]"]:=by kernel_rfl
theorem jf_unfollowed:Tryz.prog.unfollowed 4=true:=by kernel_rfl
end Go.Proofs.YtaeepiblggcjpaaGreatDoor
