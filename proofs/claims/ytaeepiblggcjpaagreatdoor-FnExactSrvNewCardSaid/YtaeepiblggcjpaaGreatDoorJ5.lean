/- The law of SrvNew: part JF5. -/
import Derived.Test.YtaeepiblggcjpaaGreatDoorJ4
set_option linter.unusedSimpArgs false
set_option linter.unusedVariables false
set_option linter.constructorNameAsVariable false
namespace Go.Proofs.YtaeepiblggcjpaaGreatDoor
theorem closed_L:joinedFacts Tryz.prog 4 Tryz.f4 (OpenSpec.ofChange Rows.fnExactSrvNewSpec).bare Rows.fnExactSrvNewRow=true:=by
 unfold joinedFacts
 rw[jf_inPlace,jf_unfollowed,jf_recurses,jf_named,jf_maps,jf_laid,jf_loops,jf_keys,jf_heard,jf_enter]
 kernel_rfl
end Go.Proofs.YtaeepiblggcjpaaGreatDoor
