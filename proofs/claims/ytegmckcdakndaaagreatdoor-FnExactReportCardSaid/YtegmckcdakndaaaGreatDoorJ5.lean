/- The law of Report: part JF5. -/
import Derived.Test.YtegmckcdakndaaaGreatDoorJ4
set_option linter.unusedSimpArgs false
set_option linter.unusedVariables false
set_option linter.constructorNameAsVariable false
namespace Go.Proofs.YtegmckcdakndaaaGreatDoor
theorem closed_L:joinedFacts Tryz.prog 3 Tryz.f3 (OpenSpec.ofChange Rows.fnExactReportSpec).bare Rows.fnExactReportRow=true:=by
 unfold joinedFacts
 rw[jf_inPlace,jf_unfollowed,jf_recurses,jf_named,jf_maps,jf_laid,jf_loops,jf_keys,jf_heard,jf_enter]
 kernel_rfl
end Go.Proofs.YtegmckcdakndaaaGreatDoor
