/- The law of Picture: part JF5. -/
import Derived.Test.YtoinimaobnbimaaGreatDoorJ4
set_option linter.unusedSimpArgs false
set_option linter.unusedVariables false
set_option linter.constructorNameAsVariable false
namespace Go.Proofs.YtoinimaobnbimaaGreatDoor
theorem closed_Picture:joinedFacts Tryz.prog 3 Tryz.f3 (OpenSpec.ofChange Rows.fnExactPictureSpec).bare Rows.fnExactPictureRow=true:=by
 unfold joinedFacts
 rw[jf_inPlace,jf_unfollowed,jf_recurses,jf_named,jf_maps,jf_laid,jf_loops,jf_keys,jf_heard,jf_enter]
 kernel_rfl
end Go.Proofs.YtoinimaobnbimaaGreatDoor
