/- The law of Status: part JF5. -/
import Derived.Test.YthjkndcfihodgaaGreatDoorJ4
set_option linter.unusedSimpArgs false
set_option linter.unusedVariables false
set_option linter.constructorNameAsVariable false
namespace Go.Proofs.YthjkndcfihodgaaGreatDoor
theorem closed_Status : joinedFacts Tryz.prog 3 Tryz.f3 (OpenSpec.ofChange Rows.fnExactStatusSpec).bare Rows.fnExactStatusRow = true := by
  unfold joinedFacts
  rw [jf_inPlace, jf_unfollowed, jf_recurses, jf_named, jf_maps, jf_laid, jf_loops, jf_keys, jf_heard, jf_enter]
  kernel_rfl
end Go.Proofs.YthjkndcfihodgaaGreatDoor
