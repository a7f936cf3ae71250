/- The law of Report: part JF2. -/
import Derived.Test.YtegmckcdakndaaaGreatDoorJ1
set_option linter.unusedSimpArgs false
set_option linter.unusedVariables false
set_option linter.constructorNameAsVariable false
namespace Go.Proofs.YtegmckcdakndaaaGreatDoor
theorem jf_recurses:Tryz.prog.recurses 3=true:=by kernel_rfl
theorem jf_named:Tryz.prog.varsNamed 3=["internal/strconv.uint64pow10","math/bits.deBruijn32tab","math/bits.deBruijn64tab"]:=by kernel_rfl
end Go.Proofs.YtegmckcdakndaaaGreatDoor
