/- The law of SrvNew: part JF2. -/
import Derived.Test.YtaeepiblggcjpaaGreatDoorJ1
set_option linter.unusedSimpArgs false
set_option linter.unusedVariables false
set_option linter.constructorNameAsVariable false
namespace Go.Proofs.YtaeepiblggcjpaaGreatDoor
theorem jf_recurses:Tryz.prog.recurses 4=true:=by kernel_rfl
theorem jf_named:Tryz.prog.varsNamed 4=["internal/strconv.uint64pow10","math/bits.deBruijn32tab","math/bits.deBruijn64tab"]:=by kernel_rfl
end Go.Proofs.YtaeepiblggcjpaaGreatDoor
