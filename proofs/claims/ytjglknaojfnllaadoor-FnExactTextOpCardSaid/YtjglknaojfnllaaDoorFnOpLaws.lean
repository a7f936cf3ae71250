/- The contracts of OpText as the law asks for them. -/
import Derived.Test.YtjglknaojfnllaaDoorFnOpTextI
import Derived.Test.YtjglknaojfnllaaDoorFnOpTextS
set_option linter.unusedSimpArgs false
set_option linter.unusedVariables false
namespace Go.Proofs.YtjglknaojfnllaaDoor
open Go.RowKit Go.Mux
theorem impl_OpText (w : World) (cs : List Value) (x : DOp) (h : Rep.rep w cs x) (ht : Tab Tryd.prog w) (hsz : x.bulk ≤ 1048576) : Calls Tryd.prog 33 #[.agg cs.toArray] w (Gives w fun r _ => r = .string (opText x)) := impl_OpText' w cs x h hsz ht
theorem spec_OpText (w : World) (cs : List Value) (x : DOp) (h : Rep.rep w cs x) (hsz : x.bulk ≤ 1048576) : Calls Tryd.prog 30 #[.agg cs.toArray] w (Gives w fun r _ => r = .string (opText x)) := spec_OpText' w cs x h hsz
end Go.Proofs.YtjglknaojfnllaaDoor
