/- The contracts of StepText as the law asks for them. -/
import Derived.Test.YtlkadeaomjoiiaaDoorFnStepI
import Derived.Test.YtlkadeaomjoiiaaDoorFnStepS
set_option linter.unusedSimpArgs false
set_option linter.unusedVariables false
namespace Go.Proofs.YtlkadeaomjoiiaaDoor
open Go.RowKit Go.Mux
theorem impl_StepText (w : World) (cs : List Value) (x : DStep) (h : Rep.rep w cs x) (ht : Tab Tryd.prog w) (hsz : x.bulk ≤ 1048576) : Calls Tryd.prog 21 #[.agg cs.toArray] w (Gives w fun r _ => r = .string (stepText x)) := impl_StepText' w cs x h hsz ht
theorem spec_StepText (w : World) (cs : List Value) (x : DStep) (h : Rep.rep w cs x) (hsz : x.bulk ≤ 1048576) : Calls Tryd.prog 19 #[.agg cs.toArray] w (Gives w fun r _ => r = .string (stepText x)) := spec_StepText' w cs x h hsz
end Go.Proofs.YtlkadeaomjoiiaaDoor
