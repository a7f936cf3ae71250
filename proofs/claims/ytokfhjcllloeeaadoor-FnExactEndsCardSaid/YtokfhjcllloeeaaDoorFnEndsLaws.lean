/- The contracts of Ends as the law asks for them. -/
import Derived.Test.YtokfhjcllloeeaaDoorFnEnds
namespace Go.Mux
open Go.RowKit
theorem ends_wt (x : DView) : (ends x).length ≤ 64 := by
  unfold ends
  split
  · have h := viewEnds_size x
    have e : (viewEnds x).data.toList.length = (viewEnds x).size := Array.length_toList
    omega
  · simp
end Go.Mux
namespace Go.Proofs.YtokfhjcllloeeaaDoor
open Go.RowKit Go.Mux
theorem impl_Ends (w : World) (cs : List Value) (x : DView) (h : Rep.rep w cs x) (ht : Tab Tryd.prog w) : Calls Tryd.prog 12 #[.agg cs.toArray] w (Gives w fun r w' => FreshS w.heap.size w' r (ends x)) := impl_Ends' w cs x h ht
theorem spec_Ends (w : World) (cs : List Value) (x : DView) (h : Rep.rep w cs x) : Calls Tryd.prog 10 #[.agg cs.toArray] w (Gives w fun r w' => RepS w' r (ends x)) := by
  refine (spec_Ends' w cs x h).mono ?_
  rintro e w' ⟨v, rfl, hF, hb⟩
  exact ⟨v, rfl, hF.repS, hb⟩
end Go.Proofs.YtokfhjcllloeeaaDoor
