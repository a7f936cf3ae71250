/- The contracts of Repaint as the law asks for them. -/
import Derived.Test.YtlkadeaomjoiiaaDoorFnRepI
import Derived.Test.YtlkadeaomjoiiaaDoorFnRepS
set_option linter.unusedSimpArgs false
set_option linter.unusedVariables false
namespace Go.Proofs.YtlkadeaomjoiiaaDoor
open Go.RowKit Go.Mux
theorem impl_Repaint (w : World) (cs : List Value) (x : DView) (ds : List Value) (y : DView) (h : Rep.rep w cs x) (h2 : Rep.rep w ds y) (ht : Tab Tryd.prog w) : Calls Tryd.prog 17 #[.agg cs.toArray, .agg ds.toArray] w (Gives w fun r w' => ∃ r0 r1, r = .tuple #[r0, r1] ∧ FreshS w.heap.size w' r0 (repaint x y).1 ∧ r1 = .bool (repaint x y).2) := impl_Repaint' w cs x ds y h h2 ht
theorem spec_Repaint (w : World) (cs : List Value) (x : DView) (ds : List Value) (y : DView) (h : Rep.rep w cs x) (h2 : Rep.rep w ds y) : Calls Tryd.prog 16 #[.agg cs.toArray, .agg ds.toArray] w (Gives w fun r w' => ∃ r0 r1, r = .tuple #[r0, r1] ∧ RepS w' r0 (repaint x y).1 ∧ r1 = .bool (repaint x y).2) := by
  refine (spec_Repaint' w cs x ds y h h2).mono ?_
  rintro e w' ⟨v, rfl, ⟨r0, r1, rfl, hF, rfl⟩, hb⟩
  exact ⟨_, rfl, ⟨r0, _, rfl, hF.repS, rfl⟩, hb⟩
end Go.Proofs.YtlkadeaomjoiiaaDoor
