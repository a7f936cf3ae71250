/- The contracts of TableDown and TableEnd as the laws ask for them. -/
import Derived.Test.YtnidoeapoknhdaaFnTableDown
import Derived.Test.YtnidoeapoknhdaaWt
set_option linter.unusedSimpArgs false
set_option linter.unusedVariables false
namespace Go.Mux
open Go.RowKit
theorem tableDown_wt (x : DTable) : (tableDown x).wtV ≤ 64 * x.bulk := by
  have h := DTable.wtV_le (tableDown x)
  have h2 : (tableDown x).bulk ≤ x.bulk := by
    unfold tableDown DTable.bulk
    split <;> simp
  omega
/-- New memory is memory that reads. -/
theorem rep_of_fresh {α : Type} [Rep α] {w : World} {x : α} : ∀ e w', Gives w (fun r w' => ∃ cs', r = .agg cs'.toArray ∧ Fresh w.heap.size w' cs' x) e w' → Gives w (fun r w' => ∃ cs', r = .agg cs'.toArray ∧ Rep.rep w' cs' x) e w' := by
  rintro e w' ⟨v, rfl, ⟨cs, hv, hF⟩, hb⟩
  exact ⟨v, rfl, ⟨cs, hv, hF.rep⟩, hb⟩
end Go.Mux
namespace Go.Proofs.Ytnidoeapoknhdaa
open Go.RowKit Go.Mux
theorem impl_TableDown (w : World) (cs : List Value) (x : DTable) (h : Rep.rep w cs x) (hsz : x.bulk ≤ 1048576) : Calls Try.prog 29 #[.agg cs.toArray] w (Gives w fun r w' => ∃ cs', r = .agg cs'.toArray ∧ Fresh w.heap.size w' cs' (tableDown x)) := impl_TableDown' w cs x h hsz
theorem spec_TableDown (w : World) (cs : List Value) (x : DTable) (h : Rep.rep w cs x) (hsz : x.bulk ≤ 1048576) : Calls Try.prog 28 #[.agg cs.toArray] w (Gives w fun r w' => ∃ cs', r = .agg cs'.toArray ∧ Rep.rep w' cs' (tableDown x)) := (spec_TableDown' w cs x h hsz).mono rep_of_fresh
end Go.Proofs.Ytnidoeapoknhdaa
