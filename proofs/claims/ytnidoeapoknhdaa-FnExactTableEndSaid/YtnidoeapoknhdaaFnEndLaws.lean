/- The contracts of TableEnd as the law asks for them. -/
import Derived.Test.YtnidoeapoknhdaaFnTableEnd
import Derived.Test.YtnidoeapoknhdaaFnTableEndS
import Derived.Test.YtnidoeapoknhdaaWt
set_option linter.unusedSimpArgs false
set_option linter.unusedVariables false
namespace Go.Mux
open Go.RowKit
theorem tableEnd_wt (x : DTable) (n : Int) : (tableEnd x n).1.wtV ≤ 64 * x.bulk := by
  have h := DTable.wtV_le (tableEnd x n).1
  have h2 : (tableEnd x n).1.bulk ≤ x.bulk := by
    unfold tableEnd DTable.bulk
    split
    · split
      · exact Nat.le_refl _
      · simp only
        have := List.length_eraseIdx_le x.Live (procAtI x.Live n).toNat
        omega
    · simp
  omega
end Go.Mux
namespace Go.Proofs.Ytnidoeapoknhdaa
open Go.RowKit Go.Mux
theorem impl_TableEnd (w : World) (cs : List Value) (x : DTable) (n : Int) (h : Rep.rep w cs x) (_ : I64 n) (hsz : x.bulk ≤ 1048576) : Calls Try.prog 33 #[.agg cs.toArray, .int .i64 n] w (Gives w fun r w' => ∃ r0 r1, r = .tuple #[r0, r1] ∧ (∃ cs', r0 = .agg cs'.toArray ∧ Fresh w.heap.size w' cs' (tableEnd x n).1) ∧ r1 = .int .i64 (tableEnd x n).2) := by
  refine (impl_TableEnd' w cs x n h hsz).mono ?_
  rintro e w' ⟨v, rfl, ⟨cs', rfl, hF⟩, hb⟩
  exact ⟨_, rfl, ⟨_, _, rfl, ⟨cs', rfl, hF⟩, rfl⟩, hb⟩
theorem spec_TableEnd (w : World) (cs : List Value) (x : DTable) (n : Int) (h : Rep.rep w cs x) (_ : I64 n) (hsz : x.bulk ≤ 1048576) : Calls Try.prog 32 #[.agg cs.toArray, .int .i64 n] w (Gives w fun r w' => ∃ r0 r1, r = .tuple #[r0, r1] ∧ (∃ cs', r0 = .agg cs'.toArray ∧ Rep.rep w' cs' (tableEnd x n).1) ∧ r1 = .int .i64 (tableEnd x n).2) := by
  refine (spec_TableEnd' w cs x n h hsz).mono ?_
  rintro e w' ⟨v, rfl, ⟨cs', rfl, hF⟩, hb⟩
  exact ⟨_, rfl, ⟨_, _, rfl, ⟨cs', rfl, hF.rep⟩, rfl⟩, hb⟩
end Go.Proofs.Ytnidoeapoknhdaa
