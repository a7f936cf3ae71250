/- The contracts of Look as the law asks for them. -/
import Derived.Test.YtaobgfneeijpmaaFnLookV
import Derived.Test.YtaobgfneeijpmaaWt
set_option linter.unusedSimpArgs false
set_option linter.unusedVariables false
namespace Go.Mux
open Go.RowKit
theorem lookG_wt (x : DScr) (n : Int) : (lookG x n).wtV ≤ 64 * 4000 := by
  have h := DGrid.wtV_le (lookG x n)
  have h2 : (lookG x n).bulk ≤ 4000 := by
    unfold DGrid.bulk
    cases hg : scrOkB x
    · rw [look_no hg]; simp
    · have q := scrOkB_true hg
      obtain ⟨_, _, _, _, _, m6, m7⟩ := gridOkB_size q.2.2.2.2.1
      obtain ⟨_, _, _, _, _, n6, n7⟩ := gridOkB_size q.2.2.2.2.2.1
      obtain ⟨e1, e2, _, _⟩ := scrSize_true q.2.2.2.2.2.2.1
      cases hs : (x.OnAlt || decide (n ≤ 0))
      · rw [look_back hg hs]
        unfold lookBack
        show (List.take _ _).length ≤ 4000
        rw [List.length_take]
        rw [e1, e2] at m6
        have hW : 0 ≤ x.W := by have := q; omega
        have hH : 0 ≤ x.H := by have := q; omega
        have : ((x.W.toNat * x.H.toNat : Nat) : Int) = x.W * x.H := by rw [Int.natCast_mul, Int.toNat_of_nonneg hW, Int.toNat_of_nonneg hH]
        omega
      · rw [look_shown hg hs]
        unfold shownG
        split <;> omega
  omega
end Go.Mux
namespace Go.Proofs.Ytaobgfneeijpmaa
open Go.RowKit Go.Mux
theorem impl_Look (w : World) (cs : List Value) (x : DScr) (n : Int) (h : Rep.rep w cs x) (hn : I64 n) : Calls Try.prog 7 #[.agg cs.toArray, .int .i64 n] w (Gives w fun r w' => ∃ cs', r = .agg cs'.toArray ∧ Fresh w.heap.size w' cs' (lookG x n)) := by
  clear hn
  exact impl_Look' w cs x n h
theorem spec_Look (w : World) (cs : List Value) (x : DScr) (n : Int) (h : Rep.rep w cs x) (hn : I64 n) : Calls Try.prog 12 #[.agg cs.toArray, .int .i64 n] w (Gives w fun r w' => ∃ cs', r = .agg cs'.toArray ∧ Rep.rep w' cs' (lookG x n)) := by
  clear hn
  exact spec_Look' w cs x n h
end Go.Proofs.Ytaobgfneeijpmaa
