/- The contracts of Keep as the law asks for them. -/
import Derived.Test.YtnidoeapoknhdaaFnKeep
import Derived.Test.YtnidoeapoknhdaaWt
set_option linter.unusedSimpArgs false
set_option linter.unusedVariables false
namespace Go.Mux
open Go.RowKit
theorem keep_wt (l : List DHist) (n : Int) : ((keep l n).map DHist.wt).sum ≤ 64 * (l.length + (l.map DHist.bulk).sum) := by
  have h := sum_wt_le DHist.wt_le (keep l n)
  have h2 := keep_bulk l n
  omega
end Go.Mux
namespace Go.Proofs.Ytnidoeapoknhdaa
open Go.RowKit Go.Mux
theorem impl_Keep (w : World) (v : Value) (l : List DHist) (n : Int) (h : RepS w v l) (hn : I64 n) (hsz : l.length + (l.map DHist.bulk).sum ≤ 1048576) : Calls Try.prog 25 #[v, .int .i64 n] w (Gives w fun r w' => FreshS w.heap.size w' r (keep l n)) := impl_Keep' w v l n h hn hsz
theorem spec_Keep (w : World) (v : Value) (l : List DHist) (n : Int) (h : RepS w v l) (hn : I64 n) (hsz : l.length + (l.map DHist.bulk).sum ≤ 1048576) : Calls Try.prog 24 #[v, .int .i64 n] w (Gives w fun r w' => RepS w' r (keep l n)) := by
  refine (spec_Keep' w v l n h hn hsz).mono ?_
  rintro e w' ⟨v, rfl, hF, hb⟩
  exact ⟨v, rfl, hF.repS, hb⟩
end Go.Proofs.Ytnidoeapoknhdaa
