/- The walks of the laws' copying functions: a value of the program's type in new memory, which reads as the argument. -/
import Derived.Test.YtjglknaojfnllaaDoorSz
import Derived.Test.YtjglknaojfnllaaDoorBig
set_option linter.unusedSimpArgs false
set_option linter.unusedVariables false
namespace Go.Proofs.YtjglknaojfnllaaDoor
open Go.RowKit Go.Mux
theorem bulk_le {α : Type} (f : α → Nat) (l : List α) (k : Nat) (x : α) (hx : l[k]? = some x) : f x ≤ (l.map f).sum := by
  have := sum_take_succ f l k x hx
  have := sum_take_le f l (k + 1)
  omega
end Go.Proofs.YtjglknaojfnllaaDoor
