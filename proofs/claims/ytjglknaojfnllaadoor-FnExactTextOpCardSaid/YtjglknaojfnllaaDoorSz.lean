/- How many places and letters a datum holds, as the laws' size functions count them; their walks. -/
import Derived.Test.YtjglknaojfnllaaDoorInts
set_option linter.unusedSimpArgs false
set_option linter.unusedVariables false
namespace Go.Mux
@[irreducible] def DOp.bulk (x : DOp) : Nat := x.Name.size + x.Text.size + x.Dir.size + x.Data.length
@[irreducible] def DStep.bulk (x : DStep) : Nat := x.Text.size + x.Data.length + x.Cuts.length
end Go.Mux
namespace Go.Proofs.YtjglknaojfnllaaDoor
open Go.RowKit Go.Mux
theorem sum_take_le {α : Type} (f : α → Nat) (l : List α) (k : Nat) : ((l.take k).map f).sum ≤ (l.map f).sum := by
  rw [show (l.map f).sum = ((l.take k ++ l.drop k).map f).sum by rw [List.take_append_drop], List.map_append, List.sum_append]
  omega
theorem sum_take_succ {α : Type} (f : α → Nat) (l : List α) (k : Nat) (x : α) (hx : l[k]? = some x) : ((l.take (k + 1)).map f).sum = ((l.take k).map f).sum + f x := by
  rw [List.take_add_one, hx, List.map_append, List.sum_append]
  simp
theorem size_implOp : (Tryd.prog.info? 32).map (·.size) = some 8 := by kernel_rfl
theorem size_implStep : (Tryd.prog.info? 25).map (·.size) = some 6 := by kernel_rfl
end Go.Proofs.YtjglknaojfnllaaDoor
