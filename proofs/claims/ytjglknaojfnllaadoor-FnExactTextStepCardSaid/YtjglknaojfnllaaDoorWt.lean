/- There are at most 64 times as many marks as places and letters. -/
import Derived.Test.YtjglknaojfnllaaDoorHeld
import Derived.Test.YtjglknaojfnllaaDoorSz
set_option linter.unusedSimpArgs false
set_option linter.unusedVariables false
namespace Go.Mux
theorem sum_wt_le {α : Type} {f g : α → Nat} (h : ∀ x, f x ≤ 64 * (1 + g x)) (l : List α) : (l.map f).sum ≤ 64 * (l.length + (l.map g).sum) := by
  induction l with
  | nil => simp
  | cons x l ih => simp only [List.map_cons, List.sum_cons, List.length_cons]; have := h x; omega
theorem sum_wt_flat {α : Type} {f : α → Nat} (h : ∀ x, f x ≤ 64) (l : List α) : (l.map f).sum ≤ 64 * l.length := by
  induction l with
  | nil => simp
  | cons x l ih => simp only [List.map_cons, List.sum_cons, List.length_cons]; have := h x; omega
theorem DOp.wt_le (x : DOp) : x.wt ≤ 64 * (1 + x.bulk) := by
  unfold DOp.wt DOp.bulk
  omega
theorem DStep.wt_le (x : DStep) : x.wt ≤ 64 * (1 + x.bulk) := by
  unfold DStep.wt DStep.bulk
  omega
theorem DOp.wtV_le (x : DOp) : x.wtV ≤ 64 * x.bulk := by
  unfold DOp.wtV DOp.bulk
  omega
theorem DStep.wtV_le (x : DStep) : x.wtV ≤ 64 * x.bulk := by
  unfold DStep.wtV DStep.bulk
  omega
end Go.Mux
