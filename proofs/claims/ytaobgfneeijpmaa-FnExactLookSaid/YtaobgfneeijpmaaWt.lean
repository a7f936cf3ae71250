/- There are at most 64 times as many marks as places and letters. -/
import Derived.Test.YtaobgfneeijpmaaHeld
import Derived.Test.YtaobgfneeijpmaaSz
set_option linter.unusedSimpArgs false
set_option linter.unusedVariables false
namespace Go.Mux
theorem sum_wt_le {α : Type} {f g : α → Nat} (h : ∀ x, f x ≤ 64 * (1 + g x)) (l : List α) : (l.map f).sum ≤ 64 * (l.length + (l.map g).sum) := by
  induction l with
  | nil => simp
  | cons x l ih => simp only [List.map_cons, List.sum_cons, List.length_cons]; have := h x; omega
theorem sum_wt_flat {α : Type} {f : α → Nat} (h : ∀ x, f x ≤ 64) (l : List α) : (l.map f).sum ≤ 64 * l.length := by
  induction l with
  | nil => simp
  | cons x l ih => simp only [List.map_cons, List.sum_cons, List.length_cons]; have := h x; omega
theorem DAttr.wt_le (x : DAttr) : x.wt ≤ 64 := by unfold DAttr.wt; omega
theorem DCell.wt_le (x : DCell) : x.wt ≤ 64 := by unfold DCell.wt; omega
theorem DGrid.wt_le (x : DGrid) : x.wt ≤ 64 * (1 + x.bulk) := by
  have h0 := sum_wt_flat DCell.wt_le x.Cells
  unfold DGrid.wt DGrid.bulk
  omega
theorem DRow.wt_le (x : DRow) : x.wt ≤ 64 * (1 + x.bulk) := by
  have h0 := sum_wt_flat DCell.wt_le x.Cells
  unfold DRow.wt DRow.bulk
  omega
theorem DScr.wt_le (x : DScr) : x.wt ≤ 64 * (1 + x.bulk) := by
  have h0 := sum_wt_flat DCell.wt_le x.Main.Cells
  have h1 := sum_wt_flat DCell.wt_le x.Alt.Cells
  have h3 := sum_wt_le DRow.wt_le x.Back
  unfold DScr.wt DScr.bulk DGrid.bulk
  omega
theorem DGrid.wtV_le (x : DGrid) : x.wtV ≤ 64 * x.bulk := by
  have h0 := sum_wt_flat DCell.wt_le x.Cells
  unfold DGrid.wtV DGrid.bulk
  omega
theorem DRow.wtV_le (x : DRow) : x.wtV ≤ 64 * x.bulk := by
  have h0 := sum_wt_flat DCell.wt_le x.Cells
  unfold DRow.wtV DRow.bulk
  omega
theorem DScr.wtV_le (x : DScr) : x.wtV ≤ 64 * x.bulk := by
  have h0 := DGrid.wtV_le x.Main
  have h1 := DGrid.wtV_le x.Alt
  have h3 := sum_wt_le DRow.wt_le x.Back
  unfold DScr.wtV DScr.bulk
  omega
end Go.Mux
