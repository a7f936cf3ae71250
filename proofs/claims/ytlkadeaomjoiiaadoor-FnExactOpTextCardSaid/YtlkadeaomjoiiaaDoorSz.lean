/- How many places and letters a datum holds, as the laws' size functions count them; their walks. -/
import Derived.Test.YtlkadeaomjoiiaaDoorInts
set_option linter.unusedSimpArgs false
set_option linter.unusedVariables false
namespace Go.Mux
@[irreducible] def DGrid.bulk (x : DGrid) : Nat := x.Cells.length
@[irreducible] def DOp.bulk (x : DOp) : Nat := x.Name.size + x.Text.size + x.Dir.size + x.Data.length
@[irreducible] def DView.bulk (x : DView) : Nat := x.Grid.bulk
@[irreducible] def DStep.bulk (x : DStep) : Nat := x.Text.size + x.Data.length + x.Cuts.length
end Go.Mux
namespace Go.Proofs.YtlkadeaomjoiiaaDoor
open Go.RowKit Go.Mux
theorem sum_take_le {α : Type} (f : α → Nat) (l : List α) (k : Nat) : ((l.take k).map f).sum ≤ (l.map f).sum := by
  rw [show (l.map f).sum = ((l.take k ++ l.drop k).map f).sum by rw [List.take_append_drop], List.map_append, List.sum_append]
  omega
theorem sum_take_succ {α : Type} (f : α → Nat) (l : List α) (k : Nat) (x : α) (hx : l[k]? = some x) : ((l.take (k + 1)).map f).sum = ((l.take k).map f).sum + f x := by
  rw [List.take_add_one, hx, List.map_append, List.sum_append]
  simp
theorem size_lawsAttr : (Tryd.prog.info? 123).map (·.size) = some 5 := by kernel_rfl
theorem size_implAttr : (Tryd.prog.info? 64).map (·.size) = some 5 := by kernel_rfl
theorem size_lawsCell : (Tryd.prog.info? 125).map (·.size) = some 6 := by kernel_rfl
theorem size_implCell : (Tryd.prog.info? 66).map (·.size) = some 6 := by kernel_rfl
theorem size_lawsGrid : (Tryd.prog.info? 24).map (·.size) = some 3 := by kernel_rfl
theorem size_implGrid : (Tryd.prog.info? 32).map (·.size) = some 3 := by kernel_rfl
theorem size_lawsOp : (Tryd.prog.info? 54).map (·.size) = some 8 := by kernel_rfl
theorem size_implOp : (Tryd.prog.info? 57).map (·.size) = some 8 := by kernel_rfl
theorem size_lawsView : (Tryd.prog.info? 26).map (·.size) = some 6 := by kernel_rfl
theorem size_implView : (Tryd.prog.info? 34).map (·.size) = some 6 := by kernel_rfl
theorem size_lawsStep : (Tryd.prog.info? 46).map (·.size) = some 6 := by kernel_rfl
theorem size_implStep : (Tryd.prog.info? 49).map (·.size) = some 6 := by kernel_rfl
set_option maxHeartbeats 400000 in
theorem szCellS_any (w : World) (v : Value) (l : List DCell) (left : Int) (h : RepS w v l) (g0 : 0 ≤ left) (g1 : left ≤ 1048576) :
    Calls Tryd.prog 62 #[v, .int .i64 left] w (GivesLeft w left l.length) := by
  obtain ⟨a, cap, rfl, hl, -⟩ := h
  go_enter Tryd.func62, Tryd.ntmps62
  go_wp2
  all_goals go_ret
  · exact ⟨_, rfl, ⟨_, rfl, .inl ⟨rfl, by omega⟩⟩, Below.refl _ _⟩
  · exact ⟨_, rfl, ⟨_, rfl, .inr ⟨rfl, by omega⟩⟩, Below.refl _ _⟩
set_option maxRecDepth 100000 in
set_option maxHeartbeats 1000000 in
theorem szGrid_any (w : World) (cs : List Value) (x : DGrid) (left : Int) (h : Rep.rep w cs x) (g0 : 0 ≤ left) (g1 : left ≤ 1048576) :
    Calls Tryd.prog 28 #[.agg cs.toArray, .int .i64 left] w (GivesLeft w left x.bulk) := by
  obtain ⟨v0, rfl, h0, h1, h2⟩ := DGrid.rep_iff.1 h
  clear h
  unfold DGrid.bulk
  have Hh2 := Lib.hid h2
  clear h2
  go_enter Tryd.func28, Tryd.ntmps28
  go_wp2_with (first | (go_at_call 62; refine (szCellS_any _ v0 x.Cells _ (Hh2.out.mono (by repeat (first | (with_reducible exact Below.refl _ _) | (with_reducible assumption) | (with_reducible refine bel_alloc ?_ _) | ((with_reducible refine bel_set ?_ ?_ _); rotate_left; (focus first | (simp; done) | (simp; omega)))))) (by omega) (by omega)).mono ?_; rintro e W1 ⟨_, rfl, ⟨r, rfl, hr⟩, hb⟩; have hB : Below w.heap.size w W1 := bel_next (by repeat (first | (with_reducible exact Below.refl _ _) | (with_reducible assumption) | (with_reducible refine bel_alloc ?_ _) | ((with_reducible refine bel_set ?_ ?_ _); rotate_left; (focus first | (simp; done) | (simp; omega))))) hb; have hc := bel_cell hb; clear hb; rcases hr with ⟨rfl, hlt⟩ | ⟨rfl, hge⟩))
  all_goals go_ret
  all_goals first
    | exact ⟨_, rfl, ⟨_, rfl, .inl ⟨rfl, by omega⟩⟩, (by repeat (first | (with_reducible exact Below.refl _ _) | (with_reducible assumption) | (with_reducible refine bel_alloc ?_ _) | ((with_reducible refine bel_set ?_ ?_ _); rotate_left; (focus first | (simp; done) | (simp; omega)))))⟩
    | exact ⟨_, rfl, ⟨_, rfl, .inr ⟨by omega, by omega⟩⟩, (by repeat (first | (with_reducible exact Below.refl _ _) | (with_reducible assumption) | (with_reducible refine bel_alloc ?_ _) | ((with_reducible refine bel_set ?_ ?_ _); rotate_left; (focus first | (simp; done) | (simp; omega)))))⟩
set_option maxRecDepth 100000 in
set_option maxHeartbeats 1000000 in
theorem szOp_any (w : World) (cs : List Value) (x : DOp) (left : Int) (h : Rep.rep w cs x) (g0 : 0 ≤ left) (g1 : left ≤ 1048576) :
    Calls Tryd.prog 23 #[.agg cs.toArray, .int .i64 left] w (GivesLeft w left x.bulk) := by
  obtain ⟨v0, rfl, h0, h1, h2, h3, h4, h5, h6, h7⟩ := DOp.rep_iff.1 h
  clear h
  unfold DOp.bulk
  have Hh7 := Lib.hid h7
  clear h7
  go_enter Tryd.func23, Tryd.ntmps23
  go_wp2_with (first | (go_at_call 41; refine (szByteS_any _ v0 x.Data _ (Hh7.out.mono (by repeat (first | (with_reducible exact Below.refl _ _) | (with_reducible assumption) | (with_reducible refine bel_alloc ?_ _) | ((with_reducible refine bel_set ?_ ?_ _); rotate_left; (focus first | (simp; done) | (simp; omega)))))) (by omega) (by omega)).mono ?_; rintro e W1 ⟨_, rfl, ⟨r, rfl, hr⟩, hb⟩; have hB : Below w.heap.size w W1 := bel_next (by repeat (first | (with_reducible exact Below.refl _ _) | (with_reducible assumption) | (with_reducible refine bel_alloc ?_ _) | ((with_reducible refine bel_set ?_ ?_ _); rotate_left; (focus first | (simp; done) | (simp; omega))))) hb; have hc := bel_cell hb; clear hb; rcases hr with ⟨rfl, hlt⟩ | ⟨rfl, hge⟩))
  all_goals go_ret
  all_goals first
    | exact ⟨_, rfl, ⟨_, rfl, .inl ⟨rfl, by omega⟩⟩, (by repeat (first | (with_reducible exact Below.refl _ _) | (with_reducible assumption) | (with_reducible refine bel_alloc ?_ _) | ((with_reducible refine bel_set ?_ ?_ _); rotate_left; (focus first | (simp; done) | (simp; omega)))))⟩
    | exact ⟨_, rfl, ⟨_, rfl, .inr ⟨by omega, by omega⟩⟩, (by repeat (first | (with_reducible exact Below.refl _ _) | (with_reducible assumption) | (with_reducible refine bel_alloc ?_ _) | ((with_reducible refine bel_set ?_ ?_ _); rotate_left; (focus first | (simp; done) | (simp; omega)))))⟩
set_option maxRecDepth 100000 in
set_option maxHeartbeats 1000000 in
theorem szView_any (w : World) (cs : List Value) (x : DView) (left : Int) (h : Rep.rep w cs x) (g0 : 0 ≤ left) (g1 : left ≤ 1048576) :
    Calls Tryd.prog 7 #[.agg cs.toArray, .int .i64 left] w (GivesLeft w left x.bulk) := by
  obtain ⟨v0, rfl, h0, h1, h2, h3, h4⟩ := DView.rep_iff.1 h
  clear h
  unfold DView.bulk
  have Hh2 := Lib.hid h2
  clear h2
  go_enter Tryd.func7, Tryd.ntmps7
  go_wp2_with (first | (go_at_call 28; refine (szGrid_any _ [_, _, _] x.Grid _ (DGrid.rep_iff.2 ⟨v0, rfl, h0, h1, (Hh2.out.mono (by repeat (first | (with_reducible exact Below.refl _ _) | (with_reducible assumption) | (with_reducible refine bel_alloc ?_ _) | ((with_reducible refine bel_set ?_ ?_ _); rotate_left; (focus first | (simp; done) | (simp; omega))))))⟩) (by omega) (by omega)).mono ?_; rintro e W1 ⟨_, rfl, ⟨r, rfl, hr⟩, hb⟩; have hB : Below w.heap.size w W1 := bel_next (by repeat (first | (with_reducible exact Below.refl _ _) | (with_reducible assumption) | (with_reducible refine bel_alloc ?_ _) | ((with_reducible refine bel_set ?_ ?_ _); rotate_left; (focus first | (simp; done) | (simp; omega))))) hb; have hc := bel_cell hb; clear hb; rcases hr with ⟨rfl, hlt⟩ | ⟨rfl, hge⟩))
  all_goals go_ret
  all_goals first
    | exact ⟨_, rfl, ⟨_, rfl, .inl ⟨rfl, by omega⟩⟩, (by repeat (first | (with_reducible exact Below.refl _ _) | (with_reducible assumption) | (with_reducible refine bel_alloc ?_ _) | ((with_reducible refine bel_set ?_ ?_ _); rotate_left; (focus first | (simp; done) | (simp; omega)))))⟩
    | exact ⟨_, rfl, ⟨_, rfl, .inr ⟨by omega, by omega⟩⟩, (by repeat (first | (with_reducible exact Below.refl _ _) | (with_reducible assumption) | (with_reducible refine bel_alloc ?_ _) | ((with_reducible refine bel_set ?_ ?_ _); rotate_left; (focus first | (simp; done) | (simp; omega)))))⟩
set_option maxRecDepth 100000 in
set_option maxHeartbeats 1000000 in
theorem szStep_any (w : World) (cs : List Value) (x : DStep) (left : Int) (h : Rep.rep w cs x) (g0 : 0 ≤ left) (g1 : left ≤ 1048576) :
    Calls Tryd.prog 18 #[.agg cs.toArray, .int .i64 left] w (GivesLeft w left x.bulk) := by
  obtain ⟨v0, v1, rfl, h0, h1, h2, h3, h4, h5⟩ := DStep.rep_iff.1 h
  clear h
  unfold DStep.bulk
  have Hh4 := Lib.hid h4
  clear h4
  have Hh5 := Lib.hid h5
  clear h5
  go_enter Tryd.func18, Tryd.ntmps18
  go_wp2_with (first | (go_at_call 41; refine (szByteS_any _ v0 x.Data _ (Hh4.out.mono (by repeat (first | (with_reducible exact Below.refl _ _) | (with_reducible assumption) | (with_reducible refine bel_alloc ?_ _) | ((with_reducible refine bel_set ?_ ?_ _); rotate_left; (focus first | (simp; done) | (simp; omega)))))) (by omega) (by omega)).mono ?_; rintro e W1 ⟨_, rfl, ⟨r, rfl, hr⟩, hb⟩; have hB : Below w.heap.size w W1 := bel_next (by repeat (first | (with_reducible exact Below.refl _ _) | (with_reducible assumption) | (with_reducible refine bel_alloc ?_ _) | ((with_reducible refine bel_set ?_ ?_ _); rotate_left; (focus first | (simp; done) | (simp; omega))))) hb; have hc := bel_cell hb; clear hb; rcases hr with ⟨rfl, hlt⟩ | ⟨rfl, hge⟩) | (go_at_call 42; refine (szIntS_any _ v1 x.Cuts _ (Hh5.out.mono (by repeat (first | (with_reducible exact Below.refl _ _) | (with_reducible assumption) | (with_reducible refine bel_alloc ?_ _) | ((with_reducible refine bel_set ?_ ?_ _); rotate_left; (focus first | (simp; done) | (simp; omega)))))) (by omega) (by omega)).mono ?_; rintro e W1 ⟨_, rfl, ⟨r, rfl, hr⟩, hb⟩; have hB : Below w.heap.size w W1 := bel_next (by repeat (first | (with_reducible exact Below.refl _ _) | (with_reducible assumption) | (with_reducible refine bel_alloc ?_ _) | ((with_reducible refine bel_set ?_ ?_ _); rotate_left; (focus first | (simp; done) | (simp; omega))))) hb; have hc := bel_cell hb; clear hb; rcases hr with ⟨rfl, hlt⟩ | ⟨rfl, hge⟩))
  all_goals go_ret
  all_goals first
    | exact ⟨_, rfl, ⟨_, rfl, .inl ⟨rfl, by omega⟩⟩, (by repeat (first | (with_reducible exact Below.refl _ _) | (with_reducible assumption) | (with_reducible refine bel_alloc ?_ _) | ((with_reducible refine bel_set ?_ ?_ _); rotate_left; (focus first | (simp; done) | (simp; omega)))))⟩
    | exact ⟨_, rfl, ⟨_, rfl, .inr ⟨by omega, by omega⟩⟩, (by repeat (first | (with_reducible exact Below.refl _ _) | (with_reducible assumption) | (with_reducible refine bel_alloc ?_ _) | ((with_reducible refine bel_set ?_ ?_ _); rotate_left; (focus first | (simp; done) | (simp; omega)))))⟩
end Go.Proofs.YtlkadeaomjoiiaaDoor
