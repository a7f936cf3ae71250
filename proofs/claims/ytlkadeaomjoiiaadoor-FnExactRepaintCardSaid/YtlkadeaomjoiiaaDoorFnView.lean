/- The walks of ViewOk, the program's and the reference's. -/
import Derived.Test.YtlkadeaomjoiiaaDoorFnGrid
set_option linter.unusedSimpArgs false
set_option linter.unusedVariables false
namespace Go.Mux
open Go.RowKit
theorem gridOkB_size {g : DGrid} (h : gridOkB g = true) : 1 ≤ g.W ∧ g.W ≤ 120 ∧ 1 ≤ g.H ∧ g.H ≤ 120 ∧ 1 ≤ g.W * g.H ∧ g.W * g.H ≤ 4000 ∧ (g.Cells.length : Int) = g.W * g.H := by
  unfold gridOkB at h
  simp only [Bool.and_eq_true] at h
  obtain ⟨⟨h1, h2⟩, h3⟩ := h
  obtain ⟨a, b, c, d, e, f⟩ := isSizeB_true h1
  exact ⟨a, b, c, d, e, f, by simpa using h2⟩
theorem DView.grid {w : World} {v0 : Value} {x : DView} (h0 : I64 x.Grid.W) (h1 : I64 x.Grid.H) (h2 : RepS w v0 x.Grid.Cells) : Rep.rep w [.int .i64 x.Grid.W, .int .i64 x.Grid.H, v0] x.Grid := DGrid.rep_iff.2 ⟨v0, rfl, h0, h1, h2⟩
end Go.Mux
namespace Go.Proofs.YtlkadeaomjoiiaaDoor
open Go.RowKit Go.Mux
set_option maxHeartbeats 1000000 in
theorem spec_ViewOk (w : World) (cs : List Value) (x : DView) (h : Rep.rep w cs x) : Calls Tryd.prog 29 #[.agg cs.toArray] w (Says w (viewOk x)) := by
  obtain ⟨v0, rfl, h0, h1, h2, h3, h4⟩ := DView.rep_iff.1 h
  clear h
  have HR := Lib.hid (fun (W : World) (hb : Below w.heap.size w W) => DView.grid h0 h1 (h2.mono hb))
  obtain ⟨a, cap, rfl, hl, -⟩ := h2
  clear h0 h1 h3 h4
  cases hg : gridOkB x.Grid
  case false =>
    have HG := Lib.hid hg
    clear hg
    go_enter Tryd.func29, Tryd.ntmps29
    go_wp2_with (go_at_call 63; refine (spec_GridOk _ [_, _, _] x.Grid (HR.out _ (by repeat (first | (with_reducible exact Below.refl _ _) | (with_reducible assumption) | (with_reducible refine bel_alloc ?_ _) | ((with_reducible refine bel_set ?_ ?_ _); rotate_left; (focus first | (simp; done) | (simp; omega))))))).mono ?_; rintro e W1 ⟨_, rfl, rfl, hb⟩; rw [HG.out]; have HB := Lib.hid (bel_next (show Below w.heap.size w _ from (by repeat (first | (with_reducible exact Below.refl _ _) | (with_reducible assumption) | (with_reducible refine bel_alloc ?_ _) | ((with_reducible refine bel_set ?_ ?_ _); rotate_left; (focus first | (simp; done) | (simp; omega)))))) hb); clear hb)
    go_ret
    exact says_ret (by unfold viewOk; simp [HG.out]) HB.out
  case true =>
    obtain ⟨s1, s2, s3, s4, s5, s6, _⟩ := gridOkB_size hg
    have HG := Lib.hid hg
    clear hg
    go_enter Tryd.func29, Tryd.ntmps29
    go_wp2_with fail
    refine (spec_GridOk _ [_, _, _] x.Grid (HR.out _ (by repeat (first | (with_reducible exact Below.refl _ _) | (with_reducible assumption) | (with_reducible refine bel_alloc ?_ _) | ((with_reducible refine bel_set ?_ ?_ _); rotate_left; (focus first | (simp; done) | (simp; omega))))))).mono ?_
    rintro e W1 ⟨_, rfl, rfl, hb⟩
    rw [HG.out]
    have HB := Lib.hid (bel_next (show Below w.heap.size w _ from (by repeat (first | (with_reducible exact Below.refl _ _) | (with_reducible assumption) | (with_reducible refine bel_alloc ?_ _) | ((with_reducible refine bel_set ?_ ?_ _); rotate_left; (focus first | (simp; done) | (simp; omega)))))) hb)
    have hc := bel_cell hb
    clear hb
    go_wp2_with fail
    all_goals go_ret
    all_goals exact says_ret (by rw [Bool.eq_iff_iff]; simp [viewOk, gridHasB, withinB, HG.out, *] <;> omega) HB.out
set_option maxHeartbeats 1000000 in
theorem impl_ViewOk (w : World) (cs : List Value) (x : DView) (h : Rep.rep w cs x) : Calls Tryd.prog 34 #[.agg cs.toArray] w (Says w (viewOk x)) := by
  obtain ⟨v0, rfl, h0, h1, h2, h3, h4⟩ := DView.rep_iff.1 h
  clear h
  have HR := Lib.hid (fun (W : World) (hb : Below w.heap.size w W) => DView.grid h0 h1 (h2.mono hb))
  obtain ⟨a, cap, rfl, hl, -⟩ := h2
  clear h0 h1 h3 h4
  cases hg : gridOkB x.Grid
  case false =>
    have HG := Lib.hid hg
    clear hg
    go_enter Tryd.func34, Tryd.ntmps34
    go_wp2_with (go_at_call 68; refine (impl_GridOk _ [_, _, _] x.Grid (HR.out _ (by repeat (first | (with_reducible exact Below.refl _ _) | (with_reducible assumption) | (with_reducible refine bel_alloc ?_ _) | ((with_reducible refine bel_set ?_ ?_ _); rotate_left; (focus first | (simp; done) | (simp; omega))))))).mono ?_; rintro e W1 ⟨_, rfl, rfl, hb⟩; rw [HG.out]; have HB := Lib.hid (bel_next (show Below w.heap.size w _ from (by repeat (first | (with_reducible exact Below.refl _ _) | (with_reducible assumption) | (with_reducible refine bel_alloc ?_ _) | ((with_reducible refine bel_set ?_ ?_ _); rotate_left; (focus first | (simp; done) | (simp; omega)))))) hb); clear hb)
    go_ret
    exact says_ret (by unfold viewOk; simp [HG.out]) HB.out
  case true =>
    obtain ⟨s1, s2, s3, s4, s5, s6, _⟩ := gridOkB_size hg
    have HG := Lib.hid hg
    clear hg
    cases hh : gridHasB x.Grid x.X x.Y
    all_goals
      have HH := Lib.hid hh
      clear hh
      go_enter Tryd.func34, Tryd.ntmps34
      go_wp2_with fail
      refine (impl_GridOk _ [_, _, _] x.Grid (HR.out _ (by repeat (first | (with_reducible exact Below.refl _ _) | (with_reducible assumption) | (with_reducible refine bel_alloc ?_ _) | ((with_reducible refine bel_set ?_ ?_ _); rotate_left; (focus first | (simp; done) | (simp; omega))))))).mono ?_
      rintro e W1 ⟨_, rfl, rfl, hb⟩
      rw [HG.out]
      have HB := Lib.hid (bel_next (show Below w.heap.size w _ from (by repeat (first | (with_reducible exact Below.refl _ _) | (with_reducible assumption) | (with_reducible refine bel_alloc ?_ _) | ((with_reducible refine bel_set ?_ ?_ _); rotate_left; (focus first | (simp; done) | (simp; omega)))))) hb)
      have hc := bel_cell hb
      clear hb
      go_wp2_with fail
      refine (impl_Grid_has _ [_, _, _] x.Grid x.X x.Y (HR.out _ HB.out) s1 s3).mono ?_
      rintro e W2 ⟨_, rfl, rfl, hb⟩
      rw [HH.out]
      have HB2 := Lib.hid (bel_next HB.out hb)
      clear hb
      go_wp2_with fail
      go_ret
      exact says_ret (by unfold viewOk; simp [HG.out, HH.out]) HB2.out
end Go.Proofs.YtlkadeaomjoiiaaDoor
