/- The walks of the laws' functions that hold two values against each other: of two that read alike they say yes. -/
import Derived.Test.YtjglknaojfnllaaDoorTo
set_option linter.unusedSimpArgs false
set_option linter.unusedVariables false
namespace Go.Proofs.YtjglknaojfnllaaDoor
open Go.RowKit Go.Mux
set_option maxRecDepth 100000 in
set_option maxHeartbeats 1000000 in
theorem eqOp_refl (w : World) (cs cs' : List Value) (x : DOp) (h : Rep.rep w cs x) (h' : Rep.rep w cs' x) :
    Calls Tryd.prog 12 #[.agg cs.toArray, .agg cs'.toArray] w (Gives w fun r _ => r = .bool true) := by
  obtain ⟨v0, rfl, h0, h1, h2, h3, h4, h5, h6, h7⟩ := DOp.rep_iff.1 h
  clear h
  obtain ⟨u0, rfl, -, -, -, -, -, -, -, k7⟩ := DOp.rep_iff.1 h'
  clear h'
  have Hh7 := Lib.hid h7
  clear h7
  have Kh7 := Lib.hid k7
  clear k7
  go_enter Tryd.func12, Tryd.ntmps12
  go_wp2_with fail
  go_at_call 23; refine (eqByteS_refl _ v0 u0 x.Data (Hh7.out.mono (by repeat (first | (with_reducible exact Below.refl _ _) | (with_reducible assumption) | (with_reducible refine bel_alloc ?_ _) | ((with_reducible refine bel_set ?_ ?_ _); rotate_left; (focus first | (simp; done) | (simp; omega)))))) (Kh7.out.mono (by repeat (first | (with_reducible exact Below.refl _ _) | (with_reducible assumption) | (with_reducible refine bel_alloc ?_ _) | ((with_reducible refine bel_set ?_ ?_ _); rotate_left; (focus first | (simp; done) | (simp; omega))))))).mono ?_; rintro e W0 ⟨_, rfl, rfl, hb⟩; have hB0 : Below w.heap.size w W0 := bel_next (by repeat (first | (with_reducible exact Below.refl _ _) | (with_reducible assumption) | (with_reducible refine bel_alloc ?_ _) | ((with_reducible refine bel_set ?_ ?_ _); rotate_left; (focus first | (simp; done) | (simp; omega))))) hb; have hc0 := bel_cell hb; have hz := hb.size; (try simp only [World.size_alloc, World.size_setCell] at hz); have hy0 : w.heap.size + 1 < W0.heap.size := (by omega); have hx0 : w.heap.size < W0.heap.size := (by omega); clear hb hz
  go_wp2_with fail
  go_ret
  exact ⟨_, rfl, rfl, (by repeat (first | (with_reducible exact Below.refl _ _) | (with_reducible assumption) | (with_reducible refine bel_alloc ?_ _) | ((with_reducible refine bel_set ?_ ?_ _); rotate_left; (focus first | (simp; done) | (simp; omega)))))⟩
set_option maxRecDepth 100000 in
set_option maxHeartbeats 1000000 in
theorem eqStep_refl (w : World) (cs cs' : List Value) (x : DStep) (h : Rep.rep w cs x) (h' : Rep.rep w cs' x) :
    Calls Tryd.prog 7 #[.agg cs.toArray, .agg cs'.toArray] w (Gives w fun r _ => r = .bool true) := by
  obtain ⟨v0, v1, rfl, h0, h1, h2, h3, h4, h5⟩ := DStep.rep_iff.1 h
  clear h
  obtain ⟨u0, u1, rfl, -, -, -, -, k4, k5⟩ := DStep.rep_iff.1 h'
  clear h'
  have Hh4 := Lib.hid h4
  clear h4
  have Kh4 := Lib.hid k4
  clear k4
  have Hh5 := Lib.hid h5
  clear h5
  have Kh5 := Lib.hid k5
  clear k5
  go_enter Tryd.func7, Tryd.ntmps7
  go_wp2_with fail
  go_at_call 23; refine (eqByteS_refl _ v0 u0 x.Data (Hh4.out.mono (by repeat (first | (with_reducible exact Below.refl _ _) | (with_reducible assumption) | (with_reducible refine bel_alloc ?_ _) | ((with_reducible refine bel_set ?_ ?_ _); rotate_left; (focus first | (simp; done) | (simp; omega)))))) (Kh4.out.mono (by repeat (first | (with_reducible exact Below.refl _ _) | (with_reducible assumption) | (with_reducible refine bel_alloc ?_ _) | ((with_reducible refine bel_set ?_ ?_ _); rotate_left; (focus first | (simp; done) | (simp; omega))))))).mono ?_; rintro e W0 ⟨_, rfl, rfl, hb⟩; have hB0 : Below w.heap.size w W0 := bel_next (by repeat (first | (with_reducible exact Below.refl _ _) | (with_reducible assumption) | (with_reducible refine bel_alloc ?_ _) | ((with_reducible refine bel_set ?_ ?_ _); rotate_left; (focus first | (simp; done) | (simp; omega))))) hb; have hc0 := bel_cell hb; have hz := hb.size; (try simp only [World.size_alloc, World.size_setCell] at hz); have hy0 : w.heap.size + 1 < W0.heap.size := (by omega); have hx0 : w.heap.size < W0.heap.size := (by omega); clear hb hz
  go_wp2_with fail
  go_at_call 24; refine (eqIntS_refl _ v1 u1 x.Cuts (Hh5.out.mono (by repeat (first | (with_reducible exact Below.refl _ _) | (with_reducible assumption) | (with_reducible refine bel_alloc ?_ _) | ((with_reducible refine bel_set ?_ ?_ _); rotate_left; (focus first | (simp; done) | (simp; omega)))))) (Kh5.out.mono (by repeat (first | (with_reducible exact Below.refl _ _) | (with_reducible assumption) | (with_reducible refine bel_alloc ?_ _) | ((with_reducible refine bel_set ?_ ?_ _); rotate_left; (focus first | (simp; done) | (simp; omega))))))).mono ?_; rintro e W1 ⟨_, rfl, rfl, hb⟩; have hB1 : Below w.heap.size w W1 := bel_next (by repeat (first | (with_reducible exact Below.refl _ _) | (with_reducible assumption) | (with_reducible refine bel_alloc ?_ _) | ((with_reducible refine bel_set ?_ ?_ _); rotate_left; (focus first | (simp; done) | (simp; omega))))) hb; have hc1 := bel_cell hb; have hz := hb.size; (try simp only [World.size_alloc, World.size_setCell] at hz); have hy1 : w.heap.size + 1 < W1.heap.size := (by omega); have hx1 : w.heap.size < W1.heap.size := (by omega); clear hb hz
  go_wp2_with fail
  go_ret
  exact ⟨_, rfl, rfl, (by repeat (first | (with_reducible exact Below.refl _ _) | (with_reducible assumption) | (with_reducible refine bel_alloc ?_ _) | ((with_reducible refine bel_set ?_ ?_ _); rotate_left; (focus first | (simp; done) | (simp; omega)))))⟩
end Go.Proofs.YtjglknaojfnllaaDoor
