/- The walks of the laws' functions that hold two values against each other: of two that read alike they say yes. -/
import Derived.Test.YtlkadeaomjoiiaaDoorTo
set_option linter.unusedSimpArgs false
set_option linter.unusedVariables false
namespace Go.Proofs.YtlkadeaomjoiiaaDoor
open Go.RowKit Go.Mux
set_option maxRecDepth 100000 in
set_option maxHeartbeats 1000000 in
theorem eqAttr_refl (w : World) (cs cs' : List Value) (x : DAttr) (h : Rep.rep w cs x) (h' : Rep.rep w cs' x) :
    Calls Tryd.prog 114 #[.agg cs.toArray, .agg cs'.toArray] w (Gives w fun r _ => r = .bool true) := by
  obtain ⟨rfl, h0, h1⟩ := DAttr.rep_iff.1 h
  clear h
  obtain ⟨rfl, -, -⟩ := DAttr.rep_iff.1 h'
  clear h'
  go_enter Tryd.func114, Tryd.ntmps114
  go_wp2
  go_ret
  exact ⟨_, rfl, rfl, (by repeat (first | (with_reducible exact Below.refl _ _) | (with_reducible assumption) | (with_reducible refine bel_alloc ?_ _) | ((with_reducible refine bel_set ?_ ?_ _); rotate_left; (focus first | (simp; done) | (simp; omega)))))⟩
set_option maxRecDepth 100000 in
set_option maxHeartbeats 1000000 in
theorem eqCell_refl (w : World) (cs cs' : List Value) (x : DCell) (h : Rep.rep w cs x) (h' : Rep.rep w cs' x) :
    Calls Tryd.prog 103 #[.agg cs.toArray, .agg cs'.toArray] w (Gives w fun r _ => r = .bool true) := by
  obtain ⟨rfl, h0, h1, h2⟩ := DCell.rep_iff.1 h
  clear h
  obtain ⟨rfl, -, -, -⟩ := DCell.rep_iff.1 h'
  clear h'
  go_enter Tryd.func103, Tryd.ntmps103
  go_wp2_with fail
  go_at_call 114; refine (eqAttr_refl _ [_, _, _, _, _] [_, _, _, _, _] x.A (DAttr.rep_iff.2 ⟨rfl, h1, h2⟩) (DAttr.rep_iff.2 ⟨rfl, h1, h2⟩)).mono ?_; rintro e W0 ⟨_, rfl, rfl, hb⟩; have hB0 : Below w.heap.size w W0 := bel_next (by repeat (first | (with_reducible exact Below.refl _ _) | (with_reducible assumption) | (with_reducible refine bel_alloc ?_ _) | ((with_reducible refine bel_set ?_ ?_ _); rotate_left; (focus first | (simp; done) | (simp; omega))))) hb; have hc0 := bel_cell hb; have hz := hb.size; (try simp only [World.size_alloc, World.size_setCell] at hz); have hy0 : w.heap.size + 1 < W0.heap.size := (by omega); have hx0 : w.heap.size < W0.heap.size := (by omega); clear hb hz
  go_wp2_with fail
  go_ret
  exact ⟨_, rfl, rfl, (by repeat (first | (with_reducible exact Below.refl _ _) | (with_reducible assumption) | (with_reducible refine bel_alloc ?_ _) | ((with_reducible refine bel_set ?_ ?_ _); rotate_left; (focus first | (simp; done) | (simp; omega)))))⟩
set_option maxRecDepth 100000 in
set_option maxHeartbeats 1000000 in
theorem eqCellS_refl (w : World) (v v' : Value) (l : List DCell) (h : RepS w v l) (h' : RepS w v' l) :
    Calls Tryd.prog 73 #[v, v'] w (Gives w fun r _ => r = .bool true) := by
  obtain ⟨a, cap, rfl, hl, hc⟩ := h
  obtain ⟨a', cap', rfl, -, hc'⟩ := h'
  have HC := Lib.hid hc
  have HC' := Lib.hid hc'
  clear hc hc'
  go_enter Tryd.func73, Tryd.ntmps73
  go_wp2
  go_loopw [5] (fun i wr => ∃ k : Nat, k ≤ l.length ∧ i = .int .i64 k ∧ Below w.heap.size w wr) (fun i _ => l.length - (intOf i).toNat)
  case atStart => exact ⟨0, Nat.zero_le _, rfl, Below.refl _ _⟩
  case round =>
    obtain ⟨k, hk, rfl, hB0⟩ := hrel
    by_cases hlt : k < l.length
    · have hne : l ≠ [] := by intro e; rw [e] at hlt; simp at hlt
      obtain ⟨b, off, rfl, hc⟩ := HC.out hne
      obtain ⟨b', off', rfl, hc'⟩ := HC'.out hne
      obtain ⟨x, hx⟩ : ∃ x, l[k]? = some x := ⟨l[k], by simp [hlt]⟩
      obtain ⟨rr, hrep, hcell⟩ := hc k x hx
      obtain ⟨rr', hrep', hcell'⟩ := hc' k x hx
      have HI := Lib.hid (show (Tryd.prog.info? 66).map (·.size) = some rr.length by rw [Rep.len hrep]; exact size_implCell)
      have HI' := Lib.hid (show (Tryd.prog.info? 66).map (·.size) = some rr'.length by rw [Rep.len hrep']; exact size_implCell)
      have HL := Lib.hid (show ∀ (j : Nat) u, rr[j]? = some u → wr.drew.cell? ⟨b, off + k * 6 + j, none⟩ = some u from fun j u hu => (hB0.cell (p := ⟨b, _, none⟩) (World.block_lt_of_cell? w _ (hcell j u hu))).trans (hcell j u hu))
      have HL' := Lib.hid (show ∀ (j : Nat) u, rr'[j]? = some u → wr.drew.cell? ⟨b', off' + k * 6 + j, none⟩ = some u from fun j u hu => (hB0.cell (p := ⟨b', _, none⟩) (World.block_lt_of_cell? w _ (hcell' j u hu))).trans (hcell' j u hu))
      have HR := Lib.hid hrep
      have HR' := Lib.hid hrep'
      clear hc hcell hrep hc' hcell' hrep' hne hx
      go_wp2
      refine wp_region_still_tail 8 (by kernel_rfl) (by kernel_rfl) ?_
      simp only [List.take_succ_cons, List.take_zero, List.drop_succ_cons, List.drop_zero]
      change wpStill _ _ wr.drew _ _ _
      repeat (first | (with_reducible refine wpStill_load_agg rfl 66 _ rfl b _ rfl rr _ HL.out Tryd.underlying66 HI.out ?_) | (with_reducible refine wpStill_load_agg rfl 66 _ rfl b' _ rfl rr' _ HL'.out Tryd.underlying66 HI'.out ?_) | still_step)
      refine wpStill_nil ?_
      change wpList _ _ _ _ _ wr.drew
      go_wp2_with (go_at_call 103; refine (eqCell_refl _ rr rr' x (Rep.mono HR.out hB0.drew) (Rep.mono HR'.out hB0.drew)).mono ?_; rintro e W1 ⟨_, rfl, rfl, hb⟩; have hB1 : Below w.heap.size w W1 := bel_next hB0.drew hb; clear hb)
      go_roundw
      case rel => exact ⟨k + 1, by omega, by go_num, hB1⟩
      case measure => simp [intOf]; omega
    · obtain rfl : k = l.length := by omega
      go_wp2
      go_ret
      exact ⟨_, rfl, rfl, hB0⟩
set_option maxRecDepth 100000 in
set_option maxHeartbeats 1000000 in
theorem eqGrid_refl (w : World) (cs cs' : List Value) (x : DGrid) (h : Rep.rep w cs x) (h' : Rep.rep w cs' x) :
    Calls Tryd.prog 39 #[.agg cs.toArray, .agg cs'.toArray] w (Gives w fun r _ => r = .bool true) := by
  obtain ⟨v0, rfl, h0, h1, h2⟩ := DGrid.rep_iff.1 h
  clear h
  obtain ⟨u0, rfl, -, -, k2⟩ := DGrid.rep_iff.1 h'
  clear h'
  have Hh2 := Lib.hid h2
  clear h2
  have Kh2 := Lib.hid k2
  clear k2
  go_enter Tryd.func39, Tryd.ntmps39
  go_wp2_with fail
  go_at_call 73; refine (eqCellS_refl _ v0 u0 x.Cells (Hh2.out.mono (by repeat (first | (with_reducible exact Below.refl _ _) | (with_reducible assumption) | (with_reducible refine bel_alloc ?_ _) | ((with_reducible refine bel_set ?_ ?_ _); rotate_left; (focus first | (simp; done) | (simp; omega)))))) (Kh2.out.mono (by repeat (first | (with_reducible exact Below.refl _ _) | (with_reducible assumption) | (with_reducible refine bel_alloc ?_ _) | ((with_reducible refine bel_set ?_ ?_ _); rotate_left; (focus first | (simp; done) | (simp; omega))))))).mono ?_; rintro e W0 ⟨_, rfl, rfl, hb⟩; have hB0 : Below w.heap.size w W0 := bel_next (by repeat (first | (with_reducible exact Below.refl _ _) | (with_reducible assumption) | (with_reducible refine bel_alloc ?_ _) | ((with_reducible refine bel_set ?_ ?_ _); rotate_left; (focus first | (simp; done) | (simp; omega))))) hb; have hc0 := bel_cell hb; have hz := hb.size; (try simp only [World.size_alloc, World.size_setCell] at hz); have hy0 : w.heap.size + 1 < W0.heap.size := (by omega); have hx0 : w.heap.size < W0.heap.size := (by omega); clear hb hz
  go_wp2_with fail
  go_ret
  exact ⟨_, rfl, rfl, (by repeat (first | (with_reducible exact Below.refl _ _) | (with_reducible assumption) | (with_reducible refine bel_alloc ?_ _) | ((with_reducible refine bel_set ?_ ?_ _); rotate_left; (focus first | (simp; done) | (simp; omega)))))⟩
set_option maxRecDepth 100000 in
set_option maxHeartbeats 1000000 in
theorem eqOp_refl (w : World) (cs cs' : List Value) (x : DOp) (h : Rep.rep w cs x) (h' : Rep.rep w cs' x) :
    Calls Tryd.prog 27 #[.agg cs.toArray, .agg cs'.toArray] w (Gives w fun r _ => r = .bool true) := by
  obtain ⟨v0, rfl, h0, h1, h2, h3, h4, h5, h6, h7⟩ := DOp.rep_iff.1 h
  clear h
  obtain ⟨u0, rfl, -, -, -, -, -, -, -, k7⟩ := DOp.rep_iff.1 h'
  clear h'
  have Hh7 := Lib.hid h7
  clear h7
  have Kh7 := Lib.hid k7
  clear k7
  go_enter Tryd.func27, Tryd.ntmps27
  go_wp2_with fail
  go_at_call 11; refine (eqByteS_refl _ v0 u0 x.Data (Hh7.out.mono (by repeat (first | (with_reducible exact Below.refl _ _) | (with_reducible assumption) | (with_reducible refine bel_alloc ?_ _) | ((with_reducible refine bel_set ?_ ?_ _); rotate_left; (focus first | (simp; done) | (simp; omega)))))) (Kh7.out.mono (by repeat (first | (with_reducible exact Below.refl _ _) | (with_reducible assumption) | (with_reducible refine bel_alloc ?_ _) | ((with_reducible refine bel_set ?_ ?_ _); rotate_left; (focus first | (simp; done) | (simp; omega))))))).mono ?_; rintro e W0 ⟨_, rfl, rfl, hb⟩; have hB0 : Below w.heap.size w W0 := bel_next (by repeat (first | (with_reducible exact Below.refl _ _) | (with_reducible assumption) | (with_reducible refine bel_alloc ?_ _) | ((with_reducible refine bel_set ?_ ?_ _); rotate_left; (focus first | (simp; done) | (simp; omega))))) hb; have hc0 := bel_cell hb; have hz := hb.size; (try simp only [World.size_alloc, World.size_setCell] at hz); have hy0 : w.heap.size + 1 < W0.heap.size := (by omega); have hx0 : w.heap.size < W0.heap.size := (by omega); clear hb hz
  go_wp2_with fail
  go_ret
  exact ⟨_, rfl, rfl, (by repeat (first | (with_reducible exact Below.refl _ _) | (with_reducible assumption) | (with_reducible refine bel_alloc ?_ _) | ((with_reducible refine bel_set ?_ ?_ _); rotate_left; (focus first | (simp; done) | (simp; omega)))))⟩
set_option maxRecDepth 100000 in
set_option maxHeartbeats 1000000 in
theorem eqView_refl (w : World) (cs cs' : List Value) (x : DView) (h : Rep.rep w cs x) (h' : Rep.rep w cs' x) :
    Calls Tryd.prog 12 #[.agg cs.toArray, .agg cs'.toArray] w (Gives w fun r _ => r = .bool true) := by
  obtain ⟨v0, rfl, h0, h1, h2, h3, h4⟩ := DView.rep_iff.1 h
  clear h
  obtain ⟨u0, rfl, -, -, k2, -, -⟩ := DView.rep_iff.1 h'
  clear h'
  have Hh2 := Lib.hid h2
  clear h2
  have Kh2 := Lib.hid k2
  clear k2
  go_enter Tryd.func12, Tryd.ntmps12
  go_wp2_with fail
  go_at_call 39; refine (eqGrid_refl _ [_, _, _] [_, _, _] x.Grid (DGrid.rep_iff.2 ⟨v0, rfl, h0, h1, (Hh2.out.mono (by repeat (first | (with_reducible exact Below.refl _ _) | (with_reducible assumption) | (with_reducible refine bel_alloc ?_ _) | ((with_reducible refine bel_set ?_ ?_ _); rotate_left; (focus first | (simp; done) | (simp; omega))))))⟩) (DGrid.rep_iff.2 ⟨u0, rfl, h0, h1, (Kh2.out.mono (by repeat (first | (with_reducible exact Below.refl _ _) | (with_reducible assumption) | (with_reducible refine bel_alloc ?_ _) | ((with_reducible refine bel_set ?_ ?_ _); rotate_left; (focus first | (simp; done) | (simp; omega))))))⟩)).mono ?_; rintro e W0 ⟨_, rfl, rfl, hb⟩; have hB0 : Below w.heap.size w W0 := bel_next (by repeat (first | (with_reducible exact Below.refl _ _) | (with_reducible assumption) | (with_reducible refine bel_alloc ?_ _) | ((with_reducible refine bel_set ?_ ?_ _); rotate_left; (focus first | (simp; done) | (simp; omega))))) hb; have hc0 := bel_cell hb; have hz := hb.size; (try simp only [World.size_alloc, World.size_setCell] at hz); have hy0 : w.heap.size + 1 < W0.heap.size := (by omega); have hx0 : w.heap.size < W0.heap.size := (by omega); clear hb hz
  go_wp2_with fail
  go_ret
  exact ⟨_, rfl, rfl, (by repeat (first | (with_reducible exact Below.refl _ _) | (with_reducible assumption) | (with_reducible refine bel_alloc ?_ _) | ((with_reducible refine bel_set ?_ ?_ _); rotate_left; (focus first | (simp; done) | (simp; omega)))))⟩
set_option maxRecDepth 100000 in
set_option maxHeartbeats 1000000 in
theorem eqStep_refl (w : World) (cs cs' : List Value) (x : DStep) (h : Rep.rep w cs x) (h' : Rep.rep w cs' x) :
    Calls Tryd.prog 22 #[.agg cs.toArray, .agg cs'.toArray] w (Gives w fun r _ => r = .bool true) := by
  obtain ⟨v0, v1, rfl, h0, h1, h2, h3, h4, h5⟩ := DStep.rep_iff.1 h
  clear h
  obtain ⟨u0, u1, rfl, -, -, -, -, k4, k5⟩ := DStep.rep_iff.1 h'
  clear h'
  have Hh4 := Lib.hid h4
  clear h4
  have Kh4 := Lib.hid k4
  clear k4
  have Hh5 := Lib.hid h5
  clear h5
  have Kh5 := Lib.hid k5
  clear k5
  go_enter Tryd.func22, Tryd.ntmps22
  go_wp2_with fail
  go_at_call 11; refine (eqByteS_refl _ v0 u0 x.Data (Hh4.out.mono (by repeat (first | (with_reducible exact Below.refl _ _) | (with_reducible assumption) | (with_reducible refine bel_alloc ?_ _) | ((with_reducible refine bel_set ?_ ?_ _); rotate_left; (focus first | (simp; done) | (simp; omega)))))) (Kh4.out.mono (by repeat (first | (with_reducible exact Below.refl _ _) | (with_reducible assumption) | (with_reducible refine bel_alloc ?_ _) | ((with_reducible refine bel_set ?_ ?_ _); rotate_left; (focus first | (simp; done) | (simp; omega))))))).mono ?_; rintro e W0 ⟨_, rfl, rfl, hb⟩; have hB0 : Below w.heap.size w W0 := bel_next (by repeat (first | (with_reducible exact Below.refl _ _) | (with_reducible assumption) | (with_reducible refine bel_alloc ?_ _) | ((with_reducible refine bel_set ?_ ?_ _); rotate_left; (focus first | (simp; done) | (simp; omega))))) hb; have hc0 := bel_cell hb; have hz := hb.size; (try simp only [World.size_alloc, World.size_setCell] at hz); have hy0 : w.heap.size + 1 < W0.heap.size := (by omega); have hx0 : w.heap.size < W0.heap.size := (by omega); clear hb hz
  go_wp2_with fail
  go_at_call 55; refine (eqIntS_refl _ v1 u1 x.Cuts (Hh5.out.mono (by repeat (first | (with_reducible exact Below.refl _ _) | (with_reducible assumption) | (with_reducible refine bel_alloc ?_ _) | ((with_reducible refine bel_set ?_ ?_ _); rotate_left; (focus first | (simp; done) | (simp; omega)))))) (Kh5.out.mono (by repeat (first | (with_reducible exact Below.refl _ _) | (with_reducible assumption) | (with_reducible refine bel_alloc ?_ _) | ((with_reducible refine bel_set ?_ ?_ _); rotate_left; (focus first | (simp; done) | (simp; omega))))))).mono ?_; rintro e W1 ⟨_, rfl, rfl, hb⟩; have hB1 : Below w.heap.size w W1 := bel_next (by repeat (first | (with_reducible exact Below.refl _ _) | (with_reducible assumption) | (with_reducible refine bel_alloc ?_ _) | ((with_reducible refine bel_set ?_ ?_ _); rotate_left; (focus first | (simp; done) | (simp; omega))))) hb; have hc1 := bel_cell hb; have hz := hb.size; (try simp only [World.size_alloc, World.size_setCell] at hz); have hy1 : w.heap.size + 1 < W1.heap.size := (by omega); have hx1 : w.heap.size < W1.heap.size := (by omega); clear hb hz
  go_wp2_with fail
  go_ret
  exact ⟨_, rfl, rfl, (by repeat (first | (with_reducible exact Below.refl _ _) | (with_reducible assumption) | (with_reducible refine bel_alloc ?_ _) | ((with_reducible refine bel_set ?_ ?_ _); rotate_left; (focus first | (simp; done) | (simp; omega)))))⟩
end Go.Proofs.YtlkadeaomjoiiaaDoor
