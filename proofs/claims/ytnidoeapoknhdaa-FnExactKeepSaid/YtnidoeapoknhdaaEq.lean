/- The walks of the laws' functions that hold two values against each other: of two that read alike they say yes. -/
import Derived.Test.YtnidoeapoknhdaaTo
set_option linter.unusedSimpArgs false
set_option linter.unusedVariables false
namespace Go.Proofs.Ytnidoeapoknhdaa
open Go.RowKit Go.Mux
set_option maxRecDepth 100000 in
set_option maxHeartbeats 1000000 in
theorem eqAttr_refl (w : World) (cs cs' : List Value) (x : DAttr) (h : Rep.rep w cs x) (h' : Rep.rep w cs' x) :
    Calls Try.prog 100 #[.agg cs.toArray, .agg cs'.toArray] w (Gives w fun r _ => r = .bool true) := by
  obtain ⟨rfl, h0, h1⟩ := DAttr.rep_iff.1 h
  clear h
  obtain ⟨rfl, -, -⟩ := DAttr.rep_iff.1 h'
  clear h'
  go_enter Try.func100, Try.ntmps100
  go_wp2
  go_ret
  exact ⟨_, rfl, rfl, (by repeat (first | (with_reducible exact Below.refl _ _) | (with_reducible assumption) | (with_reducible refine bel_alloc ?_ _) | ((with_reducible refine bel_set ?_ ?_ _); rotate_left; (focus first | (simp; done) | (simp; omega)))))⟩
set_option maxRecDepth 100000 in
set_option maxHeartbeats 1000000 in
theorem eqCell_refl (w : World) (cs cs' : List Value) (x : DCell) (h : Rep.rep w cs x) (h' : Rep.rep w cs' x) :
    Calls Try.prog 95 #[.agg cs.toArray, .agg cs'.toArray] w (Gives w fun r _ => r = .bool true) := by
  obtain ⟨rfl, h0, h1, h2⟩ := DCell.rep_iff.1 h
  clear h
  obtain ⟨rfl, -, -, -⟩ := DCell.rep_iff.1 h'
  clear h'
  go_enter Try.func95, Try.ntmps95
  go_wp2_with fail
  go_at_call 100; refine (eqAttr_refl _ [_, _, _, _, _] [_, _, _, _, _] x.A (DAttr.rep_iff.2 ⟨rfl, h1, h2⟩) (DAttr.rep_iff.2 ⟨rfl, h1, h2⟩)).mono ?_; rintro e W0 ⟨_, rfl, rfl, hb⟩; have hB0 : Below w.heap.size w W0 := bel_next (by repeat (first | (with_reducible exact Below.refl _ _) | (with_reducible assumption) | (with_reducible refine bel_alloc ?_ _) | ((with_reducible refine bel_set ?_ ?_ _); rotate_left; (focus first | (simp; done) | (simp; omega))))) hb; have hc0 := bel_cell hb; have hz := hb.size; (try simp only [World.size_alloc, World.size_setCell] at hz); have hy0 : w.heap.size + 1 < W0.heap.size := (by omega); have hx0 : w.heap.size < W0.heap.size := (by omega); clear hb hz
  go_wp2_with fail
  go_ret
  exact ⟨_, rfl, rfl, (by repeat (first | (with_reducible exact Below.refl _ _) | (with_reducible assumption) | (with_reducible refine bel_alloc ?_ _) | ((with_reducible refine bel_set ?_ ?_ _); rotate_left; (focus first | (simp; done) | (simp; omega)))))⟩
set_option maxRecDepth 100000 in
set_option maxHeartbeats 1000000 in
theorem eqCellS_refl (w : World) (v v' : Value) (l : List DCell) (h : RepS w v l) (h' : RepS w v' l) :
    Calls Try.prog 74 #[v, v'] w (Gives w fun r _ => r = .bool true) := by
  obtain ⟨a, cap, rfl, hl, hc⟩ := h
  obtain ⟨a', cap', rfl, -, hc'⟩ := h'
  have HC := Lib.hid hc
  have HC' := Lib.hid hc'
  clear hc hc'
  go_enter Try.func74, Try.ntmps74
  go_wp2
  go_loopw [5] (fun i wr => ∃ k : Nat, k ≤ l.length ∧ i = .int .i64 k ∧ Below w.heap.size w wr) (fun i _ => l.length - (intOf i).toNat)
  case atStart => exact ⟨0, Nat.zero_le _, rfl, Below.refl _ _⟩
  case round =>
    obtain ⟨k, hk, rfl, hB0⟩ := hrel
    by_cases hlt : k < l.length
    · have hne : l ≠ [] := by intro e; rw [e] at hlt; simp at hlt
      obtain ⟨b, off, rfl, hc⟩ := HC.out hne
      obtain ⟨b', off', rfl, hc'⟩ := HC'.out hne
      obtain ⟨x, hx⟩ : ∃ x, l[k]? = some x := ⟨l[k], by simp [hlt]⟩
      obtain ⟨rr, hrep, hcell⟩ := hc k x hx
      obtain ⟨rr', hrep', hcell'⟩ := hc' k x hx
      have HI := Lib.hid (show (Try.prog.info? 108).map (·.size) = some rr.length by rw [Rep.len hrep]; exact size_implCell)
      have HI' := Lib.hid (show (Try.prog.info? 108).map (·.size) = some rr'.length by rw [Rep.len hrep']; exact size_implCell)
      have HL := Lib.hid (show ∀ (j : Nat) u, rr[j]? = some u → wr.drew.cell? ⟨b, off + k * 6 + j, none⟩ = some u from fun j u hu => (hB0.cell (p := ⟨b, _, none⟩) (World.block_lt_of_cell? w _ (hcell j u hu))).trans (hcell j u hu))
      have HL' := Lib.hid (show ∀ (j : Nat) u, rr'[j]? = some u → wr.drew.cell? ⟨b', off' + k * 6 + j, none⟩ = some u from fun j u hu => (hB0.cell (p := ⟨b', _, none⟩) (World.block_lt_of_cell? w _ (hcell' j u hu))).trans (hcell' j u hu))
      have HR := Lib.hid hrep
      have HR' := Lib.hid hrep'
      clear hc hcell hrep hc' hcell' hrep' hne hx
      go_wp2
      refine wp_region_still_tail 8 (by kernel_rfl) (by kernel_rfl) ?_
      simp only [List.take_succ_cons, List.take_zero, List.drop_succ_cons, List.drop_zero]
      change wpStill _ _ wr.drew _ _ _
      repeat (first | (with_reducible refine wpStill_load_agg rfl 108 _ rfl b _ rfl rr _ HL.out Try.underlying108 HI.out ?_) | (with_reducible refine wpStill_load_agg rfl 108 _ rfl b' _ rfl rr' _ HL'.out Try.underlying108 HI'.out ?_) | still_step)
      refine wpStill_nil ?_
      change wpList _ _ _ _ _ wr.drew
      go_wp2_with (go_at_call 95; refine (eqCell_refl _ rr rr' x (Rep.mono HR.out hB0.drew) (Rep.mono HR'.out hB0.drew)).mono ?_; rintro e W1 ⟨_, rfl, rfl, hb⟩; have hB1 : Below w.heap.size w W1 := bel_next hB0.drew hb; clear hb)
      go_roundw
      case rel => exact ⟨k + 1, by omega, by go_num, hB1⟩
      case measure => simp [intOf]; omega
    · obtain rfl : k = l.length := by omega
      go_wp2
      go_ret
      exact ⟨_, rfl, rfl, hB0⟩
set_option maxRecDepth 100000 in
set_option maxHeartbeats 1000000 in
theorem eqGrid_refl (w : World) (cs cs' : List Value) (x : DGrid) (h : Rep.rep w cs x) (h' : Rep.rep w cs' x) :
    Calls Try.prog 42 #[.agg cs.toArray, .agg cs'.toArray] w (Gives w fun r _ => r = .bool true) := by
  obtain ⟨v0, rfl, h0, h1, h2⟩ := DGrid.rep_iff.1 h
  clear h
  obtain ⟨u0, rfl, -, -, k2⟩ := DGrid.rep_iff.1 h'
  clear h'
  have Hh2 := Lib.hid h2
  clear h2
  have Kh2 := Lib.hid k2
  clear k2
  go_enter Try.func42, Try.ntmps42
  go_wp2_with fail
  go_at_call 74; refine (eqCellS_refl _ v0 u0 x.Cells (Hh2.out.mono (by repeat (first | (with_reducible exact Below.refl _ _) | (with_reducible assumption) | (with_reducible refine bel_alloc ?_ _) | ((with_reducible refine bel_set ?_ ?_ _); rotate_left; (focus first | (simp; done) | (simp; omega)))))) (Kh2.out.mono (by repeat (first | (with_reducible exact Below.refl _ _) | (with_reducible assumption) | (with_reducible refine bel_alloc ?_ _) | ((with_reducible refine bel_set ?_ ?_ _); rotate_left; (focus first | (simp; done) | (simp; omega))))))).mono ?_; rintro e W0 ⟨_, rfl, rfl, hb⟩; have hB0 : Below w.heap.size w W0 := bel_next (by repeat (first | (with_reducible exact Below.refl _ _) | (with_reducible assumption) | (with_reducible refine bel_alloc ?_ _) | ((with_reducible refine bel_set ?_ ?_ _); rotate_left; (focus first | (simp; done) | (simp; omega))))) hb; have hc0 := bel_cell hb; have hz := hb.size; (try simp only [World.size_alloc, World.size_setCell] at hz); have hy0 : w.heap.size + 1 < W0.heap.size := (by omega); have hx0 : w.heap.size < W0.heap.size := (by omega); clear hb hz
  go_wp2_with fail
  go_ret
  exact ⟨_, rfl, rfl, (by repeat (first | (with_reducible exact Below.refl _ _) | (with_reducible assumption) | (with_reducible refine bel_alloc ?_ _) | ((with_reducible refine bel_set ?_ ?_ _); rotate_left; (focus first | (simp; done) | (simp; omega)))))⟩
set_option maxRecDepth 100000 in
set_option maxHeartbeats 1000000 in
theorem eqOp_refl (w : World) (cs cs' : List Value) (x : DOp) (h : Rep.rep w cs x) (h' : Rep.rep w cs' x) :
    Calls Try.prog 68 #[.agg cs.toArray, .agg cs'.toArray] w (Gives w fun r _ => r = .bool true) := by
  obtain ⟨v0, rfl, h0, h1, h2, h3, h4, h5, h6, h7⟩ := DOp.rep_iff.1 h
  clear h
  obtain ⟨u0, rfl, -, -, -, -, -, -, -, k7⟩ := DOp.rep_iff.1 h'
  clear h'
  have Hh7 := Lib.hid h7
  clear h7
  have Kh7 := Lib.hid k7
  clear k7
  go_enter Try.func68, Try.ntmps68
  go_wp2_with fail
  go_at_call 88; refine (eqByteS_refl _ v0 u0 x.Data (Hh7.out.mono (by repeat (first | (with_reducible exact Below.refl _ _) | (with_reducible assumption) | (with_reducible refine bel_alloc ?_ _) | ((with_reducible refine bel_set ?_ ?_ _); rotate_left; (focus first | (simp; done) | (simp; omega)))))) (Kh7.out.mono (by repeat (first | (with_reducible exact Below.refl _ _) | (with_reducible assumption) | (with_reducible refine bel_alloc ?_ _) | ((with_reducible refine bel_set ?_ ?_ _); rotate_left; (focus first | (simp; done) | (simp; omega))))))).mono ?_; rintro e W0 ⟨_, rfl, rfl, hb⟩; have hB0 : Below w.heap.size w W0 := bel_next (by repeat (first | (with_reducible exact Below.refl _ _) | (with_reducible assumption) | (with_reducible refine bel_alloc ?_ _) | ((with_reducible refine bel_set ?_ ?_ _); rotate_left; (focus first | (simp; done) | (simp; omega))))) hb; have hc0 := bel_cell hb; have hz := hb.size; (try simp only [World.size_alloc, World.size_setCell] at hz); have hy0 : w.heap.size + 1 < W0.heap.size := (by omega); have hx0 : w.heap.size < W0.heap.size := (by omega); clear hb hz
  go_wp2_with fail
  go_ret
  exact ⟨_, rfl, rfl, (by repeat (first | (with_reducible exact Below.refl _ _) | (with_reducible assumption) | (with_reducible refine bel_alloc ?_ _) | ((with_reducible refine bel_set ?_ ?_ _); rotate_left; (focus first | (simp; done) | (simp; omega)))))⟩
set_option maxRecDepth 100000 in
set_option maxHeartbeats 1000000 in
theorem eqView_refl (w : World) (cs cs' : List Value) (x : DView) (h : Rep.rep w cs x) (h' : Rep.rep w cs' x) :
    Calls Try.prog 18 #[.agg cs.toArray, .agg cs'.toArray] w (Gives w fun r _ => r = .bool true) := by
  obtain ⟨v0, rfl, h0, h1, h2, h3, h4⟩ := DView.rep_iff.1 h
  clear h
  obtain ⟨u0, rfl, -, -, k2, -, -⟩ := DView.rep_iff.1 h'
  clear h'
  have Hh2 := Lib.hid h2
  clear h2
  have Kh2 := Lib.hid k2
  clear k2
  go_enter Try.func18, Try.ntmps18
  go_wp2_with fail
  go_at_call 42; refine (eqGrid_refl _ [_, _, _] [_, _, _] x.Grid (DGrid.rep_iff.2 ⟨v0, rfl, h0, h1, (Hh2.out.mono (by repeat (first | (with_reducible exact Below.refl _ _) | (with_reducible assumption) | (with_reducible refine bel_alloc ?_ _) | ((with_reducible refine bel_set ?_ ?_ _); rotate_left; (focus first | (simp; done) | (simp; omega))))))⟩) (DGrid.rep_iff.2 ⟨u0, rfl, h0, h1, (Kh2.out.mono (by repeat (first | (with_reducible exact Below.refl _ _) | (with_reducible assumption) | (with_reducible refine bel_alloc ?_ _) | ((with_reducible refine bel_set ?_ ?_ _); rotate_left; (focus first | (simp; done) | (simp; omega))))))⟩)).mono ?_; rintro e W0 ⟨_, rfl, rfl, hb⟩; have hB0 : Below w.heap.size w W0 := bel_next (by repeat (first | (with_reducible exact Below.refl _ _) | (with_reducible assumption) | (with_reducible refine bel_alloc ?_ _) | ((with_reducible refine bel_set ?_ ?_ _); rotate_left; (focus first | (simp; done) | (simp; omega))))) hb; have hc0 := bel_cell hb; have hz := hb.size; (try simp only [World.size_alloc, World.size_setCell] at hz); have hy0 : w.heap.size + 1 < W0.heap.size := (by omega); have hx0 : w.heap.size < W0.heap.size := (by omega); clear hb hz
  go_wp2_with fail
  go_ret
  exact ⟨_, rfl, rfl, (by repeat (first | (with_reducible exact Below.refl _ _) | (with_reducible assumption) | (with_reducible refine bel_alloc ?_ _) | ((with_reducible refine bel_set ?_ ?_ _); rotate_left; (focus first | (simp; done) | (simp; omega)))))⟩
set_option maxRecDepth 100000 in
set_option maxHeartbeats 1000000 in
theorem eqProc_refl (w : World) (cs cs' : List Value) (x : DProc) (h : Rep.rep w cs x) (h' : Rep.rep w cs' x) :
    Calls Try.prog 80 #[.agg cs.toArray, .agg cs'.toArray] w (Gives w fun r _ => r = .bool true) := by
  obtain ⟨rfl, h0, h1⟩ := DProc.rep_iff.1 h
  clear h
  obtain ⟨rfl, -, -⟩ := DProc.rep_iff.1 h'
  clear h'
  go_enter Try.func80, Try.ntmps80
  go_wp2
  go_ret
  exact ⟨_, rfl, rfl, (by repeat (first | (with_reducible exact Below.refl _ _) | (with_reducible assumption) | (with_reducible refine bel_alloc ?_ _) | ((with_reducible refine bel_set ?_ ?_ _); rotate_left; (focus first | (simp; done) | (simp; omega)))))⟩
set_option maxRecDepth 100000 in
set_option maxHeartbeats 1000000 in
theorem eqProcS_refl (w : World) (v v' : Value) (l : List DProc) (h : RepS w v l) (h' : RepS w v' l) :
    Calls Try.prog 51 #[v, v'] w (Gives w fun r _ => r = .bool true) := by
  obtain ⟨a, cap, rfl, hl, hc⟩ := h
  obtain ⟨a', cap', rfl, -, hc'⟩ := h'
  have HC := Lib.hid hc
  have HC' := Lib.hid hc'
  clear hc hc'
  go_enter Try.func51, Try.ntmps51
  go_wp2
  go_loopw [5] (fun i wr => ∃ k : Nat, k ≤ l.length ∧ i = .int .i64 k ∧ Below w.heap.size w wr) (fun i _ => l.length - (intOf i).toNat)
  case atStart => exact ⟨0, Nat.zero_le _, rfl, Below.refl _ _⟩
  case round =>
    obtain ⟨k, hk, rfl, hB0⟩ := hrel
    by_cases hlt : k < l.length
    · have hne : l ≠ [] := by intro e; rw [e] at hlt; simp at hlt
      obtain ⟨b, off, rfl, hc⟩ := HC.out hne
      obtain ⟨b', off', rfl, hc'⟩ := HC'.out hne
      obtain ⟨x, hx⟩ : ∃ x, l[k]? = some x := ⟨l[k], by simp [hlt]⟩
      obtain ⟨rr, hrep, hcell⟩ := hc k x hx
      obtain ⟨rr', hrep', hcell'⟩ := hc' k x hx
      have HI := Lib.hid (show (Try.prog.info? 85).map (·.size) = some rr.length by rw [Rep.len hrep]; exact size_implProc)
      have HI' := Lib.hid (show (Try.prog.info? 85).map (·.size) = some rr'.length by rw [Rep.len hrep']; exact size_implProc)
      have HL := Lib.hid (show ∀ (j : Nat) u, rr[j]? = some u → wr.drew.cell? ⟨b, off + k * 2 + j, none⟩ = some u from fun j u hu => (hB0.cell (p := ⟨b, _, none⟩) (World.block_lt_of_cell? w _ (hcell j u hu))).trans (hcell j u hu))
      have HL' := Lib.hid (show ∀ (j : Nat) u, rr'[j]? = some u → wr.drew.cell? ⟨b', off' + k * 2 + j, none⟩ = some u from fun j u hu => (hB0.cell (p := ⟨b', _, none⟩) (World.block_lt_of_cell? w _ (hcell' j u hu))).trans (hcell' j u hu))
      have HR := Lib.hid hrep
      have HR' := Lib.hid hrep'
      clear hc hcell hrep hc' hcell' hrep' hne hx
      go_wp2
      refine wp_region_still_tail 8 (by kernel_rfl) (by kernel_rfl) ?_
      simp only [List.take_succ_cons, List.take_zero, List.drop_succ_cons, List.drop_zero]
      change wpStill _ _ wr.drew _ _ _
      repeat (first | (with_reducible refine wpStill_load_agg rfl 85 _ rfl b _ rfl rr _ HL.out Try.underlying85 HI.out ?_) | (with_reducible refine wpStill_load_agg rfl 85 _ rfl b' _ rfl rr' _ HL'.out Try.underlying85 HI'.out ?_) | still_step)
      refine wpStill_nil ?_
      change wpList _ _ _ _ _ wr.drew
      go_wp2_with (go_at_call 80; refine (eqProc_refl _ rr rr' x (Rep.mono HR.out hB0.drew) (Rep.mono HR'.out hB0.drew)).mono ?_; rintro e W1 ⟨_, rfl, rfl, hb⟩; have hB1 : Below w.heap.size w W1 := bel_next hB0.drew hb; clear hb)
      go_roundw
      case rel => exact ⟨k + 1, by omega, by go_num, hB1⟩
      case measure => simp [intOf]; omega
    · obtain rfl : k = l.length := by omega
      go_wp2
      go_ret
      exact ⟨_, rfl, rfl, hB0⟩
set_option maxRecDepth 100000 in
set_option maxHeartbeats 1000000 in
theorem eqAsk_refl (w : World) (cs cs' : List Value) (x : DAsk) (h : Rep.rep w cs x) (h' : Rep.rep w cs' x) :
    Calls Try.prog 81 #[.agg cs.toArray, .agg cs'.toArray] w (Gives w fun r _ => r = .bool true) := by
  obtain ⟨rfl, h0, h1, h2, h3, h4, h5⟩ := DAsk.rep_iff.1 h
  clear h
  obtain ⟨rfl, -, -, -, -, -, -⟩ := DAsk.rep_iff.1 h'
  clear h'
  go_enter Try.func81, Try.ntmps81
  go_wp2
  go_ret
  exact ⟨_, rfl, rfl, (by repeat (first | (with_reducible exact Below.refl _ _) | (with_reducible assumption) | (with_reducible refine bel_alloc ?_ _) | ((with_reducible refine bel_set ?_ ?_ _); rotate_left; (focus first | (simp; done) | (simp; omega)))))⟩
set_option maxRecDepth 100000 in
set_option maxHeartbeats 1000000 in
theorem eqAskS_refl (w : World) (v v' : Value) (l : List DAsk) (h : RepS w v l) (h' : RepS w v' l) :
    Calls Try.prog 52 #[v, v'] w (Gives w fun r _ => r = .bool true) := by
  obtain ⟨a, cap, rfl, hl, hc⟩ := h
  obtain ⟨a', cap', rfl, -, hc'⟩ := h'
  have HC := Lib.hid hc
  have HC' := Lib.hid hc'
  clear hc hc'
  go_enter Try.func52, Try.ntmps52
  go_wp2
  go_loopw [5] (fun i wr => ∃ k : Nat, k ≤ l.length ∧ i = .int .i64 k ∧ Below w.heap.size w wr) (fun i _ => l.length - (intOf i).toNat)
  case atStart => exact ⟨0, Nat.zero_le _, rfl, Below.refl _ _⟩
  case round =>
    obtain ⟨k, hk, rfl, hB0⟩ := hrel
    by_cases hlt : k < l.length
    · have hne : l ≠ [] := by intro e; rw [e] at hlt; simp at hlt
      obtain ⟨b, off, rfl, hc⟩ := HC.out hne
      obtain ⟨b', off', rfl, hc'⟩ := HC'.out hne
      obtain ⟨x, hx⟩ : ∃ x, l[k]? = some x := ⟨l[k], by simp [hlt]⟩
      obtain ⟨rr, hrep, hcell⟩ := hc k x hx
      obtain ⟨rr', hrep', hcell'⟩ := hc' k x hx
      have HI := Lib.hid (show (Try.prog.info? 118).map (·.size) = some rr.length by rw [Rep.len hrep]; exact size_implAsk)
      have HI' := Lib.hid (show (Try.prog.info? 118).map (·.size) = some rr'.length by rw [Rep.len hrep']; exact size_implAsk)
      have HL := Lib.hid (show ∀ (j : Nat) u, rr[j]? = some u → wr.drew.cell? ⟨b, off + k * 6 + j, none⟩ = some u from fun j u hu => (hB0.cell (p := ⟨b, _, none⟩) (World.block_lt_of_cell? w _ (hcell j u hu))).trans (hcell j u hu))
      have HL' := Lib.hid (show ∀ (j : Nat) u, rr'[j]? = some u → wr.drew.cell? ⟨b', off' + k * 6 + j, none⟩ = some u from fun j u hu => (hB0.cell (p := ⟨b', _, none⟩) (World.block_lt_of_cell? w _ (hcell' j u hu))).trans (hcell' j u hu))
      have HR := Lib.hid hrep
      have HR' := Lib.hid hrep'
      clear hc hcell hrep hc' hcell' hrep' hne hx
      go_wp2
      refine wp_region_still_tail 8 (by kernel_rfl) (by kernel_rfl) ?_
      simp only [List.take_succ_cons, List.take_zero, List.drop_succ_cons, List.drop_zero]
      change wpStill _ _ wr.drew _ _ _
      repeat (first | (with_reducible refine wpStill_load_agg rfl 118 _ rfl b _ rfl rr _ HL.out Try.underlying118 HI.out ?_) | (with_reducible refine wpStill_load_agg rfl 118 _ rfl b' _ rfl rr' _ HL'.out Try.underlying118 HI'.out ?_) | still_step)
      refine wpStill_nil ?_
      change wpList _ _ _ _ _ wr.drew
      go_wp2_with (go_at_call 81; refine (eqAsk_refl _ rr rr' x (Rep.mono HR.out hB0.drew) (Rep.mono HR'.out hB0.drew)).mono ?_; rintro e W1 ⟨_, rfl, rfl, hb⟩; have hB1 : Below w.heap.size w W1 := bel_next hB0.drew hb; clear hb)
      go_roundw
      case rel => exact ⟨k + 1, by omega, by go_num, hB1⟩
      case measure => simp [intOf]; omega
    · obtain rfl : k = l.length := by omega
      go_wp2
      go_ret
      exact ⟨_, rfl, rfl, hB0⟩
set_option maxRecDepth 100000 in
set_option maxHeartbeats 1000000 in
theorem eqTable_refl (w : World) (cs cs' : List Value) (x : DTable) (h : Rep.rep w cs x) (h' : Rep.rep w cs' x) :
    Calls Try.prog 23 #[.agg cs.toArray, .agg cs'.toArray] w (Gives w fun r _ => r = .bool true) := by
  obtain ⟨v0, v1, rfl, h0, h1, h2⟩ := DTable.rep_iff.1 h
  clear h
  obtain ⟨u0, u1, rfl, -, k1, k2⟩ := DTable.rep_iff.1 h'
  clear h'
  have Hh1 := Lib.hid h1
  clear h1
  have Kh1 := Lib.hid k1
  clear k1
  have Hh2 := Lib.hid h2
  clear h2
  have Kh2 := Lib.hid k2
  clear k2
  go_enter Try.func23, Try.ntmps23
  go_wp2_with fail
  go_at_call 51; refine (eqProcS_refl _ v0 u0 x.Live (Hh1.out.mono (by repeat (first | (with_reducible exact Below.refl _ _) | (with_reducible assumption) | (with_reducible refine bel_alloc ?_ _) | ((with_reducible refine bel_set ?_ ?_ _); rotate_left; (focus first | (simp; done) | (simp; omega)))))) (Kh1.out.mono (by repeat (first | (with_reducible exact Below.refl _ _) | (with_reducible assumption) | (with_reducible refine bel_alloc ?_ _) | ((with_reducible refine bel_set ?_ ?_ _); rotate_left; (focus first | (simp; done) | (simp; omega))))))).mono ?_; rintro e W0 ⟨_, rfl, rfl, hb⟩; have hB0 : Below w.heap.size w W0 := bel_next (by repeat (first | (with_reducible exact Below.refl _ _) | (with_reducible assumption) | (with_reducible refine bel_alloc ?_ _) | ((with_reducible refine bel_set ?_ ?_ _); rotate_left; (focus first | (simp; done) | (simp; omega))))) hb; have hc0 := bel_cell hb; have hz := hb.size; (try simp only [World.size_alloc, World.size_setCell] at hz); have hy0 : w.heap.size + 1 < W0.heap.size := (by omega); have hx0 : w.heap.size < W0.heap.size := (by omega); clear hb hz
  go_wp2_with fail
  go_at_call 52; refine (eqAskS_refl _ v1 u1 x.Asked (Hh2.out.mono (by repeat (first | (with_reducible exact Below.refl _ _) | (with_reducible assumption) | (with_reducible refine bel_alloc ?_ _) | ((with_reducible refine bel_set ?_ ?_ _); rotate_left; (focus first | (simp; done) | (simp; omega)))))) (Kh2.out.mono (by repeat (first | (with_reducible exact Below.refl _ _) | (with_reducible assumption) | (with_reducible refine bel_alloc ?_ _) | ((with_reducible refine bel_set ?_ ?_ _); rotate_left; (focus first | (simp; done) | (simp; omega))))))).mono ?_; rintro e W1 ⟨_, rfl, rfl, hb⟩; have hB1 : Below w.heap.size w W1 := bel_next (by repeat (first | (with_reducible exact Below.refl _ _) | (with_reducible assumption) | (with_reducible refine bel_alloc ?_ _) | ((with_reducible refine bel_set ?_ ?_ _); rotate_left; (focus first | (simp; done) | (simp; omega))))) hb; have hc1 := bel_cell hb; have hz := hb.size; (try simp only [World.size_alloc, World.size_setCell] at hz); have hy1 : w.heap.size + 1 < W1.heap.size := (by omega); have hx1 : w.heap.size < W1.heap.size := (by omega); clear hb hz
  go_wp2_with fail
  go_ret
  exact ⟨_, rfl, rfl, (by repeat (first | (with_reducible exact Below.refl _ _) | (with_reducible assumption) | (with_reducible refine bel_alloc ?_ _) | ((with_reducible refine bel_set ?_ ?_ _); rotate_left; (focus first | (simp; done) | (simp; omega)))))⟩
set_option maxRecDepth 100000 in
set_option maxHeartbeats 1000000 in
theorem eqHist_refl (w : World) (cs cs' : List Value) (x : DHist) (h : Rep.rep w cs x) (h' : Rep.rep w cs' x) :
    Calls Try.prog 36 #[.agg cs.toArray, .agg cs'.toArray] w (Gives w fun r _ => r = .bool true) := by
  obtain ⟨v0, rfl, h0, h1, h2, h3, h4, h5, h6, h7⟩ := DHist.rep_iff.1 h
  clear h
  obtain ⟨u0, rfl, -, -, -, -, -, -, -, k7⟩ := DHist.rep_iff.1 h'
  clear h'
  have Hh7 := Lib.hid h7
  clear h7
  have Kh7 := Lib.hid k7
  clear k7
  go_enter Try.func36, Try.ntmps36
  go_wp2_with fail
  go_at_call 68; refine (eqOp_refl _ [_, _, _, _, _, _, _, _] [_, _, _, _, _, _, _, _] x.Op (DOp.rep_iff.2 ⟨v0, rfl, h0, h1, h2, h3, h4, h5, h6, (Hh7.out.mono (by repeat (first | (with_reducible exact Below.refl _ _) | (with_reducible assumption) | (with_reducible refine bel_alloc ?_ _) | ((with_reducible refine bel_set ?_ ?_ _); rotate_left; (focus first | (simp; done) | (simp; omega))))))⟩) (DOp.rep_iff.2 ⟨u0, rfl, h0, h1, h2, h3, h4, h5, h6, (Kh7.out.mono (by repeat (first | (with_reducible exact Below.refl _ _) | (with_reducible assumption) | (with_reducible refine bel_alloc ?_ _) | ((with_reducible refine bel_set ?_ ?_ _); rotate_left; (focus first | (simp; done) | (simp; omega))))))⟩)).mono ?_; rintro e W0 ⟨_, rfl, rfl, hb⟩; have hB0 : Below w.heap.size w W0 := bel_next (by repeat (first | (with_reducible exact Below.refl _ _) | (with_reducible assumption) | (with_reducible refine bel_alloc ?_ _) | ((with_reducible refine bel_set ?_ ?_ _); rotate_left; (focus first | (simp; done) | (simp; omega))))) hb; have hc0 := bel_cell hb; have hz := hb.size; (try simp only [World.size_alloc, World.size_setCell] at hz); have hy0 : w.heap.size + 1 < W0.heap.size := (by omega); have hx0 : w.heap.size < W0.heap.size := (by omega); clear hb hz
  go_wp2_with fail
  go_ret
  exact ⟨_, rfl, rfl, (by repeat (first | (with_reducible exact Below.refl _ _) | (with_reducible assumption) | (with_reducible refine bel_alloc ?_ _) | ((with_reducible refine bel_set ?_ ?_ _); rotate_left; (focus first | (simp; done) | (simp; omega)))))⟩
set_option maxRecDepth 100000 in
set_option maxHeartbeats 1000000 in
theorem eqHistS_refl (w : World) (v v' : Value) (l : List DHist) (h : RepS w v l) (h' : RepS w v' l) :
    Calls Try.prog 13 #[v, v'] w (Gives w fun r _ => r = .bool true) := by
  obtain ⟨a, cap, rfl, hl, hc⟩ := h
  obtain ⟨a', cap', rfl, -, hc'⟩ := h'
  have HC := Lib.hid hc
  have HC' := Lib.hid hc'
  clear hc hc'
  go_enter Try.func13, Try.ntmps13
  go_wp2
  go_loopw [5] (fun i wr => ∃ k : Nat, k ≤ l.length ∧ i = .int .i64 k ∧ Below w.heap.size w wr) (fun i _ => l.length - (intOf i).toNat)
  case atStart => exact ⟨0, Nat.zero_le _, rfl, Below.refl _ _⟩
  case round =>
    obtain ⟨k, hk, rfl, hB0⟩ := hrel
    by_cases hlt : k < l.length
    · have hne : l ≠ [] := by intro e; rw [e] at hlt; simp at hlt
      obtain ⟨b, off, rfl, hc⟩ := HC.out hne
      obtain ⟨b', off', rfl, hc'⟩ := HC'.out hne
      obtain ⟨x, hx⟩ : ∃ x, l[k]? = some x := ⟨l[k], by simp [hlt]⟩
      obtain ⟨rr, hrep, hcell⟩ := hc k x hx
      obtain ⟨rr', hrep', hcell'⟩ := hc' k x hx
      have HI := Lib.hid (show (Try.prog.info? 73).map (·.size) = some rr.length by rw [Rep.len hrep]; exact size_implHist)
      have HI' := Lib.hid (show (Try.prog.info? 73).map (·.size) = some rr'.length by rw [Rep.len hrep']; exact size_implHist)
      have HL := Lib.hid (show ∀ (j : Nat) u, rr[j]? = some u → wr.drew.cell? ⟨b, off + k * 9 + j, none⟩ = some u from fun j u hu => (hB0.cell (p := ⟨b, _, none⟩) (World.block_lt_of_cell? w _ (hcell j u hu))).trans (hcell j u hu))
      have HL' := Lib.hid (show ∀ (j : Nat) u, rr'[j]? = some u → wr.drew.cell? ⟨b', off' + k * 9 + j, none⟩ = some u from fun j u hu => (hB0.cell (p := ⟨b', _, none⟩) (World.block_lt_of_cell? w _ (hcell' j u hu))).trans (hcell' j u hu))
      have HR := Lib.hid hrep
      have HR' := Lib.hid hrep'
      clear hc hcell hrep hc' hcell' hrep' hne hx
      go_wp2
      refine wp_region_still_tail 8 (by kernel_rfl) (by kernel_rfl) ?_
      simp only [List.take_succ_cons, List.take_zero, List.drop_succ_cons, List.drop_zero]
      change wpStill _ _ wr.drew _ _ _
      repeat (first | (with_reducible refine wpStill_load_agg rfl 73 _ rfl b _ rfl rr _ HL.out Try.underlying73 HI.out ?_) | (with_reducible refine wpStill_load_agg rfl 73 _ rfl b' _ rfl rr' _ HL'.out Try.underlying73 HI'.out ?_) | still_step)
      refine wpStill_nil ?_
      change wpList _ _ _ _ _ wr.drew
      go_wp2_with (go_at_call 36; refine (eqHist_refl _ rr rr' x (Rep.mono HR.out hB0.drew) (Rep.mono HR'.out hB0.drew)).mono ?_; rintro e W1 ⟨_, rfl, rfl, hb⟩; have hB1 : Below w.heap.size w W1 := bel_next hB0.drew hb; clear hb)
      go_roundw
      case rel => exact ⟨k + 1, by omega, by go_num, hB1⟩
      case measure => simp [intOf]; omega
    · obtain rfl : k = l.length := by omega
      go_wp2
      go_ret
      exact ⟨_, rfl, rfl, hB0⟩
end Go.Proofs.Ytnidoeapoknhdaa
