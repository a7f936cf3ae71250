/- The walks of the laws' functions that hold two values against each other: of two that read alike they say yes. -/
import Derived.Test.YtaobgfneeijpmaaTo
set_option linter.unusedSimpArgs false
set_option linter.unusedVariables false
namespace Go.Proofs.Ytaobgfneeijpmaa
open Go.RowKit Go.Mux
set_option maxRecDepth 100000 in
set_option maxHeartbeats 1000000 in
theorem eqAttr_refl (w : World) (cs cs' : List Value) (x : DAttr) (h : Rep.rep w cs x) (h' : Rep.rep w cs' x) :
    Calls Try.prog 43 #[.agg cs.toArray, .agg cs'.toArray] w (Gives w fun r _ => r = .bool true) := by
  obtain ⟨rfl, h0, h1⟩ := DAttr.rep_iff.1 h
  clear h
  obtain ⟨rfl, -, -⟩ := DAttr.rep_iff.1 h'
  clear h'
  go_enter Try.func43, Try.ntmps43
  go_wp2
  go_ret
  exact ⟨_, rfl, rfl, (by repeat (first | (with_reducible exact Below.refl _ _) | (with_reducible assumption) | (with_reducible refine bel_alloc ?_ _) | ((with_reducible refine bel_set ?_ ?_ _); rotate_left; (focus first | (simp; done) | (simp; omega)))))⟩
set_option maxRecDepth 100000 in
set_option maxHeartbeats 1000000 in
theorem eqCell_refl (w : World) (cs cs' : List Value) (x : DCell) (h : Rep.rep w cs x) (h' : Rep.rep w cs' x) :
    Calls Try.prog 74 #[.agg cs.toArray, .agg cs'.toArray] w (Gives w fun r _ => r = .bool true) := by
  obtain ⟨rfl, h0, h1, h2⟩ := DCell.rep_iff.1 h
  clear h
  obtain ⟨rfl, -, -, -⟩ := DCell.rep_iff.1 h'
  clear h'
  go_enter Try.func74, Try.ntmps74
  go_wp2_with fail
  go_at_call 43; refine (eqAttr_refl _ [_, _, _, _, _] [_, _, _, _, _] x.A (DAttr.rep_iff.2 ⟨rfl, h1, h2⟩) (DAttr.rep_iff.2 ⟨rfl, h1, h2⟩)).mono ?_; rintro e W0 ⟨_, rfl, rfl, hb⟩; have hB0 : Below w.heap.size w W0 := bel_next (by repeat (first | (with_reducible exact Below.refl _ _) | (with_reducible assumption) | (with_reducible refine bel_alloc ?_ _) | ((with_reducible refine bel_set ?_ ?_ _); rotate_left; (focus first | (simp; done) | (simp; omega))))) hb; have hc0 := bel_cell hb; have hz := hb.size; (try simp only [World.size_alloc, World.size_setCell] at hz); have hy0 : w.heap.size + 1 < W0.heap.size := (by omega); have hx0 : w.heap.size < W0.heap.size := (by omega); clear hb hz
  go_wp2_with fail
  go_ret
  exact ⟨_, rfl, rfl, (by repeat (first | (with_reducible exact Below.refl _ _) | (with_reducible assumption) | (with_reducible refine bel_alloc ?_ _) | ((with_reducible refine bel_set ?_ ?_ _); rotate_left; (focus first | (simp; done) | (simp; omega)))))⟩
set_option maxRecDepth 100000 in
set_option maxHeartbeats 1000000 in
theorem eqCellS_refl (w : World) (v v' : Value) (l : List DCell) (h : RepS w v l) (h' : RepS w v' l) :
    Calls Try.prog 42 #[v, v'] w (Gives w fun r _ => r = .bool true) := by
  obtain ⟨a, cap, rfl, hl, hc⟩ := h
  obtain ⟨a', cap', rfl, -, hc'⟩ := h'
  have HC := Lib.hid hc
  have HC' := Lib.hid hc'
  clear hc hc'
  go_enter Try.func42, Try.ntmps42
  go_wp2
  go_loopw [5] (fun i wr => ∃ k : Nat, k ≤ l.length ∧ i = .int .i64 k ∧ Below w.heap.size w wr) (fun i _ => l.length - (intOf i).toNat)
  case atStart => exact ⟨0, Nat.zero_le _, rfl, Below.refl _ _⟩
  case round =>
    obtain ⟨k, hk, rfl, hB0⟩ := hrel
    by_cases hlt : k < l.length
    · have hne : l ≠ [] := by intro e; rw [e] at hlt; simp at hlt
      obtain ⟨b, off, rfl, hc⟩ := HC.out hne
      obtain ⟨b', off', rfl, hc'⟩ := HC'.out hne
      obtain ⟨x, hx⟩ : ∃ x, l[k]? = some x := ⟨l[k], by simp [hlt]⟩
      obtain ⟨rr, hrep, hcell⟩ := hc k x hx
      obtain ⟨rr', hrep', hcell'⟩ := hc' k x hx
      have HI := Lib.hid (show (Try.prog.info? 37).map (·.size) = some rr.length by rw [Rep.len hrep]; exact size_implCell)
      have HI' := Lib.hid (show (Try.prog.info? 37).map (·.size) = some rr'.length by rw [Rep.len hrep']; exact size_implCell)
      have HL := Lib.hid (show ∀ (j : Nat) u, rr[j]? = some u → wr.drew.cell? ⟨b, off + k * 6 + j, none⟩ = some u from fun j u hu => (hB0.cell (p := ⟨b, _, none⟩) (World.block_lt_of_cell? w _ (hcell j u hu))).trans (hcell j u hu))
      have HL' := Lib.hid (show ∀ (j : Nat) u, rr'[j]? = some u → wr.drew.cell? ⟨b', off' + k * 6 + j, none⟩ = some u from fun j u hu => (hB0.cell (p := ⟨b', _, none⟩) (World.block_lt_of_cell? w _ (hcell' j u hu))).trans (hcell' j u hu))
      have HR := Lib.hid hrep
      have HR' := Lib.hid hrep'
      clear hc hcell hrep hc' hcell' hrep' hne hx
      go_wp2
      refine wp_region_still_tail 8 (by kernel_rfl) (by kernel_rfl) ?_
      simp only [List.take_succ_cons, List.take_zero, List.drop_succ_cons, List.drop_zero]
      change wpStill _ _ wr.drew _ _ _
      repeat (first | (with_reducible refine wpStill_load_agg rfl 37 _ rfl b _ rfl rr _ HL.out Try.underlying37 HI.out ?_) | (with_reducible refine wpStill_load_agg rfl 37 _ rfl b' _ rfl rr' _ HL'.out Try.underlying37 HI'.out ?_) | still_step)
      refine wpStill_nil ?_
      change wpList _ _ _ _ _ wr.drew
      go_wp2_with (go_at_call 74; refine (eqCell_refl _ rr rr' x (Rep.mono HR.out hB0.drew) (Rep.mono HR'.out hB0.drew)).mono ?_; rintro e W1 ⟨_, rfl, rfl, hb⟩; have hB1 : Below w.heap.size w W1 := bel_next hB0.drew hb; clear hb)
      go_roundw
      case rel => exact ⟨k + 1, by omega, by go_num, hB1⟩
      case measure => simp [intOf]; omega
    · obtain rfl : k = l.length := by omega
      go_wp2
      go_ret
      exact ⟨_, rfl, rfl, hB0⟩
set_option maxRecDepth 100000 in
set_option maxHeartbeats 1000000 in
theorem eqGrid_refl (w : World) (cs cs' : List Value) (x : DGrid) (h : Rep.rep w cs x) (h' : Rep.rep w cs' x) :
    Calls Try.prog 14 #[.agg cs.toArray, .agg cs'.toArray] w (Gives w fun r _ => r = .bool true) := by
  obtain ⟨v0, rfl, h0, h1, h2⟩ := DGrid.rep_iff.1 h
  clear h
  obtain ⟨u0, rfl, -, -, k2⟩ := DGrid.rep_iff.1 h'
  clear h'
  have Hh2 := Lib.hid h2
  clear h2
  have Kh2 := Lib.hid k2
  clear k2
  go_enter Try.func14, Try.ntmps14
  go_wp2_with fail
  go_at_call 42; refine (eqCellS_refl _ v0 u0 x.Cells (Hh2.out.mono (by repeat (first | (with_reducible exact Below.refl _ _) | (with_reducible assumption) | (with_reducible refine bel_alloc ?_ _) | ((with_reducible refine bel_set ?_ ?_ _); rotate_left; (focus first | (simp; done) | (simp; omega)))))) (Kh2.out.mono (by repeat (first | (with_reducible exact Below.refl _ _) | (with_reducible assumption) | (with_reducible refine bel_alloc ?_ _) | ((with_reducible refine bel_set ?_ ?_ _); rotate_left; (focus first | (simp; done) | (simp; omega))))))).mono ?_; rintro e W0 ⟨_, rfl, rfl, hb⟩; have hB0 : Below w.heap.size w W0 := bel_next (by repeat (first | (with_reducible exact Below.refl _ _) | (with_reducible assumption) | (with_reducible refine bel_alloc ?_ _) | ((with_reducible refine bel_set ?_ ?_ _); rotate_left; (focus first | (simp; done) | (simp; omega))))) hb; have hc0 := bel_cell hb; have hz := hb.size; (try simp only [World.size_alloc, World.size_setCell] at hz); have hy0 : w.heap.size + 1 < W0.heap.size := (by omega); have hx0 : w.heap.size < W0.heap.size := (by omega); clear hb hz
  go_wp2_with fail
  go_ret
  exact ⟨_, rfl, rfl, (by repeat (first | (with_reducible exact Below.refl _ _) | (with_reducible assumption) | (with_reducible refine bel_alloc ?_ _) | ((with_reducible refine bel_set ?_ ?_ _); rotate_left; (focus first | (simp; done) | (simp; omega)))))⟩
set_option maxRecDepth 100000 in
set_option maxHeartbeats 1000000 in
theorem eqRow_refl (w : World) (cs cs' : List Value) (x : DRow) (h : Rep.rep w cs x) (h' : Rep.rep w cs' x) :
    Calls Try.prog 75 #[.agg cs.toArray, .agg cs'.toArray] w (Gives w fun r _ => r = .bool true) := by
  obtain ⟨v0, rfl, h0⟩ := DRow.rep_iff.1 h
  clear h
  obtain ⟨u0, rfl, k0⟩ := DRow.rep_iff.1 h'
  clear h'
  have Hh0 := Lib.hid h0
  clear h0
  have Kh0 := Lib.hid k0
  clear k0
  go_enter Try.func75, Try.ntmps75
  go_wp2_with fail
  go_at_call 42; refine (eqCellS_refl _ v0 u0 x.Cells (Hh0.out.mono (by repeat (first | (with_reducible exact Below.refl _ _) | (with_reducible assumption) | (with_reducible refine bel_alloc ?_ _) | ((with_reducible refine bel_set ?_ ?_ _); rotate_left; (focus first | (simp; done) | (simp; omega)))))) (Kh0.out.mono (by repeat (first | (with_reducible exact Below.refl _ _) | (with_reducible assumption) | (with_reducible refine bel_alloc ?_ _) | ((with_reducible refine bel_set ?_ ?_ _); rotate_left; (focus first | (simp; done) | (simp; omega))))))).mono ?_; rintro e W0 ⟨_, rfl, rfl, hb⟩; have hB0 : Below w.heap.size w W0 := bel_next (by repeat (first | (with_reducible exact Below.refl _ _) | (with_reducible assumption) | (with_reducible refine bel_alloc ?_ _) | ((with_reducible refine bel_set ?_ ?_ _); rotate_left; (focus first | (simp; done) | (simp; omega))))) hb; have hc0 := bel_cell hb; have hz := hb.size; (try simp only [World.size_alloc, World.size_setCell] at hz); have hy0 : w.heap.size + 1 < W0.heap.size := (by omega); have hx0 : w.heap.size < W0.heap.size := (by omega); clear hb hz
  go_wp2_with fail
  go_ret
  exact ⟨_, rfl, rfl, (by repeat (first | (with_reducible exact Below.refl _ _) | (with_reducible assumption) | (with_reducible refine bel_alloc ?_ _) | ((with_reducible refine bel_set ?_ ?_ _); rotate_left; (focus first | (simp; done) | (simp; omega)))))⟩
set_option maxRecDepth 100000 in
set_option maxHeartbeats 1000000 in
theorem eqRowS_refl (w : World) (v v' : Value) (l : List DRow) (h : RepS w v l) (h' : RepS w v' l) :
    Calls Try.prog 45 #[v, v'] w (Gives w fun r _ => r = .bool true) := by
  obtain ⟨a, cap, rfl, hl, hc⟩ := h
  obtain ⟨a', cap', rfl, -, hc'⟩ := h'
  have HC := Lib.hid hc
  have HC' := Lib.hid hc'
  clear hc hc'
  go_enter Try.func45, Try.ntmps45
  go_wp2
  go_loopw [5] (fun i wr => ∃ k : Nat, k ≤ l.length ∧ i = .int .i64 k ∧ Below w.heap.size w wr) (fun i _ => l.length - (intOf i).toNat)
  case atStart => exact ⟨0, Nat.zero_le _, rfl, Below.refl _ _⟩
  case round =>
    obtain ⟨k, hk, rfl, hB0⟩ := hrel
    by_cases hlt : k < l.length
    · have hne : l ≠ [] := by intro e; rw [e] at hlt; simp at hlt
      obtain ⟨b, off, rfl, hc⟩ := HC.out hne
      obtain ⟨b', off', rfl, hc'⟩ := HC'.out hne
      obtain ⟨x, hx⟩ : ∃ x, l[k]? = some x := ⟨l[k], by simp [hlt]⟩
      obtain ⟨rr, hrep, hcell⟩ := hc k x hx
      simp only [show k * Rep.size DRow = k from Nat.mul_one k] at hcell
      obtain ⟨rr', hrep', hcell'⟩ := hc' k x hx
      simp only [show k * Rep.size DRow = k from Nat.mul_one k] at hcell'
      have HI := Lib.hid (show (Try.prog.info? 39).map (·.size) = some rr.length by rw [Rep.len hrep]; exact size_implRow)
      have HI' := Lib.hid (show (Try.prog.info? 39).map (·.size) = some rr'.length by rw [Rep.len hrep']; exact size_implRow)
      have HL := Lib.hid (show ∀ (j : Nat) u, rr[j]? = some u → wr.drew.cell? ⟨b, off + k + j, none⟩ = some u from fun j u hu => (hB0.cell (p := ⟨b, _, none⟩) (World.block_lt_of_cell? w _ (hcell j u hu))).trans (hcell j u hu))
      have HL' := Lib.hid (show ∀ (j : Nat) u, rr'[j]? = some u → wr.drew.cell? ⟨b', off' + k + j, none⟩ = some u from fun j u hu => (hB0.cell (p := ⟨b', _, none⟩) (World.block_lt_of_cell? w _ (hcell' j u hu))).trans (hcell' j u hu))
      have HR := Lib.hid hrep
      have HR' := Lib.hid hrep'
      clear hc hcell hrep hc' hcell' hrep' hne hx
      go_wp2
      refine wp_region_still_tail 8 (by kernel_rfl) (by kernel_rfl) ?_
      simp only [List.take_succ_cons, List.take_zero, List.drop_succ_cons, List.drop_zero]
      change wpStill _ _ wr.drew _ _ _
      repeat (first | (with_reducible refine wpStill_load_agg rfl 39 _ rfl b _ rfl rr _ HL.out Try.underlying39 HI.out ?_) | (with_reducible refine wpStill_load_agg rfl 39 _ rfl b' _ rfl rr' _ HL'.out Try.underlying39 HI'.out ?_) | still_step)
      refine wpStill_nil ?_
      change wpList _ _ _ _ _ wr.drew
      go_wp2_with (go_at_call 75; refine (eqRow_refl _ rr rr' x (Rep.mono HR.out hB0.drew) (Rep.mono HR'.out hB0.drew)).mono ?_; rintro e W1 ⟨_, rfl, rfl, hb⟩; have hB1 : Below w.heap.size w W1 := bel_next hB0.drew hb; clear hb)
      go_roundw
      case rel => exact ⟨k + 1, by omega, by go_num, hB1⟩
      case measure => simp [intOf]; omega
    · obtain rfl : k = l.length := by omega
      go_wp2
      go_ret
      exact ⟨_, rfl, rfl, hB0⟩
set_option maxRecDepth 100000 in
set_option maxHeartbeats 2000000 in
theorem eqScr_refl (w : World) (cs cs' : List Value) (x : DScr) (h : Rep.rep w cs x) (h' : Rep.rep w cs' x) :
    Calls Try.prog 15 #[.agg cs.toArray, .agg cs'.toArray] w (Gives w fun r _ => r = .bool true) := by
  obtain ⟨v0, v1, v2, v3, rfl, h0, h1, h2, h3, h4, h5, h6, h7, h8, h9, h10, h11, h12, h13, h14, h15, h16, h17, h18, h19, h20⟩ := DScr.rep_iff.1 h
  clear h
  obtain ⟨u0, u1, u2, u3, rfl, -, -, -, -, k4, -, -, k7, -, -, -, -, -, -, -, -, -, -, k18, -, k20⟩ := DScr.rep_iff.1 h'
  clear h'
  have Hh4 := Lib.hid h4
  clear h4
  have Kh4 := Lib.hid k4
  clear k4
  have Hh7 := Lib.hid h7
  clear h7
  have Kh7 := Lib.hid k7
  clear k7
  have Hh18 := Lib.hid h18
  clear h18
  have Kh18 := Lib.hid k18
  clear k18
  have Hh20 := Lib.hid h20
  clear h20
  have Kh20 := Lib.hid k20
  clear k20
  go_enter Try.func15, Try.ntmps15
  go_wp2_with fail
  generalize hwb : World.alloc (World.alloc w _) _ = W0
  have HB0 := Lib.hid (show Below w.heap.size w W0 from by rw [← hwb]; exact bel_alloc (bel_alloc (Below.refl _ _) _) _)
  have hz0 : w.heap.size + 1 < W0.heap.size := by rw [← hwb]; simp
  have hr0 : W0.heap[w.heap.size]? = some (.cells #[.int .i64 x.W, .int .i64 x.H, .int .i64 x.Main.W, .int .i64 x.Main.H, v0, .int .i64 x.Alt.W, .int .i64 x.Alt.H, v1, .bool x.OnAlt, .int .i64 x.X, .int .i64 x.Y, .bool x.Wrap, .int .i64 x.A.Fg, .int .i64 x.A.Bg, .bool x.A.Bold, .bool x.A.Under, .bool x.A.Turn, .int .i64 x.Top, .int .i64 x.Bot, .bool x.NoWrap, .bool x.Hide, .int .i64 x.SaveX, .int .i64 x.SaveY, .int .i64 x.SaveA.Fg, .int .i64 x.SaveA.Bg, .bool x.SaveA.Bold, .bool x.SaveA.Under, .bool x.SaveA.Turn, v2, .int .i64 x.Limit, v3] 31 (0, 0)) := by rw [← hwb]; exact (Below.heap_alloc _ _ _ (by simp)).trans (new_at _ _ rfl)
  have hr1 : W0.heap[w.heap.size + 1]? = some (.cells #[.int .i64 x.W, .int .i64 x.H, .int .i64 x.Main.W, .int .i64 x.Main.H, u0, .int .i64 x.Alt.W, .int .i64 x.Alt.H, u1, .bool x.OnAlt, .int .i64 x.X, .int .i64 x.Y, .bool x.Wrap, .int .i64 x.A.Fg, .int .i64 x.A.Bg, .bool x.A.Bold, .bool x.A.Under, .bool x.A.Turn, .int .i64 x.Top, .int .i64 x.Bot, .bool x.NoWrap, .bool x.Hide, .int .i64 x.SaveX, .int .i64 x.SaveY, .int .i64 x.SaveA.Fg, .int .i64 x.SaveA.Bg, .bool x.SaveA.Bold, .bool x.SaveA.Under, .bool x.SaveA.Turn, u2, .int .i64 x.Limit, u3] 31 (0, 0)) := by rw [← hwb]; exact new_at _ _ (by simp)
  have b0 : W0.cell? ⟨w.heap.size, 0, none⟩ = some (.int .i64 x.W) := by simp only [World.cell?, hr0]; rfl
  have b1 : W0.cell? ⟨w.heap.size, 1, none⟩ = some (.int .i64 x.H) := by simp only [World.cell?, hr0]; rfl
  have b2 : W0.cell? ⟨w.heap.size, 2, none⟩ = some (.int .i64 x.Main.W) := by simp only [World.cell?, hr0]; rfl
  have b3 : W0.cell? ⟨w.heap.size, 3, none⟩ = some (.int .i64 x.Main.H) := by simp only [World.cell?, hr0]; rfl
  have b4 : W0.cell? ⟨w.heap.size, 4, none⟩ = some (v0) := by simp only [World.cell?, hr0]; rfl
  have b5 : W0.cell? ⟨w.heap.size, 5, none⟩ = some (.int .i64 x.Alt.W) := by simp only [World.cell?, hr0]; rfl
  have b6 : W0.cell? ⟨w.heap.size, 6, none⟩ = some (.int .i64 x.Alt.H) := by simp only [World.cell?, hr0]; rfl
  have b7 : W0.cell? ⟨w.heap.size, 7, none⟩ = some (v1) := by simp only [World.cell?, hr0]; rfl
  have b8 : W0.cell? ⟨w.heap.size, 8, none⟩ = some (.bool x.OnAlt) := by simp only [World.cell?, hr0]; rfl
  have b9 : W0.cell? ⟨w.heap.size, 9, none⟩ = some (.int .i64 x.X) := by simp only [World.cell?, hr0]; rfl
  have b10 : W0.cell? ⟨w.heap.size, 10, none⟩ = some (.int .i64 x.Y) := by simp only [World.cell?, hr0]; rfl
  have b11 : W0.cell? ⟨w.heap.size, 11, none⟩ = some (.bool x.Wrap) := by simp only [World.cell?, hr0]; rfl
  have b12 : W0.cell? ⟨w.heap.size, 12, none⟩ = some (.int .i64 x.A.Fg) := by simp only [World.cell?, hr0]; rfl
  have b13 : W0.cell? ⟨w.heap.size, 13, none⟩ = some (.int .i64 x.A.Bg) := by simp only [World.cell?, hr0]; rfl
  have b14 : W0.cell? ⟨w.heap.size, 14, none⟩ = some (.bool x.A.Bold) := by simp only [World.cell?, hr0]; rfl
  have b15 : W0.cell? ⟨w.heap.size, 15, none⟩ = some (.bool x.A.Under) := by simp only [World.cell?, hr0]; rfl
  have b16 : W0.cell? ⟨w.heap.size, 16, none⟩ = some (.bool x.A.Turn) := by simp only [World.cell?, hr0]; rfl
  have b17 : W0.cell? ⟨w.heap.size, 17, none⟩ = some (.int .i64 x.Top) := by simp only [World.cell?, hr0]; rfl
  have b18 : W0.cell? ⟨w.heap.size, 18, none⟩ = some (.int .i64 x.Bot) := by simp only [World.cell?, hr0]; rfl
  have b19 : W0.cell? ⟨w.heap.size, 19, none⟩ = some (.bool x.NoWrap) := by simp only [World.cell?, hr0]; rfl
  have b20 : W0.cell? ⟨w.heap.size, 20, none⟩ = some (.bool x.Hide) := by simp only [World.cell?, hr0]; rfl
  have b21 : W0.cell? ⟨w.heap.size, 21, none⟩ = some (.int .i64 x.SaveX) := by simp only [World.cell?, hr0]; rfl
  have b22 : W0.cell? ⟨w.heap.size, 22, none⟩ = some (.int .i64 x.SaveY) := by simp only [World.cell?, hr0]; rfl
  have b23 : W0.cell? ⟨w.heap.size, 23, none⟩ = some (.int .i64 x.SaveA.Fg) := by simp only [World.cell?, hr0]; rfl
  have b24 : W0.cell? ⟨w.heap.size, 24, none⟩ = some (.int .i64 x.SaveA.Bg) := by simp only [World.cell?, hr0]; rfl
  have b25 : W0.cell? ⟨w.heap.size, 25, none⟩ = some (.bool x.SaveA.Bold) := by simp only [World.cell?, hr0]; rfl
  have b26 : W0.cell? ⟨w.heap.size, 26, none⟩ = some (.bool x.SaveA.Under) := by simp only [World.cell?, hr0]; rfl
  have b27 : W0.cell? ⟨w.heap.size, 27, none⟩ = some (.bool x.SaveA.Turn) := by simp only [World.cell?, hr0]; rfl
  have b28 : W0.cell? ⟨w.heap.size, 28, none⟩ = some (v2) := by simp only [World.cell?, hr0]; rfl
  have b29 : W0.cell? ⟨w.heap.size, 29, none⟩ = some (.int .i64 x.Limit) := by simp only [World.cell?, hr0]; rfl
  have b30 : W0.cell? ⟨w.heap.size, 30, none⟩ = some (v3) := by simp only [World.cell?, hr0]; rfl
  have d0 : W0.cell? ⟨w.heap.size + 1, 0, none⟩ = some (.int .i64 x.W) := by simp only [World.cell?, hr1]; rfl
  have d1 : W0.cell? ⟨w.heap.size + 1, 1, none⟩ = some (.int .i64 x.H) := by simp only [World.cell?, hr1]; rfl
  have d2 : W0.cell? ⟨w.heap.size + 1, 2, none⟩ = some (.int .i64 x.Main.W) := by simp only [World.cell?, hr1]; rfl
  have d3 : W0.cell? ⟨w.heap.size + 1, 3, none⟩ = some (.int .i64 x.Main.H) := by simp only [World.cell?, hr1]; rfl
  have d4 : W0.cell? ⟨w.heap.size + 1, 4, none⟩ = some (u0) := by simp only [World.cell?, hr1]; rfl
  have d5 : W0.cell? ⟨w.heap.size + 1, 5, none⟩ = some (.int .i64 x.Alt.W) := by simp only [World.cell?, hr1]; rfl
  have d6 : W0.cell? ⟨w.heap.size + 1, 6, none⟩ = some (.int .i64 x.Alt.H) := by simp only [World.cell?, hr1]; rfl
  have d7 : W0.cell? ⟨w.heap.size + 1, 7, none⟩ = some (u1) := by simp only [World.cell?, hr1]; rfl
  have d8 : W0.cell? ⟨w.heap.size + 1, 8, none⟩ = some (.bool x.OnAlt) := by simp only [World.cell?, hr1]; rfl
  have d9 : W0.cell? ⟨w.heap.size + 1, 9, none⟩ = some (.int .i64 x.X) := by simp only [World.cell?, hr1]; rfl
  have d10 : W0.cell? ⟨w.heap.size + 1, 10, none⟩ = some (.int .i64 x.Y) := by simp only [World.cell?, hr1]; rfl
  have d11 : W0.cell? ⟨w.heap.size + 1, 11, none⟩ = some (.bool x.Wrap) := by simp only [World.cell?, hr1]; rfl
  have d12 : W0.cell? ⟨w.heap.size + 1, 12, none⟩ = some (.int .i64 x.A.Fg) := by simp only [World.cell?, hr1]; rfl
  have d13 : W0.cell? ⟨w.heap.size + 1, 13, none⟩ = some (.int .i64 x.A.Bg) := by simp only [World.cell?, hr1]; rfl
  have d14 : W0.cell? ⟨w.heap.size + 1, 14, none⟩ = some (.bool x.A.Bold) := by simp only [World.cell?, hr1]; rfl
  have d15 : W0.cell? ⟨w.heap.size + 1, 15, none⟩ = some (.bool x.A.Under) := by simp only [World.cell?, hr1]; rfl
  have d16 : W0.cell? ⟨w.heap.size + 1, 16, none⟩ = some (.bool x.A.Turn) := by simp only [World.cell?, hr1]; rfl
  have d17 : W0.cell? ⟨w.heap.size + 1, 17, none⟩ = some (.int .i64 x.Top) := by simp only [World.cell?, hr1]; rfl
  have d18 : W0.cell? ⟨w.heap.size + 1, 18, none⟩ = some (.int .i64 x.Bot) := by simp only [World.cell?, hr1]; rfl
  have d19 : W0.cell? ⟨w.heap.size + 1, 19, none⟩ = some (.bool x.NoWrap) := by simp only [World.cell?, hr1]; rfl
  have d20 : W0.cell? ⟨w.heap.size + 1, 20, none⟩ = some (.bool x.Hide) := by simp only [World.cell?, hr1]; rfl
  have d21 : W0.cell? ⟨w.heap.size + 1, 21, none⟩ = some (.int .i64 x.SaveX) := by simp only [World.cell?, hr1]; rfl
  have d22 : W0.cell? ⟨w.heap.size + 1, 22, none⟩ = some (.int .i64 x.SaveY) := by simp only [World.cell?, hr1]; rfl
  have d23 : W0.cell? ⟨w.heap.size + 1, 23, none⟩ = some (.int .i64 x.SaveA.Fg) := by simp only [World.cell?, hr1]; rfl
  have d24 : W0.cell? ⟨w.heap.size + 1, 24, none⟩ = some (.int .i64 x.SaveA.Bg) := by simp only [World.cell?, hr1]; rfl
  have d25 : W0.cell? ⟨w.heap.size + 1, 25, none⟩ = some (.bool x.SaveA.Bold) := by simp only [World.cell?, hr1]; rfl
  have d26 : W0.cell? ⟨w.heap.size + 1, 26, none⟩ = some (.bool x.SaveA.Under) := by simp only [World.cell?, hr1]; rfl
  have d27 : W0.cell? ⟨w.heap.size + 1, 27, none⟩ = some (.bool x.SaveA.Turn) := by simp only [World.cell?, hr1]; rfl
  have d28 : W0.cell? ⟨w.heap.size + 1, 28, none⟩ = some (u2) := by simp only [World.cell?, hr1]; rfl
  have d29 : W0.cell? ⟨w.heap.size + 1, 29, none⟩ = some (.int .i64 x.Limit) := by simp only [World.cell?, hr1]; rfl
  have d30 : W0.cell? ⟨w.heap.size + 1, 30, none⟩ = some (u3) := by simp only [World.cell?, hr1]; rfl
  clear hwb hr0 hr1
  refine (eqGrid_refl _ [_, _, _] [_, _, _] x.Main (DGrid.rep_iff.2 ⟨v0, rfl, h2, h3, (Hh4.out.mono HB0.out)⟩) (DGrid.rep_iff.2 ⟨u0, rfl, h2, h3, (Kh4.out.mono HB0.out)⟩)).mono ?_
  rintro e W1 ⟨_, rfl, rfl, hb⟩
  have HB1 := Lib.hid (bel_next HB0.out hb)
  have hz1 : w.heap.size + 1 < W1.heap.size := Nat.lt_of_lt_of_le hz0 hb.size
  have kA1 : ∀ o, W1.cell? ⟨w.heap.size, o, none⟩ = W0.cell? ⟨w.heap.size, o, none⟩ := fun o => (cell_of_heap (hb.block _ (by omega)) o)
  have kB1 : ∀ o, W1.cell? ⟨w.heap.size + 1, o, none⟩ = W0.cell? ⟨w.heap.size + 1, o, none⟩ := fun o => (cell_of_heap (hb.block _ (by omega)) o)
  clear hb
  go_wp2_with fail
  refine (eqGrid_refl _ [_, _, _] [_, _, _] x.Alt (DGrid.rep_iff.2 ⟨v1, rfl, h5, h6, (Hh7.out.mono HB1.out)⟩) (DGrid.rep_iff.2 ⟨u1, rfl, h5, h6, (Kh7.out.mono HB1.out)⟩)).mono ?_
  rintro e W2 ⟨_, rfl, rfl, hb⟩
  have HB2 := Lib.hid (bel_next HB1.out hb)
  have hz2 : w.heap.size + 1 < W2.heap.size := Nat.lt_of_lt_of_le hz1 hb.size
  have kA2 : ∀ o, W2.cell? ⟨w.heap.size, o, none⟩ = W0.cell? ⟨w.heap.size, o, none⟩ := fun o => (cell_of_heap (hb.block _ (by omega)) o).trans (kA1 o)
  have kB2 : ∀ o, W2.cell? ⟨w.heap.size + 1, o, none⟩ = W0.cell? ⟨w.heap.size + 1, o, none⟩ := fun o => (cell_of_heap (hb.block _ (by omega)) o).trans (kB1 o)
  clear hb kA1 kB1
  go_wp2_with fail
  refine (eqAttr_refl _ [_, _, _, _, _] [_, _, _, _, _] x.A (DAttr.rep_iff.2 ⟨rfl, h10, h11⟩) (DAttr.rep_iff.2 ⟨rfl, h10, h11⟩)).mono ?_
  rintro e W3 ⟨_, rfl, rfl, hb⟩
  have HB3 := Lib.hid (bel_next HB2.out hb)
  have hz3 : w.heap.size + 1 < W3.heap.size := Nat.lt_of_lt_of_le hz2 hb.size
  have kA3 : ∀ o, W3.cell? ⟨w.heap.size, o, none⟩ = W0.cell? ⟨w.heap.size, o, none⟩ := fun o => (cell_of_heap (hb.block _ (by omega)) o).trans (kA2 o)
  have kB3 : ∀ o, W3.cell? ⟨w.heap.size + 1, o, none⟩ = W0.cell? ⟨w.heap.size + 1, o, none⟩ := fun o => (cell_of_heap (hb.block _ (by omega)) o).trans (kB2 o)
  clear hb kA2 kB2
  go_wp2_with fail
  refine (eqAttr_refl _ [_, _, _, _, _] [_, _, _, _, _] x.SaveA (DAttr.rep_iff.2 ⟨rfl, h16, h17⟩) (DAttr.rep_iff.2 ⟨rfl, h16, h17⟩)).mono ?_
  rintro e W4 ⟨_, rfl, rfl, hb⟩
  have HB4 := Lib.hid (bel_next HB3.out hb)
  have hz4 : w.heap.size + 1 < W4.heap.size := Nat.lt_of_lt_of_le hz3 hb.size
  have kA4 : ∀ o, W4.cell? ⟨w.heap.size, o, none⟩ = W0.cell? ⟨w.heap.size, o, none⟩ := fun o => (cell_of_heap (hb.block _ (by omega)) o).trans (kA3 o)
  have kB4 : ∀ o, W4.cell? ⟨w.heap.size + 1, o, none⟩ = W0.cell? ⟨w.heap.size + 1, o, none⟩ := fun o => (cell_of_heap (hb.block _ (by omega)) o).trans (kB3 o)
  clear hb kA3 kB3
  go_wp2_with fail
  refine (eqIntS_refl _ v2 u2 x.Tabs (Hh18.out.mono HB4.out) (Kh18.out.mono HB4.out)).mono ?_
  rintro e W5 ⟨_, rfl, rfl, hb⟩
  have HB5 := Lib.hid (bel_next HB4.out hb)
  have hz5 : w.heap.size + 1 < W5.heap.size := Nat.lt_of_lt_of_le hz4 hb.size
  have kA5 : ∀ o, W5.cell? ⟨w.heap.size, o, none⟩ = W0.cell? ⟨w.heap.size, o, none⟩ := fun o => (cell_of_heap (hb.block _ (by omega)) o).trans (kA4 o)
  have kB5 : ∀ o, W5.cell? ⟨w.heap.size + 1, o, none⟩ = W0.cell? ⟨w.heap.size + 1, o, none⟩ := fun o => (cell_of_heap (hb.block _ (by omega)) o).trans (kB4 o)
  clear hb kA4 kB4
  go_wp2_with fail
  refine (eqRowS_refl _ v3 u3 x.Back (Hh20.out.mono HB5.out) (Kh20.out.mono HB5.out)).mono ?_
  rintro e W6 ⟨_, rfl, rfl, hb⟩
  have HB6 := Lib.hid (bel_next HB5.out hb)
  have hz6 : w.heap.size + 1 < W6.heap.size := Nat.lt_of_lt_of_le hz5 hb.size
  have kA6 : ∀ o, W6.cell? ⟨w.heap.size, o, none⟩ = W0.cell? ⟨w.heap.size, o, none⟩ := fun o => (cell_of_heap (hb.block _ (by omega)) o).trans (kA5 o)
  have kB6 : ∀ o, W6.cell? ⟨w.heap.size + 1, o, none⟩ = W0.cell? ⟨w.heap.size + 1, o, none⟩ := fun o => (cell_of_heap (hb.block _ (by omega)) o).trans (kB5 o)
  clear hb kA5 kB5
  go_wp2_with fail
  go_ret
  exact ⟨_, rfl, rfl, HB6.out⟩
end Go.Proofs.Ytaobgfneeijpmaa
