/- Grids of the same cells: slices.Equal at cells, the program's SameGrid; the program's Shown. -/
import Derived.Test.YtaobgfneeijpmaaFnLookK
import Derived.Test.YtaobgfneeijpmaaExt
set_option linter.unusedSimpArgs false
set_option linter.unusedVariables false
namespace Go.Proofs.Ytaobgfneeijpmaa
open Go.RowKit Go.Mux
theorem eq_attr_refl (d : Nat) (a : DAttr) (w : World) : (Op.equalIn (d + 2) 27 (.agg #[.int .i64 a.Fg, .int .i64 a.Bg, .bool a.Bold, .bool a.Under, .bool a.Turn]) (.agg #[.int .i64 a.Fg, .int .i64 a.Bg, .bool a.Bold, .bool a.Under, .bool a.Turn])).run Try.prog w = .ok true w := by
  have hS : Try.prog.underlying 27 = some (.struct (Try.prog.fieldsOf 27)) := by kernel_rfl
  have hp : Try.prog.stoodInHeld 27 = false := by kernel_rfl
  have u1 := Try.underlying3
  have u2 := Try.underlying4
  rw [run_equalIn_agg w (d + 1) 27 _ _ hS hp]
  simp only [Program.fieldsOf, Try.underlying27]
  go_simp
set_option maxRecDepth 100000 in
set_option maxHeartbeats 1000000 in
theorem eq_cell_refl (a : DCell) (w : World) : (Op.equalIn 10000 37 (.agg #[.int .i64 a.R, .int .i64 a.A.Fg, .int .i64 a.A.Bg, .bool a.A.Bold, .bool a.A.Under, .bool a.A.Turn]) (.agg #[.int .i64 a.R, .int .i64 a.A.Fg, .int .i64 a.A.Bg, .bool a.A.Bold, .bool a.A.Under, .bool a.A.Turn])).run Try.prog w = .ok true w := by
  have hS : Try.prog.underlying 37 = some (.struct (Try.prog.fieldsOf 37)) := by kernel_rfl
  have hp : Try.prog.stoodInHeld 37 = false := by kernel_rfl
  have u1 := Try.underlying3
  have hn := fun w => eq_attr_refl 9997 a.A w
  rw [show (10000 : Nat) = 9999 + 1 from rfl, run_equalIn_agg w 9999 37 _ _ hS hp]
  simp only [Program.fieldsOf, Try.underlying37]
  clear hS hp
  go_simp
set_option maxRecDepth 100000 in
set_option maxHeartbeats 1000000 in
theorem equal_cells (w : World) (v v' : Value) (l : List DCell) (h : RepS w v l) (h' : RepS w v' l) : Calls Try.prog 22 #[v, v'] w (Says w true) := by
  obtain ⟨a, cap, rfl, hl, hc⟩ := h
  obtain ⟨a', cap', rfl, -, hc'⟩ := h'
  have HC := Lib.hid hc
  have HC' := Lib.hid hc'
  clear hc hc'
  go_enter Try.func22, Try.ntmps22
  go_wp2_with fail
  go_loopw [13] (fun i wr => ∃ k : Nat, k ≤ l.length ∧ i = .int .i64 k ∧ Hid (Below w.heap.size w wr)) (fun i _ => l.length - (intOf i).toNat)
  case atStart => exact ⟨0, Nat.zero_le _, rfl, Below.refl _ _⟩
  case round =>
    obtain ⟨k, hk, rfl, HB⟩ := hrel
    have hB0 := HB.out
    by_cases hlt : k < l.length
    · have hne' : l ≠ [] := by intro e; rw [e] at hlt; simp at hlt
      obtain ⟨b', off', rfl, hc'⟩ := HC'.out hne'
      have hne : l ≠ [] := by intro e; rw [e] at hlt; simp at hlt
      obtain ⟨b, off, rfl, hc⟩ := HC.out hne
      obtain ⟨y, hx⟩ : ∃ y, l[k]? = some y := ⟨l[k], by simp [hlt]⟩
      obtain ⟨rr, hrep, hcell⟩ := hc k y hx
      have HI := Lib.hid (show (Try.prog.info? 37).map (·.size) = some rr.length by rw [Rep.len hrep]; exact size_implCell)
      have HL := Lib.hid (show ∀ (j : Nat) u, rr[j]? = some u → wr.cell? ⟨b, off + k * 6 + j, none⟩ = some u from fun j u hu => (hB0.cell (p := ⟨b, _, none⟩) (World.block_lt_of_cell? w _ (hcell j u hu))).trans (hcell j u hu))
      have HR := Lib.hid hrep
      have HX := Lib.hid hx
      obtain rfl := DCell.shape hrep
      clear hc hcell hrep hne hx
      obtain ⟨r2, hr2, hcell2⟩ := hc' k y HX.out
      obtain rfl := DCell.shape hr2
      have c2 := fun (j : Nat) u (hu : _) => (hB0.cell (p := ⟨b', off' + k * 6 + j, none⟩) (World.block_lt_of_cell? w _ (hcell2 j u hu))).trans (hcell2 j u hu)
      have k0 : (0 : Int) ≤ (k : Int) := by omega
      have k1 : (k : Int) < (l.length : Int) := by omega
      have q0 := ext_cell (W := wr) (b := b) (o := off + k * 6) (v := .int .i64 y.R) (by simpa using HL.out 0 _ rfl)
      have q1 := ext_cell (W := wr) (b := b) (o := off + k * 6 + 1) (v := .int .i64 y.A.Fg) (HL.out 1 _ rfl)
      have q2 := ext_cell (W := wr) (b := b) (o := off + k * 6 + 2) (v := .int .i64 y.A.Bg) (HL.out 2 _ rfl)
      have q3 := ext_cell (W := wr) (b := b) (o := off + k * 6 + 3) (v := .bool y.A.Bold) (HL.out 3 _ rfl)
      have q4 := ext_cell (W := wr) (b := b) (o := off + k * 6 + 4) (v := .bool y.A.Under) (HL.out 4 _ rfl)
      have q5 := ext_cell (W := wr) (b := b) (o := off + k * 6 + 5) (v := .bool y.A.Turn) (HL.out 5 _ rfl)
      have p0 := ext_cell (W := wr) (b := b') (o := off' + k * 6) (v := .int .i64 y.R) (by simpa using c2 0 _ rfl)
      have p1 := ext_cell (W := wr) (b := b') (o := off' + k * 6 + 1) (v := .int .i64 y.A.Fg) (c2 1 _ rfl)
      have p2 := ext_cell (W := wr) (b := b') (o := off' + k * 6 + 2) (v := .int .i64 y.A.Bg) (c2 2 _ rfl)
      have p3 := ext_cell (W := wr) (b := b') (o := off' + k * 6 + 3) (v := .bool y.A.Bold) (c2 3 _ rfl)
      have p4 := ext_cell (W := wr) (b := b') (o := off' + k * 6 + 4) (v := .bool y.A.Under) (c2 4 _ rfl)
      have p5 := ext_cell (W := wr) (b := b') (o := off' + k * 6 + 5) (v := .bool y.A.Turn) (c2 5 _ rfl)
      have hgd : Try.prog.eqGuardType Try.prog.depth 37 = false := by kernel_rfl
      have heq := eq_cell_refl y
      clear hc' hne' hr2 hcell2 c2 hB0
      go_wp2_with fail
      refine wp_region_ext (by kernel_rfl) (by kernel_rfl) ?_
      repeat (go_big_quiet_step (fail))
      refine wpQuiet_nil ?_
      intro _ hw'
      obtain ⟨eW, rfl⟩ := hw'
      have HB5 := Lib.hid (bel_next HB.out eW.bel)
      go_wp2_with fail
      go_roundw
      case rel => exact ⟨k + 1, by omega, by go_num, HB5.out⟩
      case measure => simp [intOf]; omega
    · obtain rfl : k = l.length := by omega
      go_wp2_with fail
      go_ret
      exact says_ret rfl HB.out
set_option maxRecDepth 100000 in
set_option maxHeartbeats 1000000 in
theorem impl_SameGrid_refl (w : World) (cs cs' : List Value) (x : DGrid) (h : Rep.rep w cs x) (h' : Rep.rep w cs' x) : Calls Try.prog 6 #[.agg cs.toArray, .agg cs'.toArray] w (Says w true) := by
  obtain ⟨v0, rfl, h0, h1, h2⟩ := DGrid.rep_iff.1 h
  obtain ⟨u0, rfl, -, -, k2⟩ := DGrid.rep_iff.1 h'
  have HR := Lib.hid h2
  have KR := Lib.hid k2
  clear h h' h0 h1 h2 k2
  go_enter Try.func6, Try.ntmps6
  go_wp2_with (go_at_call 22; refine (equal_cells _ v0 u0 x.Cells (HR.out.mono (by repeat (first | (with_reducible exact Below.refl _ _) | (with_reducible assumption) | (with_reducible refine bel_alloc ?_ _) | ((with_reducible refine bel_set ?_ ?_ _); rotate_left; (focus first | (simp; done) | (simp; omega)))))) (KR.out.mono (by repeat (first | (with_reducible exact Below.refl _ _) | (with_reducible assumption) | (with_reducible refine bel_alloc ?_ _) | ((with_reducible refine bel_set ?_ ?_ _); rotate_left; (focus first | (simp; done) | (simp; omega))))))).mono ?_; rintro e W1 ⟨_, rfl, rfl, hb⟩; have HB := Lib.hid (bel_next (show Below w.heap.size w _ from (by repeat (first | (with_reducible exact Below.refl _ _) | (with_reducible assumption) | (with_reducible refine bel_alloc ?_ _) | ((with_reducible refine bel_set ?_ ?_ _); rotate_left; (focus first | (simp; done) | (simp; omega)))))) hb); clear hb)
  go_ret
  exact says_ret rfl HB.out
end Go.Proofs.Ytaobgfneeijpmaa
