/- The contracts of Run as the law asks for them. -/
import Derived.Test.YtlkadeaomjoiiaaDoorFnRunS
set_option linter.unusedSimpArgs false
set_option linter.unusedVariables false
namespace Go.Mux
open Go.RowKit
theorem runOut_wt (x : DGrid) (y a b : Int) : (runOut x y a b).length ≤ 16384 := by
  cases h : runOk x y a b
  · rw [runOut_no h]; simp
  · rw [runOut_yes h]
    unfold runOk at h
    simp only [Bool.and_eq_true, decide_eq_true_eq] at h
    obtain ⟨g1, g2, g3, g4, g5⟩ := h
    obtain ⟨s1, s2, _⟩ := gridOkB_size g1
    have h1 := runCells_len (rowOf x y) a.toNat (b.toNat - a.toNat)
    have h2 : (gotoText a y).data.toList.length ≤ 24 := gotoText_size a y
    have h3 : b.toNat - a.toNat ≤ 120 := by omega
    unfold runBytes
    rw [List.length_append]
    omega
end Go.Mux
namespace Go.Proofs.YtlkadeaomjoiiaaDoor
open Go.RowKit Go.Mux
set_option maxRecDepth 100000 in
set_option maxHeartbeats 2000000 in
theorem spec_Run' (w : World) (cs : List Value) (x : DGrid) (y a b : Int) (h : Rep.rep w cs x) : Calls Tryd.prog 31 #[.agg cs.toArray, .int .i64 y, .int .i64 a, .int .i64 b] w (Gives w fun r w' => FreshS w.heap.size w' r (runOut x y a b)) := by
  have HP := Lib.hid h
  obtain ⟨a0, n0, c0, rfl⟩ := DGrid.shape h
  clear h
  cases hg : gridOkB x
  · have HG := Lib.hid hg
    have HN := Lib.hid (runOut_no (x := x) (y := y) (a := a) (b := b) (by unfold runOk; simp [hg]))
    clear hg
    go_enter Tryd.func31, Tryd.ntmps31
    go_wp2_with (go_at_call 63; refine (spec_GridOk _ [_, _, _] x (Rep.mono HP.out (by repeat (first | (with_reducible exact Below.refl _ _) | (with_reducible assumption) | (with_reducible refine bel_alloc ?_ _) | ((with_reducible refine bel_set ?_ ?_ _); rotate_left; (focus first | (simp; done) | (simp; omega))))))).mono ?_; rintro e W1 ⟨_, rfl, rfl, hb⟩; rw [HG.out]; have HB1 := Lib.hid (bel_next (show Below w.heap.size w _ from (by repeat (first | (with_reducible exact Below.refl _ _) | (with_reducible assumption) | (with_reducible refine bel_alloc ?_ _) | ((with_reducible refine bel_set ?_ ?_ _); rotate_left; (focus first | (simp; done) | (simp; omega)))))) hb); have cA := (fun o => hb.cell (p := ⟨w.heap.size, o, none⟩) (by simp)); clear hb)
    go_ret
    exact ⟨_, rfl, freshS_nil _ _ HN.out, HB1.out⟩
  · obtain ⟨s1, s2, s3, s4, _⟩ := gridOkB_size hg
    have HG := Lib.hid hg
    by_cases r1 : y < 0
    · have d1 : decide (y < 0) = true := decide_eq_true r1
      clear hg
      have HN := Lib.hid (runOut_no (x := x) (y := y) (a := a) (b := b) (by unfold runOk; rw [Bool.eq_false_iff]; intro hh; simp only [Bool.and_eq_true, decide_eq_true_eq] at hh; obtain ⟨g1, g2, g3, g4, g5⟩ := hh; have g6 := withinB_true.1 g2; omega))
      go_enter Tryd.func31, Tryd.ntmps31
      go_wp2_with (go_at_call 63; refine (spec_GridOk _ [_, _, _] x (Rep.mono HP.out (by repeat (first | (with_reducible exact Below.refl _ _) | (with_reducible assumption) | (with_reducible refine bel_alloc ?_ _) | ((with_reducible refine bel_set ?_ ?_ _); rotate_left; (focus first | (simp; done) | (simp; omega))))))).mono ?_; rintro e W1 ⟨_, rfl, rfl, hb⟩; rw [HG.out]; have HB1 := Lib.hid (bel_next (show Below w.heap.size w _ from (by repeat (first | (with_reducible exact Below.refl _ _) | (with_reducible assumption) | (with_reducible refine bel_alloc ?_ _) | ((with_reducible refine bel_set ?_ ?_ _); rotate_left; (focus first | (simp; done) | (simp; omega)))))) hb); have cA := (fun o => hb.cell (p := ⟨w.heap.size, o, none⟩) (by simp)); clear hb)
      go_ret
      exact ⟨_, rfl, freshS_nil _ _ HN.out, HB1.out⟩
    have d1 : decide (y < 0) = false := decide_eq_false r1
    by_cases r2 : x.H ≤ y
    · have d2 : decide (x.H ≤ y) = true := decide_eq_true r2
      clear hg
      have HN := Lib.hid (runOut_no (x := x) (y := y) (a := a) (b := b) (by unfold runOk; rw [Bool.eq_false_iff]; intro hh; simp only [Bool.and_eq_true, decide_eq_true_eq] at hh; obtain ⟨g1, g2, g3, g4, g5⟩ := hh; have g6 := withinB_true.1 g2; omega))
      go_enter Tryd.func31, Tryd.ntmps31
      go_wp2_with (go_at_call 63; refine (spec_GridOk _ [_, _, _] x (Rep.mono HP.out (by repeat (first | (with_reducible exact Below.refl _ _) | (with_reducible assumption) | (with_reducible refine bel_alloc ?_ _) | ((with_reducible refine bel_set ?_ ?_ _); rotate_left; (focus first | (simp; done) | (simp; omega))))))).mono ?_; rintro e W1 ⟨_, rfl, rfl, hb⟩; rw [HG.out]; have HB1 := Lib.hid (bel_next (show Below w.heap.size w _ from (by repeat (first | (with_reducible exact Below.refl _ _) | (with_reducible assumption) | (with_reducible refine bel_alloc ?_ _) | ((with_reducible refine bel_set ?_ ?_ _); rotate_left; (focus first | (simp; done) | (simp; omega)))))) hb); have cA := (fun o => hb.cell (p := ⟨w.heap.size, o, none⟩) (by simp)); clear hb)
      go_ret
      exact ⟨_, rfl, freshS_nil _ _ HN.out, HB1.out⟩
    have d2 : decide (x.H ≤ y) = false := decide_eq_false r2
    by_cases r3 : a < 0
    · have d3 : decide (a < 0) = true := decide_eq_true r3
      clear hg
      have HN := Lib.hid (runOut_no (x := x) (y := y) (a := a) (b := b) (by unfold runOk; rw [Bool.eq_false_iff]; intro hh; simp only [Bool.and_eq_true, decide_eq_true_eq] at hh; obtain ⟨g1, g2, g3, g4, g5⟩ := hh; have g6 := withinB_true.1 g2; omega))
      go_enter Tryd.func31, Tryd.ntmps31
      go_wp2_with (go_at_call 63; refine (spec_GridOk _ [_, _, _] x (Rep.mono HP.out (by repeat (first | (with_reducible exact Below.refl _ _) | (with_reducible assumption) | (with_reducible refine bel_alloc ?_ _) | ((with_reducible refine bel_set ?_ ?_ _); rotate_left; (focus first | (simp; done) | (simp; omega))))))).mono ?_; rintro e W1 ⟨_, rfl, rfl, hb⟩; rw [HG.out]; have HB1 := Lib.hid (bel_next (show Below w.heap.size w _ from (by repeat (first | (with_reducible exact Below.refl _ _) | (with_reducible assumption) | (with_reducible refine bel_alloc ?_ _) | ((with_reducible refine bel_set ?_ ?_ _); rotate_left; (focus first | (simp; done) | (simp; omega)))))) hb); have cA := (fun o => hb.cell (p := ⟨w.heap.size, o, none⟩) (by simp)); clear hb)
      go_ret
      exact ⟨_, rfl, freshS_nil _ _ HN.out, HB1.out⟩
    have d3 : decide (a < 0) = false := decide_eq_false r3
    by_cases r4 : b ≤ a
    · have d4 : decide (b ≤ a) = true := decide_eq_true r4
      clear hg
      have HN := Lib.hid (runOut_no (x := x) (y := y) (a := a) (b := b) (by unfold runOk; rw [Bool.eq_false_iff]; intro hh; simp only [Bool.and_eq_true, decide_eq_true_eq] at hh; obtain ⟨g1, g2, g3, g4, g5⟩ := hh; have g6 := withinB_true.1 g2; omega))
      go_enter Tryd.func31, Tryd.ntmps31
      go_wp2_with (go_at_call 63; refine (spec_GridOk _ [_, _, _] x (Rep.mono HP.out (by repeat (first | (with_reducible exact Below.refl _ _) | (with_reducible assumption) | (with_reducible refine bel_alloc ?_ _) | ((with_reducible refine bel_set ?_ ?_ _); rotate_left; (focus first | (simp; done) | (simp; omega))))))).mono ?_; rintro e W1 ⟨_, rfl, rfl, hb⟩; rw [HG.out]; have HB1 := Lib.hid (bel_next (show Below w.heap.size w _ from (by repeat (first | (with_reducible exact Below.refl _ _) | (with_reducible assumption) | (with_reducible refine bel_alloc ?_ _) | ((with_reducible refine bel_set ?_ ?_ _); rotate_left; (focus first | (simp; done) | (simp; omega)))))) hb); have cA := (fun o => hb.cell (p := ⟨w.heap.size, o, none⟩) (by simp)); clear hb)
      go_ret
      exact ⟨_, rfl, freshS_nil _ _ HN.out, HB1.out⟩
    have d4 : decide (b ≤ a) = false := decide_eq_false r4
    by_cases r5 : x.W < b
    · have d5 : decide (x.W < b) = true := decide_eq_true r5
      clear hg
      have HN := Lib.hid (runOut_no (x := x) (y := y) (a := a) (b := b) (by unfold runOk; rw [Bool.eq_false_iff]; intro hh; simp only [Bool.and_eq_true, decide_eq_true_eq] at hh; obtain ⟨g1, g2, g3, g4, g5⟩ := hh; have g6 := withinB_true.1 g2; omega))
      go_enter Tryd.func31, Tryd.ntmps31
      go_wp2_with (go_at_call 63; refine (spec_GridOk _ [_, _, _] x (Rep.mono HP.out (by repeat (first | (with_reducible exact Below.refl _ _) | (with_reducible assumption) | (with_reducible refine bel_alloc ?_ _) | ((with_reducible refine bel_set ?_ ?_ _); rotate_left; (focus first | (simp; done) | (simp; omega))))))).mono ?_; rintro e W1 ⟨_, rfl, rfl, hb⟩; rw [HG.out]; have HB1 := Lib.hid (bel_next (show Below w.heap.size w _ from (by repeat (first | (with_reducible exact Below.refl _ _) | (with_reducible assumption) | (with_reducible refine bel_alloc ?_ _) | ((with_reducible refine bel_set ?_ ?_ _); rotate_left; (focus first | (simp; done) | (simp; omega)))))) hb); have cA := (fun o => hb.cell (p := ⟨w.heap.size, o, none⟩) (by simp)); clear hb)
      go_ret
      exact ⟨_, rfl, freshS_nil _ _ HN.out, HB1.out⟩
    have d5 : decide (x.W < b) = false := decide_eq_false r5
    clear d1 d2 d3 d4 d5
    have HN := runOut_yes (x := x) (y := y) (a := a) (b := b) (by unfold runOk; simp only [hg, Bool.true_and, Bool.and_eq_true, decide_eq_true_eq]; exact ⟨withinB_true.2 ⟨by omega, by omega⟩, by omega, by omega, by omega⟩)
    obtain ⟨f, rfl⟩ : ∃ f : Nat, a = f := ⟨a.toNat, by omega⟩
    obtain ⟨t, rfl⟩ : ∃ t : Nat, b = t := ⟨b.toNat, by omega⟩
    rw [HN]
    exact spec_Run_ok w x a0 n0 c0 y f t HP hg (by omega) (by omega) (by omega) (by omega)
theorem spec_Run (w : World) (cs : List Value) (x : DGrid) (y a b : Int) (h : Rep.rep w cs x) (_ : I64 y) (_ : I64 a) (_ : I64 b) : Calls Tryd.prog 31 #[.agg cs.toArray, .int .i64 y, .int .i64 a, .int .i64 b] w (Gives w fun r w' => RepS w' r (runOut x y a b)) := by
  refine (spec_Run' w cs x y a b h).mono ?_
  rintro e w' ⟨v, rfl, hF, hb⟩
  exact ⟨v, rfl, hF.repS, hb⟩
end Go.Proofs.YtlkadeaomjoiiaaDoor
