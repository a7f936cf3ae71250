/- The walk of the reference's test of a step's unused fields. -/
import Derived.Test.YtjglknaojfnllaaDoorFnNum
set_option linter.unusedSimpArgs false
set_option linter.unusedVariables false
namespace Go.Mux
open Go.RowKit
def zeroP (x : DStep) : Prop := (x.Kind ≠ 4 → x.Cuts = []) ∧ (x.Kind ≠ 6 → x.Text.toList = []) ∧ (x.Kind ≠ 7 → x.Data = []) ∧ (x.Kind ≤ 3 ∨ x.Kind = 6 → x.A = 0 ∧ x.B = 0) ∧ (x.Kind = 4 ∨ x.Kind = 7 ∨ 8 < x.Kind → x.B = 0)
instance (x : DStep) : Decidable (zeroP x) := by unfold zeroP; infer_instance
def zeroB (x : DStep) : Bool := decide (zeroP x)
theorem bool_eq {a b : Bool} (h : a = b) : Value.bool a = Value.bool b := by rw [h]
end Go.Mux
namespace Go.Proofs.YtjglknaojfnllaaDoor
open Go.RowKit Go.Mux
set_option maxRecDepth 100000 in
set_option maxHeartbeats 8000000 in
theorem spec_l23Zero (w : World) (cs : List Value) (x : DStep) (h : Rep.rep w cs x) : Calls Tryd.prog 36 #[.agg cs.toArray] w (Says w (zeroB x)) := by
  obtain ⟨v0, v1, rfl, h0, h1, h2, h3, h4, h5⟩ := DStep.rep_iff.1 h
  obtain ⟨a0, p0, rfl, hl0, -⟩ := h4
  obtain ⟨a1, p1, rfl, hl1, -⟩ := h5
  clear h h0 h1 h2 h3 hl0 hl1
  obtain ⟨kd, A, B, tx, da, cu⟩ := x
  dsimp only
  by_cases hk1 : kd = 1
  · subst hk1
    rcases cu with _ | ⟨c0, cu⟩
    · by_cases hT : tx.toList = []
      · rcases da with _ | ⟨d0, da⟩
        · by_cases hA : A = 0
          · subst hA
            by_cases hB : B = 0
            · subst hB
              go_enter Tryd.func36, Tryd.ntmps36
              go_wp2
              go_ret
              exact ⟨_, rfl, bool_eq (by simp [zeroB, zeroP, *]), (by repeat (first | (with_reducible exact Below.refl _ _) | (with_reducible assumption) | (with_reducible refine bel_alloc ?_ _) | ((with_reducible refine bel_set ?_ ?_ _); rotate_left; (focus first | (simp; done) | (simp; omega)))))⟩
            · have dB : decide (B = 0) = false := decide_eq_false hB
              have eB : (B == 0) = false := by simpa using hB
              go_enter Tryd.func36, Tryd.ntmps36
              go_wp2
              go_ret
              exact ⟨_, rfl, bool_eq (by simp [zeroB, zeroP, *]), (by repeat (first | (with_reducible exact Below.refl _ _) | (with_reducible assumption) | (with_reducible refine bel_alloc ?_ _) | ((with_reducible refine bel_set ?_ ?_ _); rotate_left; (focus first | (simp; done) | (simp; omega)))))⟩
          · have dA : decide (A = 0) = false := decide_eq_false hA
            have eA : (A == 0) = false := by simpa using hA
            go_enter Tryd.func36, Tryd.ntmps36
            go_wp2
            go_ret
            exact ⟨_, rfl, bool_eq (by simp [zeroB, zeroP, *]), (by repeat (first | (with_reducible exact Below.refl _ _) | (with_reducible assumption) | (with_reducible refine bel_alloc ?_ _) | ((with_reducible refine bel_set ?_ ?_ _); rotate_left; (focus first | (simp; done) | (simp; omega)))))⟩
        · go_enter Tryd.func36, Tryd.ntmps36
          go_wp2
          go_ret
          exact ⟨_, rfl, bool_eq (by simp [zeroB, zeroP, *]), (by repeat (first | (with_reducible exact Below.refl _ _) | (with_reducible assumption) | (with_reducible refine bel_alloc ?_ _) | ((with_reducible refine bel_set ?_ ?_ _); rotate_left; (focus first | (simp; done) | (simp; omega)))))⟩
      · have dT : decide (tx.toList = []) = false := decide_eq_false hT
        have eT : (tx.toList == []) = false := by simpa using hT
        have nT : (tx.toList != []) = true := by simpa using hT
        go_enter Tryd.func36, Tryd.ntmps36
        go_wp2
        go_ret
        exact ⟨_, rfl, bool_eq (by simp [zeroB, zeroP, *]), (by repeat (first | (with_reducible exact Below.refl _ _) | (with_reducible assumption) | (with_reducible refine bel_alloc ?_ _) | ((with_reducible refine bel_set ?_ ?_ _); rotate_left; (focus first | (simp; done) | (simp; omega)))))⟩
    · go_enter Tryd.func36, Tryd.ntmps36
      go_wp2
      go_ret
      exact ⟨_, rfl, bool_eq (by simp [zeroB, zeroP, *]), (by repeat (first | (with_reducible exact Below.refl _ _) | (with_reducible assumption) | (with_reducible refine bel_alloc ?_ _) | ((with_reducible refine bel_set ?_ ?_ _); rotate_left; (focus first | (simp; done) | (simp; omega)))))⟩
  by_cases hk2 : kd = 2
  · subst hk2
    clear hk1
    rcases cu with _ | ⟨c0, cu⟩
    · by_cases hT : tx.toList = []
      · rcases da with _ | ⟨d0, da⟩
        · by_cases hA : A = 0
          · subst hA
            by_cases hB : B = 0
            · subst hB
              go_enter Tryd.func36, Tryd.ntmps36
              go_wp2
              go_ret
              exact ⟨_, rfl, bool_eq (by simp [zeroB, zeroP, *]), (by repeat (first | (with_reducible exact Below.refl _ _) | (with_reducible assumption) | (with_reducible refine bel_alloc ?_ _) | ((with_reducible refine bel_set ?_ ?_ _); rotate_left; (focus first | (simp; done) | (simp; omega)))))⟩
            · have dB : decide (B = 0) = false := decide_eq_false hB
              have eB : (B == 0) = false := by simpa using hB
              go_enter Tryd.func36, Tryd.ntmps36
              go_wp2
              go_ret
              exact ⟨_, rfl, bool_eq (by simp [zeroB, zeroP, *]), (by repeat (first | (with_reducible exact Below.refl _ _) | (with_reducible assumption) | (with_reducible refine bel_alloc ?_ _) | ((with_reducible refine bel_set ?_ ?_ _); rotate_left; (focus first | (simp; done) | (simp; omega)))))⟩
          · have dA : decide (A = 0) = false := decide_eq_false hA
            have eA : (A == 0) = false := by simpa using hA
            go_enter Tryd.func36, Tryd.ntmps36
            go_wp2
            go_ret
            exact ⟨_, rfl, bool_eq (by simp [zeroB, zeroP, *]), (by repeat (first | (with_reducible exact Below.refl _ _) | (with_reducible assumption) | (with_reducible refine bel_alloc ?_ _) | ((with_reducible refine bel_set ?_ ?_ _); rotate_left; (focus first | (simp; done) | (simp; omega)))))⟩
        · go_enter Tryd.func36, Tryd.ntmps36
          go_wp2
          go_ret
          exact ⟨_, rfl, bool_eq (by simp [zeroB, zeroP, *]), (by repeat (first | (with_reducible exact Below.refl _ _) | (with_reducible assumption) | (with_reducible refine bel_alloc ?_ _) | ((with_reducible refine bel_set ?_ ?_ _); rotate_left; (focus first | (simp; done) | (simp; omega)))))⟩
      · have dT : decide (tx.toList = []) = false := decide_eq_false hT
        have eT : (tx.toList == []) = false := by simpa using hT
        have nT : (tx.toList != []) = true := by simpa using hT
        go_enter Tryd.func36, Tryd.ntmps36
        go_wp2
        go_ret
        exact ⟨_, rfl, bool_eq (by simp [zeroB, zeroP, *]), (by repeat (first | (with_reducible exact Below.refl _ _) | (with_reducible assumption) | (with_reducible refine bel_alloc ?_ _) | ((with_reducible refine bel_set ?_ ?_ _); rotate_left; (focus first | (simp; done) | (simp; omega)))))⟩
    · go_enter Tryd.func36, Tryd.ntmps36
      go_wp2
      go_ret
      exact ⟨_, rfl, bool_eq (by simp [zeroB, zeroP, *]), (by repeat (first | (with_reducible exact Below.refl _ _) | (with_reducible assumption) | (with_reducible refine bel_alloc ?_ _) | ((with_reducible refine bel_set ?_ ?_ _); rotate_left; (focus first | (simp; done) | (simp; omega)))))⟩
  by_cases hk3 : kd = 3
  · subst hk3
    clear hk1 hk2
    rcases cu with _ | ⟨c0, cu⟩
    · by_cases hT : tx.toList = []
      · rcases da with _ | ⟨d0, da⟩
        · by_cases hA : A = 0
          · subst hA
            by_cases hB : B = 0
            · subst hB
              go_enter Tryd.func36, Tryd.ntmps36
              go_wp2
              go_ret
              exact ⟨_, rfl, bool_eq (by simp [zeroB, zeroP, *]), (by repeat (first | (with_reducible exact Below.refl _ _) | (with_reducible assumption) | (with_reducible refine bel_alloc ?_ _) | ((with_reducible refine bel_set ?_ ?_ _); rotate_left; (focus first | (simp; done) | (simp; omega)))))⟩
            · have dB : decide (B = 0) = false := decide_eq_false hB
              have eB : (B == 0) = false := by simpa using hB
              go_enter Tryd.func36, Tryd.ntmps36
              go_wp2
              go_ret
              exact ⟨_, rfl, bool_eq (by simp [zeroB, zeroP, *]), (by repeat (first | (with_reducible exact Below.refl _ _) | (with_reducible assumption) | (with_reducible refine bel_alloc ?_ _) | ((with_reducible refine bel_set ?_ ?_ _); rotate_left; (focus first | (simp; done) | (simp; omega)))))⟩
          · have dA : decide (A = 0) = false := decide_eq_false hA
            have eA : (A == 0) = false := by simpa using hA
            go_enter Tryd.func36, Tryd.ntmps36
            go_wp2
            go_ret
            exact ⟨_, rfl, bool_eq (by simp [zeroB, zeroP, *]), (by repeat (first | (with_reducible exact Below.refl _ _) | (with_reducible assumption) | (with_reducible refine bel_alloc ?_ _) | ((with_reducible refine bel_set ?_ ?_ _); rotate_left; (focus first | (simp; done) | (simp; omega)))))⟩
        · go_enter Tryd.func36, Tryd.ntmps36
          go_wp2
          go_ret
          exact ⟨_, rfl, bool_eq (by simp [zeroB, zeroP, *]), (by repeat (first | (with_reducible exact Below.refl _ _) | (with_reducible assumption) | (with_reducible refine bel_alloc ?_ _) | ((with_reducible refine bel_set ?_ ?_ _); rotate_left; (focus first | (simp; done) | (simp; omega)))))⟩
      · have dT : decide (tx.toList = []) = false := decide_eq_false hT
        have eT : (tx.toList == []) = false := by simpa using hT
        have nT : (tx.toList != []) = true := by simpa using hT
        go_enter Tryd.func36, Tryd.ntmps36
        go_wp2
        go_ret
        exact ⟨_, rfl, bool_eq (by simp [zeroB, zeroP, *]), (by repeat (first | (with_reducible exact Below.refl _ _) | (with_reducible assumption) | (with_reducible refine bel_alloc ?_ _) | ((with_reducible refine bel_set ?_ ?_ _); rotate_left; (focus first | (simp; done) | (simp; omega)))))⟩
    · go_enter Tryd.func36, Tryd.ntmps36
      go_wp2
      go_ret
      exact ⟨_, rfl, bool_eq (by simp [zeroB, zeroP, *]), (by repeat (first | (with_reducible exact Below.refl _ _) | (with_reducible assumption) | (with_reducible refine bel_alloc ?_ _) | ((with_reducible refine bel_set ?_ ?_ _); rotate_left; (focus first | (simp; done) | (simp; omega)))))⟩
  by_cases hk4 : kd = 4
  · subst hk4
    clear hk1 hk2 hk3
    by_cases hT : tx.toList = []
    · rcases da with _ | ⟨d0, da⟩
      · by_cases hB : B = 0
        · subst hB
          go_enter Tryd.func36, Tryd.ntmps36
          go_wp2
          go_ret
          exact ⟨_, rfl, bool_eq (by simp [zeroB, zeroP, *]), (by repeat (first | (with_reducible exact Below.refl _ _) | (with_reducible assumption) | (with_reducible refine bel_alloc ?_ _) | ((with_reducible refine bel_set ?_ ?_ _); rotate_left; (focus first | (simp; done) | (simp; omega)))))⟩
        · have dB : decide (B = 0) = false := decide_eq_false hB
          have eB : (B == 0) = false := by simpa using hB
          go_enter Tryd.func36, Tryd.ntmps36
          go_wp2
          go_ret
          exact ⟨_, rfl, bool_eq (by simp [zeroB, zeroP, *]), (by repeat (first | (with_reducible exact Below.refl _ _) | (with_reducible assumption) | (with_reducible refine bel_alloc ?_ _) | ((with_reducible refine bel_set ?_ ?_ _); rotate_left; (focus first | (simp; done) | (simp; omega)))))⟩
      · go_enter Tryd.func36, Tryd.ntmps36
        go_wp2
        go_ret
        exact ⟨_, rfl, bool_eq (by simp [zeroB, zeroP, *]), (by repeat (first | (with_reducible exact Below.refl _ _) | (with_reducible assumption) | (with_reducible refine bel_alloc ?_ _) | ((with_reducible refine bel_set ?_ ?_ _); rotate_left; (focus first | (simp; done) | (simp; omega)))))⟩
    · have dT : decide (tx.toList = []) = false := decide_eq_false hT
      have eT : (tx.toList == []) = false := by simpa using hT
      have nT : (tx.toList != []) = true := by simpa using hT
      go_enter Tryd.func36, Tryd.ntmps36
      go_wp2
      go_ret
      exact ⟨_, rfl, bool_eq (by simp [zeroB, zeroP, *]), (by repeat (first | (with_reducible exact Below.refl _ _) | (with_reducible assumption) | (with_reducible refine bel_alloc ?_ _) | ((with_reducible refine bel_set ?_ ?_ _); rotate_left; (focus first | (simp; done) | (simp; omega)))))⟩
  by_cases hk5 : kd = 5
  · subst hk5
    clear hk1 hk2 hk3 hk4
    rcases cu with _ | ⟨c0, cu⟩
    · by_cases hT : tx.toList = []
      · rcases da with _ | ⟨d0, da⟩
        · by_cases hB : B = 0
          · subst hB
            go_enter Tryd.func36, Tryd.ntmps36
            go_wp2
            go_ret
            exact ⟨_, rfl, bool_eq (by simp [zeroB, zeroP, *]), (by repeat (first | (with_reducible exact Below.refl _ _) | (with_reducible assumption) | (with_reducible refine bel_alloc ?_ _) | ((with_reducible refine bel_set ?_ ?_ _); rotate_left; (focus first | (simp; done) | (simp; omega)))))⟩
          · have dB : decide (B = 0) = false := decide_eq_false hB
            have eB : (B == 0) = false := by simpa using hB
            go_enter Tryd.func36, Tryd.ntmps36
            go_wp2
            go_ret
            exact ⟨_, rfl, bool_eq (by simp [zeroB, zeroP, *]), (by repeat (first | (with_reducible exact Below.refl _ _) | (with_reducible assumption) | (with_reducible refine bel_alloc ?_ _) | ((with_reducible refine bel_set ?_ ?_ _); rotate_left; (focus first | (simp; done) | (simp; omega)))))⟩
        · go_enter Tryd.func36, Tryd.ntmps36
          go_wp2
          go_ret
          exact ⟨_, rfl, bool_eq (by simp [zeroB, zeroP, *]), (by repeat (first | (with_reducible exact Below.refl _ _) | (with_reducible assumption) | (with_reducible refine bel_alloc ?_ _) | ((with_reducible refine bel_set ?_ ?_ _); rotate_left; (focus first | (simp; done) | (simp; omega)))))⟩
      · have dT : decide (tx.toList = []) = false := decide_eq_false hT
        have eT : (tx.toList == []) = false := by simpa using hT
        have nT : (tx.toList != []) = true := by simpa using hT
        go_enter Tryd.func36, Tryd.ntmps36
        go_wp2
        go_ret
        exact ⟨_, rfl, bool_eq (by simp [zeroB, zeroP, *]), (by repeat (first | (with_reducible exact Below.refl _ _) | (with_reducible assumption) | (with_reducible refine bel_alloc ?_ _) | ((with_reducible refine bel_set ?_ ?_ _); rotate_left; (focus first | (simp; done) | (simp; omega)))))⟩
    · go_enter Tryd.func36, Tryd.ntmps36
      go_wp2
      go_ret
      exact ⟨_, rfl, bool_eq (by simp [zeroB, zeroP, *]), (by repeat (first | (with_reducible exact Below.refl _ _) | (with_reducible assumption) | (with_reducible refine bel_alloc ?_ _) | ((with_reducible refine bel_set ?_ ?_ _); rotate_left; (focus first | (simp; done) | (simp; omega)))))⟩
  by_cases hk6 : kd = 6
  · subst hk6
    clear hk1 hk2 hk3 hk4 hk5
    rcases cu with _ | ⟨c0, cu⟩
    · rcases da with _ | ⟨d0, da⟩
      · by_cases hA : A = 0
        · subst hA
          by_cases hB : B = 0
          · subst hB
            go_enter Tryd.func36, Tryd.ntmps36
            go_wp2
            go_ret
            exact ⟨_, rfl, bool_eq (by simp [zeroB, zeroP, *]), (by repeat (first | (with_reducible exact Below.refl _ _) | (with_reducible assumption) | (with_reducible refine bel_alloc ?_ _) | ((with_reducible refine bel_set ?_ ?_ _); rotate_left; (focus first | (simp; done) | (simp; omega)))))⟩
          · have dB : decide (B = 0) = false := decide_eq_false hB
            have eB : (B == 0) = false := by simpa using hB
            go_enter Tryd.func36, Tryd.ntmps36
            go_wp2
            go_ret
            exact ⟨_, rfl, bool_eq (by simp [zeroB, zeroP, *]), (by repeat (first | (with_reducible exact Below.refl _ _) | (with_reducible assumption) | (with_reducible refine bel_alloc ?_ _) | ((with_reducible refine bel_set ?_ ?_ _); rotate_left; (focus first | (simp; done) | (simp; omega)))))⟩
        · have dA : decide (A = 0) = false := decide_eq_false hA
          have eA : (A == 0) = false := by simpa using hA
          go_enter Tryd.func36, Tryd.ntmps36
          go_wp2
          go_ret
          exact ⟨_, rfl, bool_eq (by simp [zeroB, zeroP, *]), (by repeat (first | (with_reducible exact Below.refl _ _) | (with_reducible assumption) | (with_reducible refine bel_alloc ?_ _) | ((with_reducible refine bel_set ?_ ?_ _); rotate_left; (focus first | (simp; done) | (simp; omega)))))⟩
      · go_enter Tryd.func36, Tryd.ntmps36
        go_wp2
        go_ret
        exact ⟨_, rfl, bool_eq (by simp [zeroB, zeroP, *]), (by repeat (first | (with_reducible exact Below.refl _ _) | (with_reducible assumption) | (with_reducible refine bel_alloc ?_ _) | ((with_reducible refine bel_set ?_ ?_ _); rotate_left; (focus first | (simp; done) | (simp; omega)))))⟩
    · go_enter Tryd.func36, Tryd.ntmps36
      go_wp2
      go_ret
      exact ⟨_, rfl, bool_eq (by simp [zeroB, zeroP, *]), (by repeat (first | (with_reducible exact Below.refl _ _) | (with_reducible assumption) | (with_reducible refine bel_alloc ?_ _) | ((with_reducible refine bel_set ?_ ?_ _); rotate_left; (focus first | (simp; done) | (simp; omega)))))⟩
  by_cases hk7 : kd = 7
  · subst hk7
    clear hk1 hk2 hk3 hk4 hk5 hk6
    rcases cu with _ | ⟨c0, cu⟩
    · by_cases hT : tx.toList = []
      · by_cases hB : B = 0
        · subst hB
          go_enter Tryd.func36, Tryd.ntmps36
          go_wp2
          go_ret
          exact ⟨_, rfl, bool_eq (by simp [zeroB, zeroP, *]), (by repeat (first | (with_reducible exact Below.refl _ _) | (with_reducible assumption) | (with_reducible refine bel_alloc ?_ _) | ((with_reducible refine bel_set ?_ ?_ _); rotate_left; (focus first | (simp; done) | (simp; omega)))))⟩
        · have dB : decide (B = 0) = false := decide_eq_false hB
          have eB : (B == 0) = false := by simpa using hB
          go_enter Tryd.func36, Tryd.ntmps36
          go_wp2
          go_ret
          exact ⟨_, rfl, bool_eq (by simp [zeroB, zeroP, *]), (by repeat (first | (with_reducible exact Below.refl _ _) | (with_reducible assumption) | (with_reducible refine bel_alloc ?_ _) | ((with_reducible refine bel_set ?_ ?_ _); rotate_left; (focus first | (simp; done) | (simp; omega)))))⟩
      · have dT : decide (tx.toList = []) = false := decide_eq_false hT
        have eT : (tx.toList == []) = false := by simpa using hT
        have nT : (tx.toList != []) = true := by simpa using hT
        go_enter Tryd.func36, Tryd.ntmps36
        go_wp2
        go_ret
        exact ⟨_, rfl, bool_eq (by simp [zeroB, zeroP, *]), (by repeat (first | (with_reducible exact Below.refl _ _) | (with_reducible assumption) | (with_reducible refine bel_alloc ?_ _) | ((with_reducible refine bel_set ?_ ?_ _); rotate_left; (focus first | (simp; done) | (simp; omega)))))⟩
    · go_enter Tryd.func36, Tryd.ntmps36
      go_wp2
      go_ret
      exact ⟨_, rfl, bool_eq (by simp [zeroB, zeroP, *]), (by repeat (first | (with_reducible exact Below.refl _ _) | (with_reducible assumption) | (with_reducible refine bel_alloc ?_ _) | ((with_reducible refine bel_set ?_ ?_ _); rotate_left; (focus first | (simp; done) | (simp; omega)))))⟩
  by_cases hk8 : kd = 8
  · subst hk8
    clear hk1 hk2 hk3 hk4 hk5 hk6 hk7
    rcases cu with _ | ⟨c0, cu⟩
    · by_cases hT : tx.toList = []
      · rcases da with _ | ⟨d0, da⟩
        · by_cases hB : B = 0
          · subst hB
            go_enter Tryd.func36, Tryd.ntmps36
            go_wp2
            go_ret
            exact ⟨_, rfl, bool_eq (by simp [zeroB, zeroP, *]), (by repeat (first | (with_reducible exact Below.refl _ _) | (with_reducible assumption) | (with_reducible refine bel_alloc ?_ _) | ((with_reducible refine bel_set ?_ ?_ _); rotate_left; (focus first | (simp; done) | (simp; omega)))))⟩
          · have dB : decide (B = 0) = false := decide_eq_false hB
            have eB : (B == 0) = false := by simpa using hB
            go_enter Tryd.func36, Tryd.ntmps36
            go_wp2
            go_ret
            exact ⟨_, rfl, bool_eq (by simp [zeroB, zeroP, *]), (by repeat (first | (with_reducible exact Below.refl _ _) | (with_reducible assumption) | (with_reducible refine bel_alloc ?_ _) | ((with_reducible refine bel_set ?_ ?_ _); rotate_left; (focus first | (simp; done) | (simp; omega)))))⟩
        · go_enter Tryd.func36, Tryd.ntmps36
          go_wp2
          go_ret
          exact ⟨_, rfl, bool_eq (by simp [zeroB, zeroP, *]), (by repeat (first | (with_reducible exact Below.refl _ _) | (with_reducible assumption) | (with_reducible refine bel_alloc ?_ _) | ((with_reducible refine bel_set ?_ ?_ _); rotate_left; (focus first | (simp; done) | (simp; omega)))))⟩
      · have dT : decide (tx.toList = []) = false := decide_eq_false hT
        have eT : (tx.toList == []) = false := by simpa using hT
        have nT : (tx.toList != []) = true := by simpa using hT
        go_enter Tryd.func36, Tryd.ntmps36
        go_wp2
        go_ret
        exact ⟨_, rfl, bool_eq (by simp [zeroB, zeroP, *]), (by repeat (first | (with_reducible exact Below.refl _ _) | (with_reducible assumption) | (with_reducible refine bel_alloc ?_ _) | ((with_reducible refine bel_set ?_ ?_ _); rotate_left; (focus first | (simp; done) | (simp; omega)))))⟩
    · go_enter Tryd.func36, Tryd.ntmps36
      go_wp2
      go_ret
      exact ⟨_, rfl, bool_eq (by simp [zeroB, zeroP, *]), (by repeat (first | (with_reducible exact Below.refl _ _) | (with_reducible assumption) | (with_reducible refine bel_alloc ?_ _) | ((with_reducible refine bel_set ?_ ?_ _); rotate_left; (focus first | (simp; done) | (simp; omega)))))⟩
  have dk1 : decide (kd = 1) = false := decide_eq_false hk1
  have ek1 : (kd == 1) = false := by simpa using hk1
  have nk1 : (kd != 1) = true := by simpa using hk1
  have dk2 : decide (kd = 2) = false := decide_eq_false hk2
  have ek2 : (kd == 2) = false := by simpa using hk2
  have nk2 : (kd != 2) = true := by simpa using hk2
  have dk3 : decide (kd = 3) = false := decide_eq_false hk3
  have ek3 : (kd == 3) = false := by simpa using hk3
  have nk3 : (kd != 3) = true := by simpa using hk3
  have dk4 : decide (kd = 4) = false := decide_eq_false hk4
  have ek4 : (kd == 4) = false := by simpa using hk4
  have nk4 : (kd != 4) = true := by simpa using hk4
  have dk5 : decide (kd = 5) = false := decide_eq_false hk5
  have ek5 : (kd == 5) = false := by simpa using hk5
  have nk5 : (kd != 5) = true := by simpa using hk5
  have dk6 : decide (kd = 6) = false := decide_eq_false hk6
  have ek6 : (kd == 6) = false := by simpa using hk6
  have nk6 : (kd != 6) = true := by simpa using hk6
  have dk7 : decide (kd = 7) = false := decide_eq_false hk7
  have ek7 : (kd == 7) = false := by simpa using hk7
  have nk7 : (kd != 7) = true := by simpa using hk7
  have dk8 : decide (kd = 8) = false := decide_eq_false hk8
  have ek8 : (kd == 8) = false := by simpa using hk8
  have nk8 : (kd != 8) = true := by simpa using hk8
  by_cases hneg : kd ≤ 3
  · have dn : decide (kd ≤ 3) = true := decide_eq_true hneg
    rcases cu with _ | ⟨c0, cu⟩
    · by_cases hT : tx.toList = []
      · rcases da with _ | ⟨d0, da⟩
        · by_cases hA : A = 0
          · subst hA
            by_cases hB : B = 0
            · subst hB
              go_enter Tryd.func36, Tryd.ntmps36
              go_wp2
              go_ret
              exact ⟨_, rfl, bool_eq (by simp [zeroB, zeroP, *]), (by repeat (first | (with_reducible exact Below.refl _ _) | (with_reducible assumption) | (with_reducible refine bel_alloc ?_ _) | ((with_reducible refine bel_set ?_ ?_ _); rotate_left; (focus first | (simp; done) | (simp; omega)))))⟩
            · have dB : decide (B = 0) = false := decide_eq_false hB
              have eB : (B == 0) = false := by simpa using hB
              go_enter Tryd.func36, Tryd.ntmps36
              go_wp2
              go_ret
              exact ⟨_, rfl, bool_eq (by simp [zeroB, zeroP, *]), (by repeat (first | (with_reducible exact Below.refl _ _) | (with_reducible assumption) | (with_reducible refine bel_alloc ?_ _) | ((with_reducible refine bel_set ?_ ?_ _); rotate_left; (focus first | (simp; done) | (simp; omega)))))⟩
          · have dA : decide (A = 0) = false := decide_eq_false hA
            have eA : (A == 0) = false := by simpa using hA
            go_enter Tryd.func36, Tryd.ntmps36
            go_wp2
            go_ret
            exact ⟨_, rfl, bool_eq (by simp [zeroB, zeroP, *]), (by repeat (first | (with_reducible exact Below.refl _ _) | (with_reducible assumption) | (with_reducible refine bel_alloc ?_ _) | ((with_reducible refine bel_set ?_ ?_ _); rotate_left; (focus first | (simp; done) | (simp; omega)))))⟩
        · go_enter Tryd.func36, Tryd.ntmps36
          go_wp2
          go_ret
          exact ⟨_, rfl, bool_eq (by simp [zeroB, zeroP, *]), (by repeat (first | (with_reducible exact Below.refl _ _) | (with_reducible assumption) | (with_reducible refine bel_alloc ?_ _) | ((with_reducible refine bel_set ?_ ?_ _); rotate_left; (focus first | (simp; done) | (simp; omega)))))⟩
      · have dT : decide (tx.toList = []) = false := decide_eq_false hT
        have eT : (tx.toList == []) = false := by simpa using hT
        have nT : (tx.toList != []) = true := by simpa using hT
        go_enter Tryd.func36, Tryd.ntmps36
        go_wp2
        go_ret
        exact ⟨_, rfl, bool_eq (by simp [zeroB, zeroP, *]), (by repeat (first | (with_reducible exact Below.refl _ _) | (with_reducible assumption) | (with_reducible refine bel_alloc ?_ _) | ((with_reducible refine bel_set ?_ ?_ _); rotate_left; (focus first | (simp; done) | (simp; omega)))))⟩
    · go_enter Tryd.func36, Tryd.ntmps36
      go_wp2
      go_ret
      exact ⟨_, rfl, bool_eq (by simp [zeroB, zeroP, *]), (by repeat (first | (with_reducible exact Below.refl _ _) | (with_reducible assumption) | (with_reducible refine bel_alloc ?_ _) | ((with_reducible refine bel_set ?_ ?_ _); rotate_left; (focus first | (simp; done) | (simp; omega)))))⟩
  · have dn : decide (kd ≤ 3) = false := decide_eq_false hneg
    have hbig : 8 < kd := by omega
    rcases cu with _ | ⟨c0, cu⟩
    · by_cases hT : tx.toList = []
      · rcases da with _ | ⟨d0, da⟩
        · by_cases hB : B = 0
          · subst hB
            go_enter Tryd.func36, Tryd.ntmps36
            go_wp2
            go_ret
            exact ⟨_, rfl, bool_eq (by simp [zeroB, zeroP, *]), (by repeat (first | (with_reducible exact Below.refl _ _) | (with_reducible assumption) | (with_reducible refine bel_alloc ?_ _) | ((with_reducible refine bel_set ?_ ?_ _); rotate_left; (focus first | (simp; done) | (simp; omega)))))⟩
          · have dB : decide (B = 0) = false := decide_eq_false hB
            have eB : (B == 0) = false := by simpa using hB
            go_enter Tryd.func36, Tryd.ntmps36
            go_wp2
            go_ret
            exact ⟨_, rfl, bool_eq (by simp [zeroB, zeroP, *]), (by repeat (first | (with_reducible exact Below.refl _ _) | (with_reducible assumption) | (with_reducible refine bel_alloc ?_ _) | ((with_reducible refine bel_set ?_ ?_ _); rotate_left; (focus first | (simp; done) | (simp; omega)))))⟩
        · go_enter Tryd.func36, Tryd.ntmps36
          go_wp2
          go_ret
          exact ⟨_, rfl, bool_eq (by simp [zeroB, zeroP, *]), (by repeat (first | (with_reducible exact Below.refl _ _) | (with_reducible assumption) | (with_reducible refine bel_alloc ?_ _) | ((with_reducible refine bel_set ?_ ?_ _); rotate_left; (focus first | (simp; done) | (simp; omega)))))⟩
      · have dT : decide (tx.toList = []) = false := decide_eq_false hT
        have eT : (tx.toList == []) = false := by simpa using hT
        have nT : (tx.toList != []) = true := by simpa using hT
        go_enter Tryd.func36, Tryd.ntmps36
        go_wp2
        go_ret
        exact ⟨_, rfl, bool_eq (by simp [zeroB, zeroP, *]), (by repeat (first | (with_reducible exact Below.refl _ _) | (with_reducible assumption) | (with_reducible refine bel_alloc ?_ _) | ((with_reducible refine bel_set ?_ ?_ _); rotate_left; (focus first | (simp; done) | (simp; omega)))))⟩
    · go_enter Tryd.func36, Tryd.ntmps36
      go_wp2
      go_ret
      exact ⟨_, rfl, bool_eq (by simp [zeroB, zeroP, *]), (by repeat (first | (with_reducible exact Below.refl _ _) | (with_reducible assumption) | (with_reducible refine bel_alloc ?_ _) | ((with_reducible refine bel_set ?_ ?_ _); rotate_left; (focus first | (simp; done) | (simp; omega)))))⟩
end Go.Proofs.YtjglknaojfnllaaDoor
