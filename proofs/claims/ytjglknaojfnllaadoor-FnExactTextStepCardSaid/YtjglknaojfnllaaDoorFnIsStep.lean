/- The walk of the program's isStep. -/
import Derived.Test.YtjglknaojfnllaaDoorFnStepZ
import Derived.Test.YtjglknaojfnllaaDoorStrs
import Derived.Test.YtjglknaojfnllaaDoorFnGrid
set_option linter.unusedSimpArgs false
set_option linter.unusedVariables false
namespace Go.Mux
open Go.RowKit
def stepOk (x : DStep) : Bool :=
  if x.Kind = 1 ∨ x.Kind = 2 ∨ x.Kind = 3 then decide (x.A = 0) && (decide (x.B = 0) && (decide (x.Text.toList = []) && (x.Data.isEmpty && x.Cuts.isEmpty)))
  else if x.Kind = 4 then isNumB x.A && (x.Cuts.all isNumB && (decide (x.B = 0) && (decide (x.Text.toList = []) && x.Data.isEmpty)))
  else if x.Kind = 5 then isNumB x.A && ((isNumB x.B || decide (x.B = -1)) && (decide (x.Text.toList = []) && (x.Data.isEmpty && x.Cuts.isEmpty)))
  else if x.Kind = 6 then !decide (x.Text.toList = []) && (!hasByte x.Text 10 && (decide (x.A = 0) && (decide (x.B = 0) && (x.Data.isEmpty && x.Cuts.isEmpty))))
  else if x.Kind = 7 then isNumB x.A && (!x.Data.isEmpty && (decide (x.B = 0) && (decide (x.Text.toList = []) && x.Cuts.isEmpty)))
  else if x.Kind = 8 then isNumB x.A && (isNumB x.B && (decide (x.Text.toList = []) && (x.Data.isEmpty && x.Cuts.isEmpty)))
  else false
end Go.Mux
namespace Go.Proofs.YtjglknaojfnllaaDoor
open Go.RowKit Go.Mux
set_option maxHeartbeats 400000 in
theorem impl_isStep_1 (w : World) (n : Int) : Calls Tryd.prog 63 #[.int .i64 n] w (Says w (!isNumB n)) := by
  go_enter Tryd.func63, Tryd.ntmps63
  go_wp2_with (go_at_call 61; refine (impl_isNum _ _).mono ?_; rintro e w' ⟨rfl, rfl⟩)
  go_ret
  exact says_ret rfl (Below.refl _ _)
set_option maxHeartbeats 400000 in
theorem idx_cuts (w : World) (v : Value) (l : List Int) (h : RepS w v l) :
    Calls Tryd.prog 82 #[v, .func (Fn.func 63) #[] #[]] w (Gives w fun r _ => r = .int .i64 (idxOf (fun n => !isNumB n) l)) := by
  obtain ⟨a, cap, rfl, hl, hc⟩ := ints_open h
  have HC := Lib.hid hc
  clear hc h
  go_enter Tryd.func82, Tryd.ntmps82
  go_wp2_with fail
  go_loopw [8] (fun i wr => ∃ k : Nat, k ≤ l.length ∧ i = .int .i64 k ∧ Hid (∀ x ∈ l.take k, (!isNumB x) = false) ∧ Below w.heap.size w wr) (fun i _ => l.length - (intOf i).toNat)
  case atStart => exact ⟨0, Nat.zero_le _, rfl, by show ∀ x ∈ _, _; simp, Below.refl _ _⟩
  case round =>
    obtain ⟨k, hk, rfl, HN, hB0⟩ := hrel
    by_cases hlt : k < l.length
    · have hne : l ≠ [] := by intro e; rw [e] at hlt; simp at hlt
      obtain ⟨b, off, rfl, hc⟩ := HC.out hne
      obtain ⟨x, hx⟩ : ∃ x, l[k]? = some x := ⟨l[k], by simp [hlt]⟩
      have c1 := (hc k x hx).1
      rw [← hB0.cell (p := ⟨b, off + k, none⟩) (World.block_lt_of_cell? w _ c1)] at c1
      have HX := Lib.hid hx
      have HB := Lib.hid hB0
      clear hB0 hc hne hx
      cases hp : (!isNumB x)
      · have HP := Lib.hid hp
        clear hp
        go_wp2_with (go_at_call 63; refine (impl_isStep_1 _ x).mono ?_; rintro e W1 ⟨_, rfl, rfl, hb⟩; rw [HP.out]; have HB1 := Lib.hid (bel_next HB.out hb); clear hb)
        go_roundw
        case rel => exact ⟨k + 1, by omega, by go_num, not_yet HN.out HX.out HP.out, HB1.out⟩
        case measure => simp [intOf]; omega
      · have HP := Lib.hid hp
        clear hp
        go_wp2_with (go_at_call 63; refine (impl_isStep_1 _ x).mono ?_; rintro e W1 ⟨_, rfl, rfl, hb⟩; rw [HP.out]; have HB1 := Lib.hid (bel_next HB.out hb); clear hb)
        go_ret
        exact ⟨_, rfl, int_eq (idxOf_found (p := fun n => !isNumB n) HN.out HX.out HP.out).symm, HB1.out⟩
    · obtain rfl : k = l.length := by omega
      go_wp2_with fail
      go_ret
      rw [List.take_length] at HN
      exact ⟨_, rfl, int_eq (idxOf_none (p := fun n => !isNumB n) HN.out).symm, hB0⟩
set_option maxHeartbeats 400000 in
theorem contains_cuts (w : World) (v : Value) (l : List Int) (h : RepS w v l) : Calls Tryd.prog 62 #[v, .func (Fn.func 63) #[] #[]] w (Says w (!l.all isNumB)) := by
  have HR := Lib.hid h
  clear h
  have HI := idxOf_ge (fun x => !isNumB x) l
  have e : l.any (fun x => !isNumB x) = !l.all isNumB := by rw [Bool.eq_iff_iff]; simp
  cases h0 : l.any (fun x => !isNumB x)
  all_goals
    rw [h0] at e HI
    simp only [iff_true, Bool.false_eq_true, iff_false, Int.not_le] at HI
    have E := Lib.hid e
    clear e h0
    go_enter Tryd.func62, Tryd.ntmps62
    go_wp2_with fail
    refine (idx_cuts _ _ l HR.out).mono ?_
    rintro e W1 ⟨_, rfl, rfl, hb⟩
    have HB := Lib.hid hb
    clear hb
    go_wp2_with fail
    go_ret
    exact says_ret (by rw [← E.out] <;> first | rfl | (simp; done) | (simp; omega)) HB.out
set_option maxRecDepth 100000 in
set_option maxHeartbeats 8000000 in
theorem impl_isStep (w : World) (cs : List Value) (x : DStep) (h : Rep.rep w cs x) : Calls Tryd.prog 45 #[.agg cs.toArray] w (Says w (stepOk x)) := by
  obtain ⟨v0, v1, rfl, h0, h1, h2, h3, h4, h5⟩ := DStep.rep_iff.1 h
  obtain ⟨a0, p0, rfl, hl0, -⟩ := h4
  have HCU := Lib.hid h5
  obtain ⟨a1, p1, rfl, hl1, -⟩ := h5
  clear h h0 h1 h2 h3 hl0 hl1
  obtain ⟨kd, A, B, tx, da, cu⟩ := x
  dsimp only at HCU ⊢
  by_cases hk1 : kd = 1
  · subst hk1
    by_cases hA : A = 0
    · subst hA
      by_cases hB : B = 0
      · subst hB
        by_cases hT : tx.toList = []
        · have dT : decide (tx.toList = []) = true := decide_eq_true hT
          have eT : (tx.toList == []) = true := by simpa using hT
          have nT : (tx.toList != []) = false := by simpa using hT
          rcases da with _ | ⟨d0, da⟩
          · rcases cu with _ | ⟨c0, cu⟩
            · go_enter Tryd.func45, Tryd.ntmps45
              go_wp2_with (first | (go_at_call 61; refine (impl_isNum _ _).mono ?_; rintro e w' ⟨rfl, rfl⟩))
              go_ret
              exact ⟨_, rfl, bool_eq (by simp [stepOk, *] <;> omega), (by repeat (first | (with_reducible exact Below.refl _ _) | (with_reducible assumption) | (with_reducible refine bel_alloc ?_ _) | ((with_reducible refine bel_set ?_ ?_ _); rotate_left; (focus first | (simp; done) | (simp; omega)))))⟩
            · go_enter Tryd.func45, Tryd.ntmps45
              go_wp2_with (first | (go_at_call 61; refine (impl_isNum _ _).mono ?_; rintro e w' ⟨rfl, rfl⟩))
              go_ret
              exact ⟨_, rfl, bool_eq (by simp [stepOk, *] <;> omega), (by repeat (first | (with_reducible exact Below.refl _ _) | (with_reducible assumption) | (with_reducible refine bel_alloc ?_ _) | ((with_reducible refine bel_set ?_ ?_ _); rotate_left; (focus first | (simp; done) | (simp; omega)))))⟩
          · go_enter Tryd.func45, Tryd.ntmps45
            go_wp2_with (first | (go_at_call 61; refine (impl_isNum _ _).mono ?_; rintro e w' ⟨rfl, rfl⟩))
            go_ret
            exact ⟨_, rfl, bool_eq (by simp [stepOk, *] <;> omega), (by repeat (first | (with_reducible exact Below.refl _ _) | (with_reducible assumption) | (with_reducible refine bel_alloc ?_ _) | ((with_reducible refine bel_set ?_ ?_ _); rotate_left; (focus first | (simp; done) | (simp; omega)))))⟩
        · have dT : decide (tx.toList = []) = false := decide_eq_false hT
          have eT : (tx.toList == []) = false := by simpa using hT
          have nT : (tx.toList != []) = true := by simpa using hT
          go_enter Tryd.func45, Tryd.ntmps45
          go_wp2_with (first | (go_at_call 61; refine (impl_isNum _ _).mono ?_; rintro e w' ⟨rfl, rfl⟩))
          go_ret
          exact ⟨_, rfl, bool_eq (by simp [stepOk, *] <;> omega), (by repeat (first | (with_reducible exact Below.refl _ _) | (with_reducible assumption) | (with_reducible refine bel_alloc ?_ _) | ((with_reducible refine bel_set ?_ ?_ _); rotate_left; (focus first | (simp; done) | (simp; omega)))))⟩
      · have dhB : decide (B = 0) = false := decide_eq_false hB
        have ehB : (B == 0) = false := by simpa using hB
        go_enter Tryd.func45, Tryd.ntmps45
        go_wp2_with (first | (go_at_call 61; refine (impl_isNum _ _).mono ?_; rintro e w' ⟨rfl, rfl⟩))
        go_ret
        exact ⟨_, rfl, bool_eq (by simp [stepOk, *] <;> omega), (by repeat (first | (with_reducible exact Below.refl _ _) | (with_reducible assumption) | (with_reducible refine bel_alloc ?_ _) | ((with_reducible refine bel_set ?_ ?_ _); rotate_left; (focus first | (simp; done) | (simp; omega)))))⟩
    · have dhA : decide (A = 0) = false := decide_eq_false hA
      have ehA : (A == 0) = false := by simpa using hA
      go_enter Tryd.func45, Tryd.ntmps45
      go_wp2_with (first | (go_at_call 61; refine (impl_isNum _ _).mono ?_; rintro e w' ⟨rfl, rfl⟩))
      go_ret
      exact ⟨_, rfl, bool_eq (by simp [stepOk, *] <;> omega), (by repeat (first | (with_reducible exact Below.refl _ _) | (with_reducible assumption) | (with_reducible refine bel_alloc ?_ _) | ((with_reducible refine bel_set ?_ ?_ _); rotate_left; (focus first | (simp; done) | (simp; omega)))))⟩
  by_cases hk2 : kd = 2
  · subst hk2
    clear hk1
    by_cases hA : A = 0
    · subst hA
      by_cases hB : B = 0
      · subst hB
        by_cases hT : tx.toList = []
        · have dT : decide (tx.toList = []) = true := decide_eq_true hT
          have eT : (tx.toList == []) = true := by simpa using hT
          have nT : (tx.toList != []) = false := by simpa using hT
          rcases da with _ | ⟨d0, da⟩
          · rcases cu with _ | ⟨c0, cu⟩
            · go_enter Tryd.func45, Tryd.ntmps45
              go_wp2_with (first | (go_at_call 61; refine (impl_isNum _ _).mono ?_; rintro e w' ⟨rfl, rfl⟩))
              go_ret
              exact ⟨_, rfl, bool_eq (by simp [stepOk, *] <;> omega), (by repeat (first | (with_reducible exact Below.refl _ _) | (with_reducible assumption) | (with_reducible refine bel_alloc ?_ _) | ((with_reducible refine bel_set ?_ ?_ _); rotate_left; (focus first | (simp; done) | (simp; omega)))))⟩
            · go_enter Tryd.func45, Tryd.ntmps45
              go_wp2_with (first | (go_at_call 61; refine (impl_isNum _ _).mono ?_; rintro e w' ⟨rfl, rfl⟩))
              go_ret
              exact ⟨_, rfl, bool_eq (by simp [stepOk, *] <;> omega), (by repeat (first | (with_reducible exact Below.refl _ _) | (with_reducible assumption) | (with_reducible refine bel_alloc ?_ _) | ((with_reducible refine bel_set ?_ ?_ _); rotate_left; (focus first | (simp; done) | (simp; omega)))))⟩
          · go_enter Tryd.func45, Tryd.ntmps45
            go_wp2_with (first | (go_at_call 61; refine (impl_isNum _ _).mono ?_; rintro e w' ⟨rfl, rfl⟩))
            go_ret
            exact ⟨_, rfl, bool_eq (by simp [stepOk, *] <;> omega), (by repeat (first | (with_reducible exact Below.refl _ _) | (with_reducible assumption) | (with_reducible refine bel_alloc ?_ _) | ((with_reducible refine bel_set ?_ ?_ _); rotate_left; (focus first | (simp; done) | (simp; omega)))))⟩
        · have dT : decide (tx.toList = []) = false := decide_eq_false hT
          have eT : (tx.toList == []) = false := by simpa using hT
          have nT : (tx.toList != []) = true := by simpa using hT
          go_enter Tryd.func45, Tryd.ntmps45
          go_wp2_with (first | (go_at_call 61; refine (impl_isNum _ _).mono ?_; rintro e w' ⟨rfl, rfl⟩))
          go_ret
          exact ⟨_, rfl, bool_eq (by simp [stepOk, *] <;> omega), (by repeat (first | (with_reducible exact Below.refl _ _) | (with_reducible assumption) | (with_reducible refine bel_alloc ?_ _) | ((with_reducible refine bel_set ?_ ?_ _); rotate_left; (focus first | (simp; done) | (simp; omega)))))⟩
      · have dhB : decide (B = 0) = false := decide_eq_false hB
        have ehB : (B == 0) = false := by simpa using hB
        go_enter Tryd.func45, Tryd.ntmps45
        go_wp2_with (first | (go_at_call 61; refine (impl_isNum _ _).mono ?_; rintro e w' ⟨rfl, rfl⟩))
        go_ret
        exact ⟨_, rfl, bool_eq (by simp [stepOk, *] <;> omega), (by repeat (first | (with_reducible exact Below.refl _ _) | (with_reducible assumption) | (with_reducible refine bel_alloc ?_ _) | ((with_reducible refine bel_set ?_ ?_ _); rotate_left; (focus first | (simp; done) | (simp; omega)))))⟩
    · have dhA : decide (A = 0) = false := decide_eq_false hA
      have ehA : (A == 0) = false := by simpa using hA
      go_enter Tryd.func45, Tryd.ntmps45
      go_wp2_with (first | (go_at_call 61; refine (impl_isNum _ _).mono ?_; rintro e w' ⟨rfl, rfl⟩))
      go_ret
      exact ⟨_, rfl, bool_eq (by simp [stepOk, *] <;> omega), (by repeat (first | (with_reducible exact Below.refl _ _) | (with_reducible assumption) | (with_reducible refine bel_alloc ?_ _) | ((with_reducible refine bel_set ?_ ?_ _); rotate_left; (focus first | (simp; done) | (simp; omega)))))⟩
  by_cases hk3 : kd = 3
  · subst hk3
    clear hk1 hk2
    by_cases hA : A = 0
    · subst hA
      by_cases hB : B = 0
      · subst hB
        by_cases hT : tx.toList = []
        · have dT : decide (tx.toList = []) = true := decide_eq_true hT
          have eT : (tx.toList == []) = true := by simpa using hT
          have nT : (tx.toList != []) = false := by simpa using hT
          rcases da with _ | ⟨d0, da⟩
          · rcases cu with _ | ⟨c0, cu⟩
            · go_enter Tryd.func45, Tryd.ntmps45
              go_wp2_with (first | (go_at_call 61; refine (impl_isNum _ _).mono ?_; rintro e w' ⟨rfl, rfl⟩))
              go_ret
              exact ⟨_, rfl, bool_eq (by simp [stepOk, *] <;> omega), (by repeat (first | (with_reducible exact Below.refl _ _) | (with_reducible assumption) | (with_reducible refine bel_alloc ?_ _) | ((with_reducible refine bel_set ?_ ?_ _); rotate_left; (focus first | (simp; done) | (simp; omega)))))⟩
            · go_enter Tryd.func45, Tryd.ntmps45
              go_wp2_with (first | (go_at_call 61; refine (impl_isNum _ _).mono ?_; rintro e w' ⟨rfl, rfl⟩))
              go_ret
              exact ⟨_, rfl, bool_eq (by simp [stepOk, *] <;> omega), (by repeat (first | (with_reducible exact Below.refl _ _) | (with_reducible assumption) | (with_reducible refine bel_alloc ?_ _) | ((with_reducible refine bel_set ?_ ?_ _); rotate_left; (focus first | (simp; done) | (simp; omega)))))⟩
          · go_enter Tryd.func45, Tryd.ntmps45
            go_wp2_with (first | (go_at_call 61; refine (impl_isNum _ _).mono ?_; rintro e w' ⟨rfl, rfl⟩))
            go_ret
            exact ⟨_, rfl, bool_eq (by simp [stepOk, *] <;> omega), (by repeat (first | (with_reducible exact Below.refl _ _) | (with_reducible assumption) | (with_reducible refine bel_alloc ?_ _) | ((with_reducible refine bel_set ?_ ?_ _); rotate_left; (focus first | (simp; done) | (simp; omega)))))⟩
        · have dT : decide (tx.toList = []) = false := decide_eq_false hT
          have eT : (tx.toList == []) = false := by simpa using hT
          have nT : (tx.toList != []) = true := by simpa using hT
          go_enter Tryd.func45, Tryd.ntmps45
          go_wp2_with (first | (go_at_call 61; refine (impl_isNum _ _).mono ?_; rintro e w' ⟨rfl, rfl⟩))
          go_ret
          exact ⟨_, rfl, bool_eq (by simp [stepOk, *] <;> omega), (by repeat (first | (with_reducible exact Below.refl _ _) | (with_reducible assumption) | (with_reducible refine bel_alloc ?_ _) | ((with_reducible refine bel_set ?_ ?_ _); rotate_left; (focus first | (simp; done) | (simp; omega)))))⟩
      · have dhB : decide (B = 0) = false := decide_eq_false hB
        have ehB : (B == 0) = false := by simpa using hB
        go_enter Tryd.func45, Tryd.ntmps45
        go_wp2_with (first | (go_at_call 61; refine (impl_isNum _ _).mono ?_; rintro e w' ⟨rfl, rfl⟩))
        go_ret
        exact ⟨_, rfl, bool_eq (by simp [stepOk, *] <;> omega), (by repeat (first | (with_reducible exact Below.refl _ _) | (with_reducible assumption) | (with_reducible refine bel_alloc ?_ _) | ((with_reducible refine bel_set ?_ ?_ _); rotate_left; (focus first | (simp; done) | (simp; omega)))))⟩
    · have dhA : decide (A = 0) = false := decide_eq_false hA
      have ehA : (A == 0) = false := by simpa using hA
      go_enter Tryd.func45, Tryd.ntmps45
      go_wp2_with (first | (go_at_call 61; refine (impl_isNum _ _).mono ?_; rintro e w' ⟨rfl, rfl⟩))
      go_ret
      exact ⟨_, rfl, bool_eq (by simp [stepOk, *] <;> omega), (by repeat (first | (with_reducible exact Below.refl _ _) | (with_reducible assumption) | (with_reducible refine bel_alloc ?_ _) | ((with_reducible refine bel_set ?_ ?_ _); rotate_left; (focus first | (simp; done) | (simp; omega)))))⟩
  by_cases hk4 : kd = 4
  · subst hk4
    clear hk1 hk2 hk3
    cases hN : isNumB A
    · go_enter Tryd.func45, Tryd.ntmps45
      go_wp2_with (first | (go_at_call 61; refine (impl_isNum _ _).mono ?_; rintro e w' ⟨rfl, rfl⟩) | (go_at_call 62; refine (contains_cuts _ _ cu (HCU.out.mono (by repeat (first | (with_reducible exact Below.refl _ _) | (with_reducible assumption) | (with_reducible refine bel_alloc ?_ _) | ((with_reducible refine bel_set ?_ ?_ _); rotate_left; (focus first | (simp; done) | (simp; omega))))))).mono ?_; rintro e W1 ⟨_, rfl, rfl, hb⟩; have hB : Below w.heap.size w W1 := bel_next (by repeat (first | (with_reducible exact Below.refl _ _) | (with_reducible assumption) | (with_reducible refine bel_alloc ?_ _) | ((with_reducible refine bel_set ?_ ?_ _); rotate_left; (focus first | (simp; done) | (simp; omega))))) hb; have hcc := bel_cell hb; clear hb))
      go_ret
      exact ⟨_, rfl, bool_eq (by simp [stepOk, *] <;> omega), (by repeat (first | (with_reducible exact Below.refl _ _) | (with_reducible assumption) | (with_reducible refine bel_alloc ?_ _) | ((with_reducible refine bel_set ?_ ?_ _); rotate_left; (focus first | (simp; done) | (simp; omega)))))⟩
    · cases hAll : cu.all isNumB
      · go_enter Tryd.func45, Tryd.ntmps45
        go_wp2_with (first | (go_at_call 61; refine (impl_isNum _ _).mono ?_; rintro e w' ⟨rfl, rfl⟩) | (go_at_call 62; refine (contains_cuts _ _ cu (HCU.out.mono (by repeat (first | (with_reducible exact Below.refl _ _) | (with_reducible assumption) | (with_reducible refine bel_alloc ?_ _) | ((with_reducible refine bel_set ?_ ?_ _); rotate_left; (focus first | (simp; done) | (simp; omega))))))).mono ?_; rintro e W1 ⟨_, rfl, rfl, hb⟩; have hB : Below w.heap.size w W1 := bel_next (by repeat (first | (with_reducible exact Below.refl _ _) | (with_reducible assumption) | (with_reducible refine bel_alloc ?_ _) | ((with_reducible refine bel_set ?_ ?_ _); rotate_left; (focus first | (simp; done) | (simp; omega))))) hb; have hcc := bel_cell hb; clear hb))
        go_ret
        exact ⟨_, rfl, bool_eq (by simp [stepOk, *] <;> omega), (by repeat (first | (with_reducible exact Below.refl _ _) | (with_reducible assumption) | (with_reducible refine bel_alloc ?_ _) | ((with_reducible refine bel_set ?_ ?_ _); rotate_left; (focus first | (simp; done) | (simp; omega)))))⟩
      · by_cases hB : B = 0
        · subst hB
          by_cases hT : tx.toList = []
          · have dT : decide (tx.toList = []) = true := decide_eq_true hT
            have eT : (tx.toList == []) = true := by simpa using hT
            have nT : (tx.toList != []) = false := by simpa using hT
            rcases da with _ | ⟨d0, da⟩
            · go_enter Tryd.func45, Tryd.ntmps45
              go_wp2_with (first | (go_at_call 61; refine (impl_isNum _ _).mono ?_; rintro e w' ⟨rfl, rfl⟩) | (go_at_call 62; refine (contains_cuts _ _ cu (HCU.out.mono (by repeat (first | (with_reducible exact Below.refl _ _) | (with_reducible assumption) | (with_reducible refine bel_alloc ?_ _) | ((with_reducible refine bel_set ?_ ?_ _); rotate_left; (focus first | (simp; done) | (simp; omega))))))).mono ?_; rintro e W1 ⟨_, rfl, rfl, hb⟩; have hB : Below w.heap.size w W1 := bel_next (by repeat (first | (with_reducible exact Below.refl _ _) | (with_reducible assumption) | (with_reducible refine bel_alloc ?_ _) | ((with_reducible refine bel_set ?_ ?_ _); rotate_left; (focus first | (simp; done) | (simp; omega))))) hb; have hcc := bel_cell hb; clear hb))
              go_ret
              exact ⟨_, rfl, bool_eq (by simp [stepOk, *] <;> omega), (by repeat (first | (with_reducible exact Below.refl _ _) | (with_reducible assumption) | (with_reducible refine bel_alloc ?_ _) | ((with_reducible refine bel_set ?_ ?_ _); rotate_left; (focus first | (simp; done) | (simp; omega)))))⟩
            · go_enter Tryd.func45, Tryd.ntmps45
              go_wp2_with (first | (go_at_call 61; refine (impl_isNum _ _).mono ?_; rintro e w' ⟨rfl, rfl⟩) | (go_at_call 62; refine (contains_cuts _ _ cu (HCU.out.mono (by repeat (first | (with_reducible exact Below.refl _ _) | (with_reducible assumption) | (with_reducible refine bel_alloc ?_ _) | ((with_reducible refine bel_set ?_ ?_ _); rotate_left; (focus first | (simp; done) | (simp; omega))))))).mono ?_; rintro e W1 ⟨_, rfl, rfl, hb⟩; have hB : Below w.heap.size w W1 := bel_next (by repeat (first | (with_reducible exact Below.refl _ _) | (with_reducible assumption) | (with_reducible refine bel_alloc ?_ _) | ((with_reducible refine bel_set ?_ ?_ _); rotate_left; (focus first | (simp; done) | (simp; omega))))) hb; have hcc := bel_cell hb; clear hb))
              go_ret
              exact ⟨_, rfl, bool_eq (by simp [stepOk, *] <;> omega), (by repeat (first | (with_reducible exact Below.refl _ _) | (with_reducible assumption) | (with_reducible refine bel_alloc ?_ _) | ((with_reducible refine bel_set ?_ ?_ _); rotate_left; (focus first | (simp; done) | (simp; omega)))))⟩
          · have dT : decide (tx.toList = []) = false := decide_eq_false hT
            have eT : (tx.toList == []) = false := by simpa using hT
            have nT : (tx.toList != []) = true := by simpa using hT
            go_enter Tryd.func45, Tryd.ntmps45
            go_wp2_with (first | (go_at_call 61; refine (impl_isNum _ _).mono ?_; rintro e w' ⟨rfl, rfl⟩) | (go_at_call 62; refine (contains_cuts _ _ cu (HCU.out.mono (by repeat (first | (with_reducible exact Below.refl _ _) | (with_reducible assumption) | (with_reducible refine bel_alloc ?_ _) | ((with_reducible refine bel_set ?_ ?_ _); rotate_left; (focus first | (simp; done) | (simp; omega))))))).mono ?_; rintro e W1 ⟨_, rfl, rfl, hb⟩; have hB : Below w.heap.size w W1 := bel_next (by repeat (first | (with_reducible exact Below.refl _ _) | (with_reducible assumption) | (with_reducible refine bel_alloc ?_ _) | ((with_reducible refine bel_set ?_ ?_ _); rotate_left; (focus first | (simp; done) | (simp; omega))))) hb; have hcc := bel_cell hb; clear hb))
            go_ret
            exact ⟨_, rfl, bool_eq (by simp [stepOk, *] <;> omega), (by repeat (first | (with_reducible exact Below.refl _ _) | (with_reducible assumption) | (with_reducible refine bel_alloc ?_ _) | ((with_reducible refine bel_set ?_ ?_ _); rotate_left; (focus first | (simp; done) | (simp; omega)))))⟩
        · have dhB : decide (B = 0) = false := decide_eq_false hB
          have ehB : (B == 0) = false := by simpa using hB
          go_enter Tryd.func45, Tryd.ntmps45
          go_wp2_with (first | (go_at_call 61; refine (impl_isNum _ _).mono ?_; rintro e w' ⟨rfl, rfl⟩) | (go_at_call 62; refine (contains_cuts _ _ cu (HCU.out.mono (by repeat (first | (with_reducible exact Below.refl _ _) | (with_reducible assumption) | (with_reducible refine bel_alloc ?_ _) | ((with_reducible refine bel_set ?_ ?_ _); rotate_left; (focus first | (simp; done) | (simp; omega))))))).mono ?_; rintro e W1 ⟨_, rfl, rfl, hb⟩; have hB : Below w.heap.size w W1 := bel_next (by repeat (first | (with_reducible exact Below.refl _ _) | (with_reducible assumption) | (with_reducible refine bel_alloc ?_ _) | ((with_reducible refine bel_set ?_ ?_ _); rotate_left; (focus first | (simp; done) | (simp; omega))))) hb; have hcc := bel_cell hb; clear hb))
          go_ret
          exact ⟨_, rfl, bool_eq (by simp [stepOk, *] <;> omega), (by repeat (first | (with_reducible exact Below.refl _ _) | (with_reducible assumption) | (with_reducible refine bel_alloc ?_ _) | ((with_reducible refine bel_set ?_ ?_ _); rotate_left; (focus first | (simp; done) | (simp; omega)))))⟩
  by_cases hk5 : kd = 5
  · subst hk5
    clear hk1 hk2 hk3 hk4
    cases hN : isNumB A
    · go_enter Tryd.func45, Tryd.ntmps45
      go_wp2_with (first | (go_at_call 61; refine (impl_isNum _ _).mono ?_; rintro e w' ⟨rfl, rfl⟩))
      go_ret
      exact ⟨_, rfl, bool_eq (by simp [stepOk, *] <;> omega), (by repeat (first | (with_reducible exact Below.refl _ _) | (with_reducible assumption) | (with_reducible refine bel_alloc ?_ _) | ((with_reducible refine bel_set ?_ ?_ _); rotate_left; (focus first | (simp; done) | (simp; omega)))))⟩
    · cases hM : isNumB B
      · by_cases h1 : B = -1
        · subst h1
          by_cases hT : tx.toList = []
          · have dT : decide (tx.toList = []) = true := decide_eq_true hT
            have eT : (tx.toList == []) = true := by simpa using hT
            have nT : (tx.toList != []) = false := by simpa using hT
            rcases da with _ | ⟨d0, da⟩
            · rcases cu with _ | ⟨c0, cu⟩
              · go_enter Tryd.func45, Tryd.ntmps45
                go_wp2_with (first | (go_at_call 61; refine (impl_isNum _ _).mono ?_; rintro e w' ⟨rfl, rfl⟩))
                go_ret
                exact ⟨_, rfl, bool_eq (by simp [stepOk, *] <;> omega), (by repeat (first | (with_reducible exact Below.refl _ _) | (with_reducible assumption) | (with_reducible refine bel_alloc ?_ _) | ((with_reducible refine bel_set ?_ ?_ _); rotate_left; (focus first | (simp; done) | (simp; omega)))))⟩
              · go_enter Tryd.func45, Tryd.ntmps45
                go_wp2_with (first | (go_at_call 61; refine (impl_isNum _ _).mono ?_; rintro e w' ⟨rfl, rfl⟩))
                go_ret
                exact ⟨_, rfl, bool_eq (by simp [stepOk, *] <;> omega), (by repeat (first | (with_reducible exact Below.refl _ _) | (with_reducible assumption) | (with_reducible refine bel_alloc ?_ _) | ((with_reducible refine bel_set ?_ ?_ _); rotate_left; (focus first | (simp; done) | (simp; omega)))))⟩
            · go_enter Tryd.func45, Tryd.ntmps45
              go_wp2_with (first | (go_at_call 61; refine (impl_isNum _ _).mono ?_; rintro e w' ⟨rfl, rfl⟩))
              go_ret
              exact ⟨_, rfl, bool_eq (by simp [stepOk, *] <;> omega), (by repeat (first | (with_reducible exact Below.refl _ _) | (with_reducible assumption) | (with_reducible refine bel_alloc ?_ _) | ((with_reducible refine bel_set ?_ ?_ _); rotate_left; (focus first | (simp; done) | (simp; omega)))))⟩
          · have dT : decide (tx.toList = []) = false := decide_eq_false hT
            have eT : (tx.toList == []) = false := by simpa using hT
            have nT : (tx.toList != []) = true := by simpa using hT
            go_enter Tryd.func45, Tryd.ntmps45
            go_wp2_with (first | (go_at_call 61; refine (impl_isNum _ _).mono ?_; rintro e w' ⟨rfl, rfl⟩))
            go_ret
            exact ⟨_, rfl, bool_eq (by simp [stepOk, *] <;> omega), (by repeat (first | (with_reducible exact Below.refl _ _) | (with_reducible assumption) | (with_reducible refine bel_alloc ?_ _) | ((with_reducible refine bel_set ?_ ?_ _); rotate_left; (focus first | (simp; done) | (simp; omega)))))⟩
        · have d1 : decide (B = -1) = false := decide_eq_false h1
          have e1 : (B == -1) = false := by simpa using h1
          go_enter Tryd.func45, Tryd.ntmps45
          go_wp2_with (first | (go_at_call 61; refine (impl_isNum _ _).mono ?_; rintro e w' ⟨rfl, rfl⟩))
          go_ret
          exact ⟨_, rfl, bool_eq (by simp [stepOk, *] <;> omega), (by repeat (first | (with_reducible exact Below.refl _ _) | (with_reducible assumption) | (with_reducible refine bel_alloc ?_ _) | ((with_reducible refine bel_set ?_ ?_ _); rotate_left; (focus first | (simp; done) | (simp; omega)))))⟩
      · by_cases hT : tx.toList = []
        · have dT : decide (tx.toList = []) = true := decide_eq_true hT
          have eT : (tx.toList == []) = true := by simpa using hT
          have nT : (tx.toList != []) = false := by simpa using hT
          rcases da with _ | ⟨d0, da⟩
          · rcases cu with _ | ⟨c0, cu⟩
            · go_enter Tryd.func45, Tryd.ntmps45
              go_wp2_with (first | (go_at_call 61; refine (impl_isNum _ _).mono ?_; rintro e w' ⟨rfl, rfl⟩))
              go_ret
              exact ⟨_, rfl, bool_eq (by simp [stepOk, *] <;> omega), (by repeat (first | (with_reducible exact Below.refl _ _) | (with_reducible assumption) | (with_reducible refine bel_alloc ?_ _) | ((with_reducible refine bel_set ?_ ?_ _); rotate_left; (focus first | (simp; done) | (simp; omega)))))⟩
            · go_enter Tryd.func45, Tryd.ntmps45
              go_wp2_with (first | (go_at_call 61; refine (impl_isNum _ _).mono ?_; rintro e w' ⟨rfl, rfl⟩))
              go_ret
              exact ⟨_, rfl, bool_eq (by simp [stepOk, *] <;> omega), (by repeat (first | (with_reducible exact Below.refl _ _) | (with_reducible assumption) | (with_reducible refine bel_alloc ?_ _) | ((with_reducible refine bel_set ?_ ?_ _); rotate_left; (focus first | (simp; done) | (simp; omega)))))⟩
          · go_enter Tryd.func45, Tryd.ntmps45
            go_wp2_with (first | (go_at_call 61; refine (impl_isNum _ _).mono ?_; rintro e w' ⟨rfl, rfl⟩))
            go_ret
            exact ⟨_, rfl, bool_eq (by simp [stepOk, *] <;> omega), (by repeat (first | (with_reducible exact Below.refl _ _) | (with_reducible assumption) | (with_reducible refine bel_alloc ?_ _) | ((with_reducible refine bel_set ?_ ?_ _); rotate_left; (focus first | (simp; done) | (simp; omega)))))⟩
        · have dT : decide (tx.toList = []) = false := decide_eq_false hT
          have eT : (tx.toList == []) = false := by simpa using hT
          have nT : (tx.toList != []) = true := by simpa using hT
          go_enter Tryd.func45, Tryd.ntmps45
          go_wp2_with (first | (go_at_call 61; refine (impl_isNum _ _).mono ?_; rintro e w' ⟨rfl, rfl⟩))
          go_ret
          exact ⟨_, rfl, bool_eq (by simp [stepOk, *] <;> omega), (by repeat (first | (with_reducible exact Below.refl _ _) | (with_reducible assumption) | (with_reducible refine bel_alloc ?_ _) | ((with_reducible refine bel_set ?_ ?_ _); rotate_left; (focus first | (simp; done) | (simp; omega)))))⟩
  by_cases hk6 : kd = 6
  · subst hk6
    clear hk1 hk2 hk3 hk4 hk5
    by_cases hT : tx.toList = []
    · have dT : decide (tx.toList = []) = true := decide_eq_true hT
      have eT : (tx.toList == []) = true := by simpa using hT
      have nT : (tx.toList != []) = false := by simpa using hT
      go_enter Tryd.func45, Tryd.ntmps45
      go_wp2_with (first | (go_at_call 61; refine (impl_isNum _ _).mono ?_; rintro e w' ⟨rfl, rfl⟩) | (go_at_call 64; refine (strings_contains _ _ 10).mono ?_; rintro e w' ⟨rfl, rfl⟩))
      go_ret
      exact ⟨_, rfl, bool_eq (by simp [stepOk, *] <;> omega), (by repeat (first | (with_reducible exact Below.refl _ _) | (with_reducible assumption) | (with_reducible refine bel_alloc ?_ _) | ((with_reducible refine bel_set ?_ ?_ _); rotate_left; (focus first | (simp; done) | (simp; omega)))))⟩
    · have dT : decide (tx.toList = []) = false := decide_eq_false hT
      have eT : (tx.toList == []) = false := by simpa using hT
      have nT : (tx.toList != []) = true := by simpa using hT
      cases hL : hasByte tx 10
      · by_cases hA : A = 0
        · subst hA
          by_cases hB : B = 0
          · subst hB
            rcases da with _ | ⟨d0, da⟩
            · rcases cu with _ | ⟨c0, cu⟩
              · go_enter Tryd.func45, Tryd.ntmps45
                go_wp2_with (first | (go_at_call 61; refine (impl_isNum _ _).mono ?_; rintro e w' ⟨rfl, rfl⟩) | (go_at_call 64; refine (strings_contains _ _ 10).mono ?_; rintro e w' ⟨rfl, rfl⟩))
                go_ret
                exact ⟨_, rfl, bool_eq (by simp [stepOk, *] <;> omega), (by repeat (first | (with_reducible exact Below.refl _ _) | (with_reducible assumption) | (with_reducible refine bel_alloc ?_ _) | ((with_reducible refine bel_set ?_ ?_ _); rotate_left; (focus first | (simp; done) | (simp; omega)))))⟩
              · go_enter Tryd.func45, Tryd.ntmps45
                go_wp2_with (first | (go_at_call 61; refine (impl_isNum _ _).mono ?_; rintro e w' ⟨rfl, rfl⟩) | (go_at_call 64; refine (strings_contains _ _ 10).mono ?_; rintro e w' ⟨rfl, rfl⟩))
                go_ret
                exact ⟨_, rfl, bool_eq (by simp [stepOk, *] <;> omega), (by repeat (first | (with_reducible exact Below.refl _ _) | (with_reducible assumption) | (with_reducible refine bel_alloc ?_ _) | ((with_reducible refine bel_set ?_ ?_ _); rotate_left; (focus first | (simp; done) | (simp; omega)))))⟩
            · go_enter Tryd.func45, Tryd.ntmps45
              go_wp2_with (first | (go_at_call 61; refine (impl_isNum _ _).mono ?_; rintro e w' ⟨rfl, rfl⟩) | (go_at_call 64; refine (strings_contains _ _ 10).mono ?_; rintro e w' ⟨rfl, rfl⟩))
              go_ret
              exact ⟨_, rfl, bool_eq (by simp [stepOk, *] <;> omega), (by repeat (first | (with_reducible exact Below.refl _ _) | (with_reducible assumption) | (with_reducible refine bel_alloc ?_ _) | ((with_reducible refine bel_set ?_ ?_ _); rotate_left; (focus first | (simp; done) | (simp; omega)))))⟩
          · have dhB : decide (B = 0) = false := decide_eq_false hB
            have ehB : (B == 0) = false := by simpa using hB
            go_enter Tryd.func45, Tryd.ntmps45
            go_wp2_with (first | (go_at_call 61; refine (impl_isNum _ _).mono ?_; rintro e w' ⟨rfl, rfl⟩) | (go_at_call 64; refine (strings_contains _ _ 10).mono ?_; rintro e w' ⟨rfl, rfl⟩))
            go_ret
            exact ⟨_, rfl, bool_eq (by simp [stepOk, *] <;> omega), (by repeat (first | (with_reducible exact Below.refl _ _) | (with_reducible assumption) | (with_reducible refine bel_alloc ?_ _) | ((with_reducible refine bel_set ?_ ?_ _); rotate_left; (focus first | (simp; done) | (simp; omega)))))⟩
        · have dhA : decide (A = 0) = false := decide_eq_false hA
          have ehA : (A == 0) = false := by simpa using hA
          go_enter Tryd.func45, Tryd.ntmps45
          go_wp2_with (first | (go_at_call 61; refine (impl_isNum _ _).mono ?_; rintro e w' ⟨rfl, rfl⟩) | (go_at_call 64; refine (strings_contains _ _ 10).mono ?_; rintro e w' ⟨rfl, rfl⟩))
          go_ret
          exact ⟨_, rfl, bool_eq (by simp [stepOk, *] <;> omega), (by repeat (first | (with_reducible exact Below.refl _ _) | (with_reducible assumption) | (with_reducible refine bel_alloc ?_ _) | ((with_reducible refine bel_set ?_ ?_ _); rotate_left; (focus first | (simp; done) | (simp; omega)))))⟩
      · go_enter Tryd.func45, Tryd.ntmps45
        go_wp2_with (first | (go_at_call 61; refine (impl_isNum _ _).mono ?_; rintro e w' ⟨rfl, rfl⟩) | (go_at_call 64; refine (strings_contains _ _ 10).mono ?_; rintro e w' ⟨rfl, rfl⟩))
        go_ret
        exact ⟨_, rfl, bool_eq (by simp [stepOk, *] <;> omega), (by repeat (first | (with_reducible exact Below.refl _ _) | (with_reducible assumption) | (with_reducible refine bel_alloc ?_ _) | ((with_reducible refine bel_set ?_ ?_ _); rotate_left; (focus first | (simp; done) | (simp; omega)))))⟩
  by_cases hk7 : kd = 7
  · subst hk7
    clear hk1 hk2 hk3 hk4 hk5 hk6
    cases hN : isNumB A
    · go_enter Tryd.func45, Tryd.ntmps45
      go_wp2_with (first | (go_at_call 61; refine (impl_isNum _ _).mono ?_; rintro e w' ⟨rfl, rfl⟩))
      go_ret
      exact ⟨_, rfl, bool_eq (by simp [stepOk, *] <;> omega), (by repeat (first | (with_reducible exact Below.refl _ _) | (with_reducible assumption) | (with_reducible refine bel_alloc ?_ _) | ((with_reducible refine bel_set ?_ ?_ _); rotate_left; (focus first | (simp; done) | (simp; omega)))))⟩
    · rcases da with _ | ⟨d0, da⟩
      · go_enter Tryd.func45, Tryd.ntmps45
        go_wp2_with (first | (go_at_call 61; refine (impl_isNum _ _).mono ?_; rintro e w' ⟨rfl, rfl⟩))
        go_ret
        exact ⟨_, rfl, bool_eq (by simp [stepOk, *] <;> omega), (by repeat (first | (with_reducible exact Below.refl _ _) | (with_reducible assumption) | (with_reducible refine bel_alloc ?_ _) | ((with_reducible refine bel_set ?_ ?_ _); rotate_left; (focus first | (simp; done) | (simp; omega)))))⟩
      · by_cases hB : B = 0
        · subst hB
          by_cases hT : tx.toList = []
          · have dT : decide (tx.toList = []) = true := decide_eq_true hT
            have eT : (tx.toList == []) = true := by simpa using hT
            have nT : (tx.toList != []) = false := by simpa using hT
            rcases cu with _ | ⟨c0, cu⟩
            · go_enter Tryd.func45, Tryd.ntmps45
              go_wp2_with (first | (go_at_call 61; refine (impl_isNum _ _).mono ?_; rintro e w' ⟨rfl, rfl⟩))
              go_ret
              exact ⟨_, rfl, bool_eq (by simp [stepOk, *] <;> omega), (by repeat (first | (with_reducible exact Below.refl _ _) | (with_reducible assumption) | (with_reducible refine bel_alloc ?_ _) | ((with_reducible refine bel_set ?_ ?_ _); rotate_left; (focus first | (simp; done) | (simp; omega)))))⟩
            · go_enter Tryd.func45, Tryd.ntmps45
              go_wp2_with (first | (go_at_call 61; refine (impl_isNum _ _).mono ?_; rintro e w' ⟨rfl, rfl⟩))
              go_ret
              exact ⟨_, rfl, bool_eq (by simp [stepOk, *] <;> omega), (by repeat (first | (with_reducible exact Below.refl _ _) | (with_reducible assumption) | (with_reducible refine bel_alloc ?_ _) | ((with_reducible refine bel_set ?_ ?_ _); rotate_left; (focus first | (simp; done) | (simp; omega)))))⟩
          · have dT : decide (tx.toList = []) = false := decide_eq_false hT
            have eT : (tx.toList == []) = false := by simpa using hT
            have nT : (tx.toList != []) = true := by simpa using hT
            go_enter Tryd.func45, Tryd.ntmps45
            go_wp2_with (first | (go_at_call 61; refine (impl_isNum _ _).mono ?_; rintro e w' ⟨rfl, rfl⟩))
            go_ret
            exact ⟨_, rfl, bool_eq (by simp [stepOk, *] <;> omega), (by repeat (first | (with_reducible exact Below.refl _ _) | (with_reducible assumption) | (with_reducible refine bel_alloc ?_ _) | ((with_reducible refine bel_set ?_ ?_ _); rotate_left; (focus first | (simp; done) | (simp; omega)))))⟩
        · have dhB : decide (B = 0) = false := decide_eq_false hB
          have ehB : (B == 0) = false := by simpa using hB
          go_enter Tryd.func45, Tryd.ntmps45
          go_wp2_with (first | (go_at_call 61; refine (impl_isNum _ _).mono ?_; rintro e w' ⟨rfl, rfl⟩))
          go_ret
          exact ⟨_, rfl, bool_eq (by simp [stepOk, *] <;> omega), (by repeat (first | (with_reducible exact Below.refl _ _) | (with_reducible assumption) | (with_reducible refine bel_alloc ?_ _) | ((with_reducible refine bel_set ?_ ?_ _); rotate_left; (focus first | (simp; done) | (simp; omega)))))⟩
  by_cases hk8 : kd = 8
  · subst hk8
    clear hk1 hk2 hk3 hk4 hk5 hk6 hk7
    cases hN : isNumB A
    · go_enter Tryd.func45, Tryd.ntmps45
      go_wp2_with (first | (go_at_call 61; refine (impl_isNum _ _).mono ?_; rintro e w' ⟨rfl, rfl⟩))
      go_ret
      exact ⟨_, rfl, bool_eq (by simp [stepOk, *] <;> omega), (by repeat (first | (with_reducible exact Below.refl _ _) | (with_reducible assumption) | (with_reducible refine bel_alloc ?_ _) | ((with_reducible refine bel_set ?_ ?_ _); rotate_left; (focus first | (simp; done) | (simp; omega)))))⟩
    · cases hM : isNumB B
      · go_enter Tryd.func45, Tryd.ntmps45
        go_wp2_with (first | (go_at_call 61; refine (impl_isNum _ _).mono ?_; rintro e w' ⟨rfl, rfl⟩))
        go_ret
        exact ⟨_, rfl, bool_eq (by simp [stepOk, *] <;> omega), (by repeat (first | (with_reducible exact Below.refl _ _) | (with_reducible assumption) | (with_reducible refine bel_alloc ?_ _) | ((with_reducible refine bel_set ?_ ?_ _); rotate_left; (focus first | (simp; done) | (simp; omega)))))⟩
      · by_cases hT : tx.toList = []
        · have dT : decide (tx.toList = []) = true := decide_eq_true hT
          have eT : (tx.toList == []) = true := by simpa using hT
          have nT : (tx.toList != []) = false := by simpa using hT
          rcases da with _ | ⟨d0, da⟩
          · rcases cu with _ | ⟨c0, cu⟩
            · go_enter Tryd.func45, Tryd.ntmps45
              go_wp2_with (first | (go_at_call 61; refine (impl_isNum _ _).mono ?_; rintro e w' ⟨rfl, rfl⟩))
              go_ret
              exact ⟨_, rfl, bool_eq (by simp [stepOk, *] <;> omega), (by repeat (first | (with_reducible exact Below.refl _ _) | (with_reducible assumption) | (with_reducible refine bel_alloc ?_ _) | ((with_reducible refine bel_set ?_ ?_ _); rotate_left; (focus first | (simp; done) | (simp; omega)))))⟩
            · go_enter Tryd.func45, Tryd.ntmps45
              go_wp2_with (first | (go_at_call 61; refine (impl_isNum _ _).mono ?_; rintro e w' ⟨rfl, rfl⟩))
              go_ret
              exact ⟨_, rfl, bool_eq (by simp [stepOk, *] <;> omega), (by repeat (first | (with_reducible exact Below.refl _ _) | (with_reducible assumption) | (with_reducible refine bel_alloc ?_ _) | ((with_reducible refine bel_set ?_ ?_ _); rotate_left; (focus first | (simp; done) | (simp; omega)))))⟩
          · go_enter Tryd.func45, Tryd.ntmps45
            go_wp2_with (first | (go_at_call 61; refine (impl_isNum _ _).mono ?_; rintro e w' ⟨rfl, rfl⟩))
            go_ret
            exact ⟨_, rfl, bool_eq (by simp [stepOk, *] <;> omega), (by repeat (first | (with_reducible exact Below.refl _ _) | (with_reducible assumption) | (with_reducible refine bel_alloc ?_ _) | ((with_reducible refine bel_set ?_ ?_ _); rotate_left; (focus first | (simp; done) | (simp; omega)))))⟩
        · have dT : decide (tx.toList = []) = false := decide_eq_false hT
          have eT : (tx.toList == []) = false := by simpa using hT
          have nT : (tx.toList != []) = true := by simpa using hT
          go_enter Tryd.func45, Tryd.ntmps45
          go_wp2_with (first | (go_at_call 61; refine (impl_isNum _ _).mono ?_; rintro e w' ⟨rfl, rfl⟩))
          go_ret
          exact ⟨_, rfl, bool_eq (by simp [stepOk, *] <;> omega), (by repeat (first | (with_reducible exact Below.refl _ _) | (with_reducible assumption) | (with_reducible refine bel_alloc ?_ _) | ((with_reducible refine bel_set ?_ ?_ _); rotate_left; (focus first | (simp; done) | (simp; omega)))))⟩
  have dk1 : decide (kd = 1) = false := decide_eq_false hk1
  have ek1 : (kd == 1) = false := by simpa using hk1
  have nk1 : (kd != 1) = true := by simpa using hk1
  have dk2 : decide (kd = 2) = false := decide_eq_false hk2
  have ek2 : (kd == 2) = false := by simpa using hk2
  have nk2 : (kd != 2) = true := by simpa using hk2
  have dk3 : decide (kd = 3) = false := decide_eq_false hk3
  have ek3 : (kd == 3) = false := by simpa using hk3
  have nk3 : (kd != 3) = true := by simpa using hk3
  have dk4 : decide (kd = 4) = false := decide_eq_false hk4
  have ek4 : (kd == 4) = false := by simpa using hk4
  have nk4 : (kd != 4) = true := by simpa using hk4
  have dk5 : decide (kd = 5) = false := decide_eq_false hk5
  have ek5 : (kd == 5) = false := by simpa using hk5
  have nk5 : (kd != 5) = true := by simpa using hk5
  have dk6 : decide (kd = 6) = false := decide_eq_false hk6
  have ek6 : (kd == 6) = false := by simpa using hk6
  have nk6 : (kd != 6) = true := by simpa using hk6
  have dk7 : decide (kd = 7) = false := decide_eq_false hk7
  have ek7 : (kd == 7) = false := by simpa using hk7
  have nk7 : (kd != 7) = true := by simpa using hk7
  have dk8 : decide (kd = 8) = false := decide_eq_false hk8
  have ek8 : (kd == 8) = false := by simpa using hk8
  have nk8 : (kd != 8) = true := by simpa using hk8
  by_cases hneg : kd ≤ 3
  · have dn : decide (kd ≤ 3) = true := decide_eq_true hneg
    go_enter Tryd.func45, Tryd.ntmps45
    go_wp2_with (first | (go_at_call 61; refine (impl_isNum _ _).mono ?_; rintro e w' ⟨rfl, rfl⟩))
    go_ret
    exact ⟨_, rfl, bool_eq (by simp [stepOk, *] <;> omega), (by repeat (first | (with_reducible exact Below.refl _ _) | (with_reducible assumption) | (with_reducible refine bel_alloc ?_ _) | ((with_reducible refine bel_set ?_ ?_ _); rotate_left; (focus first | (simp; done) | (simp; omega)))))⟩
  · have dn : decide (kd ≤ 3) = false := decide_eq_false hneg
    have hbig : 8 < kd := by omega
    go_enter Tryd.func45, Tryd.ntmps45
    go_wp2_with (first | (go_at_call 61; refine (impl_isNum _ _).mono ?_; rintro e w' ⟨rfl, rfl⟩))
    go_ret
    exact ⟨_, rfl, bool_eq (by simp [stepOk, *] <;> omega), (by repeat (first | (with_reducible exact Below.refl _ _) | (with_reducible assumption) | (with_reducible refine bel_alloc ?_ _) | ((with_reducible refine bel_set ?_ ?_ _); rotate_left; (focus first | (simp; done) | (simp; omega)))))⟩
end Go.Proofs.YtjglknaojfnllaaDoor
