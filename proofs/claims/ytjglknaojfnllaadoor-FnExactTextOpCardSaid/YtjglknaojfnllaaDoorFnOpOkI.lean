/- Operations: which are in order; the small tests, and the program's OpOk. -/
import Derived.Test.YtjglknaojfnllaaDoorFnWord
import Derived.Test.YtjglknaojfnllaaDoorFnGrid
import Derived.Deep.DeepCutAuto
import Derived.Deep.CutRange
import Derived.Deep.Cut
import Derived.Deep.CutBlock
set_option linter.unusedSimpArgs false
set_option linter.unusedVariables false
namespace Go.Mux
open Go.RowKit
theorem vb_eq {a b : Bool} (h : a = b) : Value.bool a = Value.bool b := by rw [h]
@[irreducible] def cmdOk (s : ByteArray) : Bool := decide (s.size ≤ 60)
@[irreducible] def sideB (n : Int) : Bool := decide (n = 76) || (decide (n = 82) || (decide (n = 85) || decide (n = 68)))
@[irreducible] def lenB (n : Int) : Bool := withinB n 1 120
@[irreducible] def restZ (a b c : Int) (n t d : ByteArray) (l : Nat) : Bool := decide (a = 0) && (decide (b = 0) && (decide (c = 0) && (decide (n.toList = []) && (decide (t.toList = []) && (decide (d.toList = []) && decide (l = 0))))))
def opOkB (x : DOp) : Bool :=
  if x.Kind = 1 ∨ x.Kind = 2 then (wordOk x.Name && (cmdOk x.Text && cmdOk x.Dir)) && restZ x.A x.B x.C ⟨#[]⟩ ⟨#[]⟩ ⟨#[]⟩ x.Data.length
  else if x.Kind = 3 then (isIdB x.A && (withinB x.B 0 1 && (cmdOk x.Text && cmdOk x.Dir))) && restZ 0 0 x.C x.Name ⟨#[]⟩ ⟨#[]⟩ x.Data.length
  else if x.Kind = 4 ∨ x.Kind = 7 ∨ x.Kind = 14 ∨ x.Kind = 8 then isIdB x.A && restZ 0 x.B x.C x.Name x.Text x.Dir x.Data.length
  else if x.Kind = 5 then (isIdB x.A && withinB (x.Data.length : Int) 1 2000) && restZ 0 x.B x.C x.Name x.Text x.Dir 0
  else if x.Kind = 6 then (isIdB x.A && withinB x.B 0 255) && restZ 0 0 x.C x.Name x.Text x.Dir x.Data.length
  else if x.Kind = 9 ∨ x.Kind = 13 then (isIdB x.A && isIdB x.B) && restZ 0 0 x.C x.Name x.Text x.Dir x.Data.length
  else if x.Kind = 10 then (isIdB x.A && (sideB x.B && lenB x.C)) && restZ 0 0 0 x.Name x.Text x.Dir x.Data.length
  else if x.Kind = 11 then (isIdB x.A && wordOk x.Name) && restZ 0 x.B x.C ⟨#[]⟩ x.Text x.Dir x.Data.length
  else if x.Kind = 12 then (lenB x.A && lenB x.B) && restZ 0 0 x.C x.Name x.Text x.Dir x.Data.length
  else false
end Go.Mux
namespace Go.Proofs.YtjglknaojfnllaaDoor
open Go.RowKit Go.Mux
theorem impl_isCmd (w : World) (s : ByteArray) : Calls Tryd.prog 74 #[.string s] w (Pure w (.bool (cmdOk s))) := by
  by_cases h : s.size ≤ 60
  · have e1 : decide ((s.size : Int) ≤ 60) = true := decide_eq_true (by omega)
    go_enter Tryd.func74, Tryd.ntmps74
    go_wp2
    go_ret
    exact pure_ret (by unfold cmdOk; simp [h])
  · have e1 : decide ((s.size : Int) ≤ 60) = false := decide_eq_false (by omega)
    go_enter Tryd.func74, Tryd.ntmps74
    go_wp2
    go_ret
    exact pure_ret (by unfold cmdOk; simp [h])
theorem impl_isLength (w : World) (n : Int) : Calls Tryd.prog 78 #[.int .i64 n] w (Pure w (.bool (lenB n))) := by
  go_enter Tryd.func78, Tryd.ntmps78
  go_wp2_with (go_at_call 76; refine (impl_within _ _ _ _).mono ?_; rintro e w' ⟨rfl, rfl⟩)
  go_ret
  exact pure_ret (by unfold lenB; rfl)
theorem impl_isSide (w : World) (n : Int) : Calls Tryd.prog 77 #[.int .i64 n] w (Pure w (.bool (sideB n))) := by
  by_cases h1 : n = 76
  · subst h1
    go_enter Tryd.func77, Tryd.ntmps77
    go_wp2
    go_ret
    exact pure_ret (by unfold sideB; simp)
  have e1 : (n == 76) = false := by simpa using h1
  have f1 : decide (n = 76) = false := decide_eq_false h1
  by_cases h2 : n = 82
  · subst h2
    go_enter Tryd.func77, Tryd.ntmps77
    go_wp2
    go_ret
    exact pure_ret (by unfold sideB; simp)
  have e2 : (n == 82) = false := by simpa using h2
  have f2 : decide (n = 82) = false := decide_eq_false h2
  by_cases h3 : n = 85
  · subst h3
    go_enter Tryd.func77, Tryd.ntmps77
    go_wp2
    go_ret
    exact pure_ret (by unfold sideB; simp)
  have e3 : (n == 85) = false := by simpa using h3
  have f3 : decide (n = 85) = false := decide_eq_false h3
  go_enter Tryd.func77, Tryd.ntmps77
  go_wp2
  go_ret
  exact pure_ret (by unfold sideB; simp [h1, h2, h3]; rfl)
set_option maxRecDepth 100000 in
set_option maxHeartbeats 8000000 in
theorem impl_OpOk (w : World) (cs : List Value) (x : DOp) (h : Rep.rep w cs x) : Calls Tryd.prog 55 #[.agg cs.toArray] w (Says w (opOkB x)) := by
  obtain ⟨v0, rfl, h0, h1, h2, h3, h4, h5, h6, h7⟩ := DOp.rep_iff.1 h
  obtain ⟨a0, p0, rfl, hl0, -⟩ := h7
  clear h h0 h1 h2 h3 h5 h6 hl0
  obtain ⟨kd, A, B, C, nm, tx, dr, da⟩ := x
  dsimp only at *
  have hx1 : w.heap.size < w.heap.size + 1 + 1 := by omega
  have hx2 : w.heap.size + 1 < w.heap.size + 1 + 1 := by omega
  go_enter Tryd.func55, Tryd.ntmps55
  go_upto_block 0 with fail
  go_cut [4] from 9 to 140 (fun ok wx => ∃ (okB : Bool) (a b c : Int) (n t d : ByteArray) (va : Option Addr) (vn vc : Nat), ok = .bool okB ∧ wx.cell? ⟨w.heap.size + 1, 1, none⟩ = some (.int .i64 a) ∧ wx.cell? ⟨w.heap.size + 1, 2, none⟩ = some (.int .i64 b) ∧ wx.cell? ⟨w.heap.size + 1, 3, none⟩ = some (.int .i64 c) ∧ wx.cell? ⟨w.heap.size + 1, 4, none⟩ = some (.string n) ∧ wx.cell? ⟨w.heap.size + 1, 5, none⟩ = some (.string t) ∧ wx.cell? ⟨w.heap.size + 1, 6, none⟩ = some (.string d) ∧ wx.cell? ⟨w.heap.size + 1, 7, none⟩ = some (.slice va vn vc) ∧ Hid (opOkB ⟨kd, A, B, C, nm, tx, dr, da⟩ = (okB && restZ a b c n t d vn)) ∧ Hid (Below w.heap.size w wx))
  case first =>
    by_cases hk1 : kd = 1
    · subst hk1
      cases hb3 : wordOk nm
      · go_wp2_with (first | (go_at_call 73; refine (impl_WordOk _ _ h4).mono ?_; rintro e w' ⟨rfl, rfl⟩) | (go_at_call 74; refine (impl_isCmd _ _).mono ?_; rintro e w' ⟨rfl, rfl⟩) | (go_at_call 75; refine (impl_isId _ _).mono ?_; rintro e w' ⟨rfl, rfl⟩) | (go_at_call 76; refine (impl_within _ _ _ _).mono ?_; rintro e w' ⟨rfl, rfl⟩) | (go_at_call 77; refine (impl_isSide _ _).mono ?_; rintro e w' ⟨rfl, rfl⟩) | (go_at_call 78; refine (impl_isLength _ _).mono ?_; rintro e w' ⟨rfl, rfl⟩))
        go_meet
        exact ⟨_, A, B, C, ⟨#[]⟩, ⟨#[]⟩, ⟨#[]⟩, a0, da.length, p0, rfl, by simp, by simp, by simp, by simp, by simp, by simp, by simp, by show _ = _; simp [opOkB, *], by show Below w.heap.size w _; exact (by repeat (first | (with_reducible exact Below.refl _ _) | (with_reducible assumption) | (with_reducible refine bel_alloc ?_ _) | ((with_reducible refine bel_set ?_ ?_ _); rotate_left; (focus first | (simp; done) | (simp; omega)))))⟩
      · cases hb2 : cmdOk tx
        · go_wp2_with (first | (go_at_call 73; refine (impl_WordOk _ _ h4).mono ?_; rintro e w' ⟨rfl, rfl⟩) | (go_at_call 74; refine (impl_isCmd _ _).mono ?_; rintro e w' ⟨rfl, rfl⟩) | (go_at_call 75; refine (impl_isId _ _).mono ?_; rintro e w' ⟨rfl, rfl⟩) | (go_at_call 76; refine (impl_within _ _ _ _).mono ?_; rintro e w' ⟨rfl, rfl⟩) | (go_at_call 77; refine (impl_isSide _ _).mono ?_; rintro e w' ⟨rfl, rfl⟩) | (go_at_call 78; refine (impl_isLength _ _).mono ?_; rintro e w' ⟨rfl, rfl⟩))
          go_meet
          exact ⟨_, A, B, C, ⟨#[]⟩, ⟨#[]⟩, ⟨#[]⟩, a0, da.length, p0, rfl, by simp, by simp, by simp, by simp, by simp, by simp, by simp, by show _ = _; simp [opOkB, *], by show Below w.heap.size w _; exact (by repeat (first | (with_reducible exact Below.refl _ _) | (with_reducible assumption) | (with_reducible refine bel_alloc ?_ _) | ((with_reducible refine bel_set ?_ ?_ _); rotate_left; (focus first | (simp; done) | (simp; omega)))))⟩
        · go_wp2_with (first | (go_at_call 73; refine (impl_WordOk _ _ h4).mono ?_; rintro e w' ⟨rfl, rfl⟩) | (go_at_call 74; refine (impl_isCmd _ _).mono ?_; rintro e w' ⟨rfl, rfl⟩) | (go_at_call 75; refine (impl_isId _ _).mono ?_; rintro e w' ⟨rfl, rfl⟩) | (go_at_call 76; refine (impl_within _ _ _ _).mono ?_; rintro e w' ⟨rfl, rfl⟩) | (go_at_call 77; refine (impl_isSide _ _).mono ?_; rintro e w' ⟨rfl, rfl⟩) | (go_at_call 78; refine (impl_isLength _ _).mono ?_; rintro e w' ⟨rfl, rfl⟩))
          go_meet
          exact ⟨_, A, B, C, ⟨#[]⟩, ⟨#[]⟩, ⟨#[]⟩, a0, da.length, p0, rfl, by simp, by simp, by simp, by simp, by simp, by simp, by simp, by show _ = _; simp [opOkB, *], by show Below w.heap.size w _; exact (by repeat (first | (with_reducible exact Below.refl _ _) | (with_reducible assumption) | (with_reducible refine bel_alloc ?_ _) | ((with_reducible refine bel_set ?_ ?_ _); rotate_left; (focus first | (simp; done) | (simp; omega)))))⟩
    by_cases hk2 : kd = 2
    · subst hk2
      clear hk1
      cases hb3 : wordOk nm
      · go_wp2_with (first | (go_at_call 73; refine (impl_WordOk _ _ h4).mono ?_; rintro e w' ⟨rfl, rfl⟩) | (go_at_call 74; refine (impl_isCmd _ _).mono ?_; rintro e w' ⟨rfl, rfl⟩) | (go_at_call 75; refine (impl_isId _ _).mono ?_; rintro e w' ⟨rfl, rfl⟩) | (go_at_call 76; refine (impl_within _ _ _ _).mono ?_; rintro e w' ⟨rfl, rfl⟩) | (go_at_call 77; refine (impl_isSide _ _).mono ?_; rintro e w' ⟨rfl, rfl⟩) | (go_at_call 78; refine (impl_isLength _ _).mono ?_; rintro e w' ⟨rfl, rfl⟩))
        go_meet
        exact ⟨_, A, B, C, ⟨#[]⟩, ⟨#[]⟩, ⟨#[]⟩, a0, da.length, p0, rfl, by simp, by simp, by simp, by simp, by simp, by simp, by simp, by show _ = _; simp [opOkB, *], by show Below w.heap.size w _; exact (by repeat (first | (with_reducible exact Below.refl _ _) | (with_reducible assumption) | (with_reducible refine bel_alloc ?_ _) | ((with_reducible refine bel_set ?_ ?_ _); rotate_left; (focus first | (simp; done) | (simp; omega)))))⟩
      · cases hb2 : cmdOk tx
        · go_wp2_with (first | (go_at_call 73; refine (impl_WordOk _ _ h4).mono ?_; rintro e w' ⟨rfl, rfl⟩) | (go_at_call 74; refine (impl_isCmd _ _).mono ?_; rintro e w' ⟨rfl, rfl⟩) | (go_at_call 75; refine (impl_isId _ _).mono ?_; rintro e w' ⟨rfl, rfl⟩) | (go_at_call 76; refine (impl_within _ _ _ _).mono ?_; rintro e w' ⟨rfl, rfl⟩) | (go_at_call 77; refine (impl_isSide _ _).mono ?_; rintro e w' ⟨rfl, rfl⟩) | (go_at_call 78; refine (impl_isLength _ _).mono ?_; rintro e w' ⟨rfl, rfl⟩))
          go_meet
          exact ⟨_, A, B, C, ⟨#[]⟩, ⟨#[]⟩, ⟨#[]⟩, a0, da.length, p0, rfl, by simp, by simp, by simp, by simp, by simp, by simp, by simp, by show _ = _; simp [opOkB, *], by show Below w.heap.size w _; exact (by repeat (first | (with_reducible exact Below.refl _ _) | (with_reducible assumption) | (with_reducible refine bel_alloc ?_ _) | ((with_reducible refine bel_set ?_ ?_ _); rotate_left; (focus first | (simp; done) | (simp; omega)))))⟩
        · go_wp2_with (first | (go_at_call 73; refine (impl_WordOk _ _ h4).mono ?_; rintro e w' ⟨rfl, rfl⟩) | (go_at_call 74; refine (impl_isCmd _ _).mono ?_; rintro e w' ⟨rfl, rfl⟩) | (go_at_call 75; refine (impl_isId _ _).mono ?_; rintro e w' ⟨rfl, rfl⟩) | (go_at_call 76; refine (impl_within _ _ _ _).mono ?_; rintro e w' ⟨rfl, rfl⟩) | (go_at_call 77; refine (impl_isSide _ _).mono ?_; rintro e w' ⟨rfl, rfl⟩) | (go_at_call 78; refine (impl_isLength _ _).mono ?_; rintro e w' ⟨rfl, rfl⟩))
          go_meet
          exact ⟨_, A, B, C, ⟨#[]⟩, ⟨#[]⟩, ⟨#[]⟩, a0, da.length, p0, rfl, by simp, by simp, by simp, by simp, by simp, by simp, by simp, by show _ = _; simp [opOkB, *], by show Below w.heap.size w _; exact (by repeat (first | (with_reducible exact Below.refl _ _) | (with_reducible assumption) | (with_reducible refine bel_alloc ?_ _) | ((with_reducible refine bel_set ?_ ?_ _); rotate_left; (focus first | (simp; done) | (simp; omega)))))⟩
    by_cases hk3 : kd = 3
    · subst hk3
      clear hk1 hk2
      cases hb4 : isIdB A
      · go_wp2_with (first | (go_at_call 73; refine (impl_WordOk _ _ h4).mono ?_; rintro e w' ⟨rfl, rfl⟩) | (go_at_call 74; refine (impl_isCmd _ _).mono ?_; rintro e w' ⟨rfl, rfl⟩) | (go_at_call 75; refine (impl_isId _ _).mono ?_; rintro e w' ⟨rfl, rfl⟩) | (go_at_call 76; refine (impl_within _ _ _ _).mono ?_; rintro e w' ⟨rfl, rfl⟩) | (go_at_call 77; refine (impl_isSide _ _).mono ?_; rintro e w' ⟨rfl, rfl⟩) | (go_at_call 78; refine (impl_isLength _ _).mono ?_; rintro e w' ⟨rfl, rfl⟩))
        go_meet
        exact ⟨_, 0, 0, C, nm, ⟨#[]⟩, ⟨#[]⟩, a0, da.length, p0, rfl, by simp, by simp, by simp, by simp, by simp, by simp, by simp, by show _ = _; simp [opOkB, *], by show Below w.heap.size w _; exact (by repeat (first | (with_reducible exact Below.refl _ _) | (with_reducible assumption) | (with_reducible refine bel_alloc ?_ _) | ((with_reducible refine bel_set ?_ ?_ _); rotate_left; (focus first | (simp; done) | (simp; omega)))))⟩
      · cases hb3 : withinB B 0 1
        · go_wp2_with (first | (go_at_call 73; refine (impl_WordOk _ _ h4).mono ?_; rintro e w' ⟨rfl, rfl⟩) | (go_at_call 74; refine (impl_isCmd _ _).mono ?_; rintro e w' ⟨rfl, rfl⟩) | (go_at_call 75; refine (impl_isId _ _).mono ?_; rintro e w' ⟨rfl, rfl⟩) | (go_at_call 76; refine (impl_within _ _ _ _).mono ?_; rintro e w' ⟨rfl, rfl⟩) | (go_at_call 77; refine (impl_isSide _ _).mono ?_; rintro e w' ⟨rfl, rfl⟩) | (go_at_call 78; refine (impl_isLength _ _).mono ?_; rintro e w' ⟨rfl, rfl⟩))
          go_meet
          exact ⟨_, 0, 0, C, nm, ⟨#[]⟩, ⟨#[]⟩, a0, da.length, p0, rfl, by simp, by simp, by simp, by simp, by simp, by simp, by simp, by show _ = _; simp [opOkB, *], by show Below w.heap.size w _; exact (by repeat (first | (with_reducible exact Below.refl _ _) | (with_reducible assumption) | (with_reducible refine bel_alloc ?_ _) | ((with_reducible refine bel_set ?_ ?_ _); rotate_left; (focus first | (simp; done) | (simp; omega)))))⟩
        · cases hb2 : cmdOk tx
          · go_wp2_with (first | (go_at_call 73; refine (impl_WordOk _ _ h4).mono ?_; rintro e w' ⟨rfl, rfl⟩) | (go_at_call 74; refine (impl_isCmd _ _).mono ?_; rintro e w' ⟨rfl, rfl⟩) | (go_at_call 75; refine (impl_isId _ _).mono ?_; rintro e w' ⟨rfl, rfl⟩) | (go_at_call 76; refine (impl_within _ _ _ _).mono ?_; rintro e w' ⟨rfl, rfl⟩) | (go_at_call 77; refine (impl_isSide _ _).mono ?_; rintro e w' ⟨rfl, rfl⟩) | (go_at_call 78; refine (impl_isLength _ _).mono ?_; rintro e w' ⟨rfl, rfl⟩))
            go_meet
            exact ⟨_, 0, 0, C, nm, ⟨#[]⟩, ⟨#[]⟩, a0, da.length, p0, rfl, by simp, by simp, by simp, by simp, by simp, by simp, by simp, by show _ = _; simp [opOkB, *], by show Below w.heap.size w _; exact (by repeat (first | (with_reducible exact Below.refl _ _) | (with_reducible assumption) | (with_reducible refine bel_alloc ?_ _) | ((with_reducible refine bel_set ?_ ?_ _); rotate_left; (focus first | (simp; done) | (simp; omega)))))⟩
          · go_wp2_with (first | (go_at_call 73; refine (impl_WordOk _ _ h4).mono ?_; rintro e w' ⟨rfl, rfl⟩) | (go_at_call 74; refine (impl_isCmd _ _).mono ?_; rintro e w' ⟨rfl, rfl⟩) | (go_at_call 75; refine (impl_isId _ _).mono ?_; rintro e w' ⟨rfl, rfl⟩) | (go_at_call 76; refine (impl_within _ _ _ _).mono ?_; rintro e w' ⟨rfl, rfl⟩) | (go_at_call 77; refine (impl_isSide _ _).mono ?_; rintro e w' ⟨rfl, rfl⟩) | (go_at_call 78; refine (impl_isLength _ _).mono ?_; rintro e w' ⟨rfl, rfl⟩))
            go_meet
            exact ⟨_, 0, 0, C, nm, ⟨#[]⟩, ⟨#[]⟩, a0, da.length, p0, rfl, by simp, by simp, by simp, by simp, by simp, by simp, by simp, by show _ = _; simp [opOkB, *], by show Below w.heap.size w _; exact (by repeat (first | (with_reducible exact Below.refl _ _) | (with_reducible assumption) | (with_reducible refine bel_alloc ?_ _) | ((with_reducible refine bel_set ?_ ?_ _); rotate_left; (focus first | (simp; done) | (simp; omega)))))⟩
    by_cases hk4 : kd = 4
    · subst hk4
      clear hk1 hk2 hk3
      go_wp2_with (first | (go_at_call 73; refine (impl_WordOk _ _ h4).mono ?_; rintro e w' ⟨rfl, rfl⟩) | (go_at_call 74; refine (impl_isCmd _ _).mono ?_; rintro e w' ⟨rfl, rfl⟩) | (go_at_call 75; refine (impl_isId _ _).mono ?_; rintro e w' ⟨rfl, rfl⟩) | (go_at_call 76; refine (impl_within _ _ _ _).mono ?_; rintro e w' ⟨rfl, rfl⟩) | (go_at_call 77; refine (impl_isSide _ _).mono ?_; rintro e w' ⟨rfl, rfl⟩) | (go_at_call 78; refine (impl_isLength _ _).mono ?_; rintro e w' ⟨rfl, rfl⟩))
      go_meet
      exact ⟨_, 0, B, C, nm, tx, dr, a0, da.length, p0, rfl, by simp, by simp, by simp, by simp, by simp, by simp, by simp, by show _ = _; simp [opOkB, *], by show Below w.heap.size w _; exact (by repeat (first | (with_reducible exact Below.refl _ _) | (with_reducible assumption) | (with_reducible refine bel_alloc ?_ _) | ((with_reducible refine bel_set ?_ ?_ _); rotate_left; (focus first | (simp; done) | (simp; omega)))))⟩
    by_cases hk5 : kd = 5
    · subst hk5
      clear hk1 hk2 hk3 hk4
      cases hb2 : isIdB A
      · go_wp2_with (first | (go_at_call 73; refine (impl_WordOk _ _ h4).mono ?_; rintro e w' ⟨rfl, rfl⟩) | (go_at_call 74; refine (impl_isCmd _ _).mono ?_; rintro e w' ⟨rfl, rfl⟩) | (go_at_call 75; refine (impl_isId _ _).mono ?_; rintro e w' ⟨rfl, rfl⟩) | (go_at_call 76; refine (impl_within _ _ _ _).mono ?_; rintro e w' ⟨rfl, rfl⟩) | (go_at_call 77; refine (impl_isSide _ _).mono ?_; rintro e w' ⟨rfl, rfl⟩) | (go_at_call 78; refine (impl_isLength _ _).mono ?_; rintro e w' ⟨rfl, rfl⟩))
        go_meet
        exact ⟨_, 0, B, C, nm, tx, dr, none, 0, 0, rfl, by simp, by simp, by simp, by simp, by simp, by simp, by simp, by show _ = _; simp [opOkB, *], by show Below w.heap.size w _; exact (by repeat (first | (with_reducible exact Below.refl _ _) | (with_reducible assumption) | (with_reducible refine bel_alloc ?_ _) | ((with_reducible refine bel_set ?_ ?_ _); rotate_left; (focus first | (simp; done) | (simp; omega)))))⟩
      · go_wp2_with (first | (go_at_call 73; refine (impl_WordOk _ _ h4).mono ?_; rintro e w' ⟨rfl, rfl⟩) | (go_at_call 74; refine (impl_isCmd _ _).mono ?_; rintro e w' ⟨rfl, rfl⟩) | (go_at_call 75; refine (impl_isId _ _).mono ?_; rintro e w' ⟨rfl, rfl⟩) | (go_at_call 76; refine (impl_within _ _ _ _).mono ?_; rintro e w' ⟨rfl, rfl⟩) | (go_at_call 77; refine (impl_isSide _ _).mono ?_; rintro e w' ⟨rfl, rfl⟩) | (go_at_call 78; refine (impl_isLength _ _).mono ?_; rintro e w' ⟨rfl, rfl⟩))
        go_meet
        exact ⟨_, 0, B, C, nm, tx, dr, none, 0, 0, rfl, by simp, by simp, by simp, by simp, by simp, by simp, by simp, by show _ = _; simp [opOkB, *], by show Below w.heap.size w _; exact (by repeat (first | (with_reducible exact Below.refl _ _) | (with_reducible assumption) | (with_reducible refine bel_alloc ?_ _) | ((with_reducible refine bel_set ?_ ?_ _); rotate_left; (focus first | (simp; done) | (simp; omega)))))⟩
    by_cases hk6 : kd = 6
    · subst hk6
      clear hk1 hk2 hk3 hk4 hk5
      cases hb2 : isIdB A
      · go_wp2_with (first | (go_at_call 73; refine (impl_WordOk _ _ h4).mono ?_; rintro e w' ⟨rfl, rfl⟩) | (go_at_call 74; refine (impl_isCmd _ _).mono ?_; rintro e w' ⟨rfl, rfl⟩) | (go_at_call 75; refine (impl_isId _ _).mono ?_; rintro e w' ⟨rfl, rfl⟩) | (go_at_call 76; refine (impl_within _ _ _ _).mono ?_; rintro e w' ⟨rfl, rfl⟩) | (go_at_call 77; refine (impl_isSide _ _).mono ?_; rintro e w' ⟨rfl, rfl⟩) | (go_at_call 78; refine (impl_isLength _ _).mono ?_; rintro e w' ⟨rfl, rfl⟩))
        go_meet
        exact ⟨_, 0, 0, C, nm, tx, dr, a0, da.length, p0, rfl, by simp, by simp, by simp, by simp, by simp, by simp, by simp, by show _ = _; simp [opOkB, *], by show Below w.heap.size w _; exact (by repeat (first | (with_reducible exact Below.refl _ _) | (with_reducible assumption) | (with_reducible refine bel_alloc ?_ _) | ((with_reducible refine bel_set ?_ ?_ _); rotate_left; (focus first | (simp; done) | (simp; omega)))))⟩
      · go_wp2_with (first | (go_at_call 73; refine (impl_WordOk _ _ h4).mono ?_; rintro e w' ⟨rfl, rfl⟩) | (go_at_call 74; refine (impl_isCmd _ _).mono ?_; rintro e w' ⟨rfl, rfl⟩) | (go_at_call 75; refine (impl_isId _ _).mono ?_; rintro e w' ⟨rfl, rfl⟩) | (go_at_call 76; refine (impl_within _ _ _ _).mono ?_; rintro e w' ⟨rfl, rfl⟩) | (go_at_call 77; refine (impl_isSide _ _).mono ?_; rintro e w' ⟨rfl, rfl⟩) | (go_at_call 78; refine (impl_isLength _ _).mono ?_; rintro e w' ⟨rfl, rfl⟩))
        go_meet
        exact ⟨_, 0, 0, C, nm, tx, dr, a0, da.length, p0, rfl, by simp, by simp, by simp, by simp, by simp, by simp, by simp, by show _ = _; simp [opOkB, *], by show Below w.heap.size w _; exact (by repeat (first | (with_reducible exact Below.refl _ _) | (with_reducible assumption) | (with_reducible refine bel_alloc ?_ _) | ((with_reducible refine bel_set ?_ ?_ _); rotate_left; (focus first | (simp; done) | (simp; omega)))))⟩
    by_cases hk7 : kd = 7
    · subst hk7
      clear hk1 hk2 hk3 hk4 hk5 hk6
      go_wp2_with (first | (go_at_call 73; refine (impl_WordOk _ _ h4).mono ?_; rintro e w' ⟨rfl, rfl⟩) | (go_at_call 74; refine (impl_isCmd _ _).mono ?_; rintro e w' ⟨rfl, rfl⟩) | (go_at_call 75; refine (impl_isId _ _).mono ?_; rintro e w' ⟨rfl, rfl⟩) | (go_at_call 76; refine (impl_within _ _ _ _).mono ?_; rintro e w' ⟨rfl, rfl⟩) | (go_at_call 77; refine (impl_isSide _ _).mono ?_; rintro e w' ⟨rfl, rfl⟩) | (go_at_call 78; refine (impl_isLength _ _).mono ?_; rintro e w' ⟨rfl, rfl⟩))
      go_meet
      exact ⟨_, 0, B, C, nm, tx, dr, a0, da.length, p0, rfl, by simp, by simp, by simp, by simp, by simp, by simp, by simp, by show _ = _; simp [opOkB, *], by show Below w.heap.size w _; exact (by repeat (first | (with_reducible exact Below.refl _ _) | (with_reducible assumption) | (with_reducible refine bel_alloc ?_ _) | ((with_reducible refine bel_set ?_ ?_ _); rotate_left; (focus first | (simp; done) | (simp; omega)))))⟩
    by_cases hk8 : kd = 8
    · subst hk8
      clear hk1 hk2 hk3 hk4 hk5 hk6 hk7
      go_wp2_with (first | (go_at_call 73; refine (impl_WordOk _ _ h4).mono ?_; rintro e w' ⟨rfl, rfl⟩) | (go_at_call 74; refine (impl_isCmd _ _).mono ?_; rintro e w' ⟨rfl, rfl⟩) | (go_at_call 75; refine (impl_isId _ _).mono ?_; rintro e w' ⟨rfl, rfl⟩) | (go_at_call 76; refine (impl_within _ _ _ _).mono ?_; rintro e w' ⟨rfl, rfl⟩) | (go_at_call 77; refine (impl_isSide _ _).mono ?_; rintro e w' ⟨rfl, rfl⟩) | (go_at_call 78; refine (impl_isLength _ _).mono ?_; rintro e w' ⟨rfl, rfl⟩))
      go_meet
      exact ⟨_, 0, B, C, nm, tx, dr, a0, da.length, p0, rfl, by simp, by simp, by simp, by simp, by simp, by simp, by simp, by show _ = _; simp [opOkB, *], by show Below w.heap.size w _; exact (by repeat (first | (with_reducible exact Below.refl _ _) | (with_reducible assumption) | (with_reducible refine bel_alloc ?_ _) | ((with_reducible refine bel_set ?_ ?_ _); rotate_left; (focus first | (simp; done) | (simp; omega)))))⟩
    by_cases hk9 : kd = 9
    · subst hk9
      clear hk1 hk2 hk3 hk4 hk5 hk6 hk7 hk8
      cases hb2 : isIdB A
      · go_wp2_with (first | (go_at_call 73; refine (impl_WordOk _ _ h4).mono ?_; rintro e w' ⟨rfl, rfl⟩) | (go_at_call 74; refine (impl_isCmd _ _).mono ?_; rintro e w' ⟨rfl, rfl⟩) | (go_at_call 75; refine (impl_isId _ _).mono ?_; rintro e w' ⟨rfl, rfl⟩) | (go_at_call 76; refine (impl_within _ _ _ _).mono ?_; rintro e w' ⟨rfl, rfl⟩) | (go_at_call 77; refine (impl_isSide _ _).mono ?_; rintro e w' ⟨rfl, rfl⟩) | (go_at_call 78; refine (impl_isLength _ _).mono ?_; rintro e w' ⟨rfl, rfl⟩))
        go_meet
        exact ⟨_, 0, 0, C, nm, tx, dr, a0, da.length, p0, rfl, by simp, by simp, by simp, by simp, by simp, by simp, by simp, by show _ = _; simp [opOkB, *], by show Below w.heap.size w _; exact (by repeat (first | (with_reducible exact Below.refl _ _) | (with_reducible assumption) | (with_reducible refine bel_alloc ?_ _) | ((with_reducible refine bel_set ?_ ?_ _); rotate_left; (focus first | (simp; done) | (simp; omega)))))⟩
      · go_wp2_with (first | (go_at_call 73; refine (impl_WordOk _ _ h4).mono ?_; rintro e w' ⟨rfl, rfl⟩) | (go_at_call 74; refine (impl_isCmd _ _).mono ?_; rintro e w' ⟨rfl, rfl⟩) | (go_at_call 75; refine (impl_isId _ _).mono ?_; rintro e w' ⟨rfl, rfl⟩) | (go_at_call 76; refine (impl_within _ _ _ _).mono ?_; rintro e w' ⟨rfl, rfl⟩) | (go_at_call 77; refine (impl_isSide _ _).mono ?_; rintro e w' ⟨rfl, rfl⟩) | (go_at_call 78; refine (impl_isLength _ _).mono ?_; rintro e w' ⟨rfl, rfl⟩))
        go_meet
        exact ⟨_, 0, 0, C, nm, tx, dr, a0, da.length, p0, rfl, by simp, by simp, by simp, by simp, by simp, by simp, by simp, by show _ = _; simp [opOkB, *], by show Below w.heap.size w _; exact (by repeat (first | (with_reducible exact Below.refl _ _) | (with_reducible assumption) | (with_reducible refine bel_alloc ?_ _) | ((with_reducible refine bel_set ?_ ?_ _); rotate_left; (focus first | (simp; done) | (simp; omega)))))⟩
    by_cases hk10 : kd = 10
    · subst hk10
      clear hk1 hk2 hk3 hk4 hk5 hk6 hk7 hk8 hk9
      cases hb3 : isIdB A
      · go_wp2_with (first | (go_at_call 73; refine (impl_WordOk _ _ h4).mono ?_; rintro e w' ⟨rfl, rfl⟩) | (go_at_call 74; refine (impl_isCmd _ _).mono ?_; rintro e w' ⟨rfl, rfl⟩) | (go_at_call 75; refine (impl_isId _ _).mono ?_; rintro e w' ⟨rfl, rfl⟩) | (go_at_call 76; refine (impl_within _ _ _ _).mono ?_; rintro e w' ⟨rfl, rfl⟩) | (go_at_call 77; refine (impl_isSide _ _).mono ?_; rintro e w' ⟨rfl, rfl⟩) | (go_at_call 78; refine (impl_isLength _ _).mono ?_; rintro e w' ⟨rfl, rfl⟩))
        go_meet
        exact ⟨_, 0, 0, 0, nm, tx, dr, a0, da.length, p0, rfl, by simp, by simp, by simp, by simp, by simp, by simp, by simp, by show _ = _; simp [opOkB, *], by show Below w.heap.size w _; exact (by repeat (first | (with_reducible exact Below.refl _ _) | (with_reducible assumption) | (with_reducible refine bel_alloc ?_ _) | ((with_reducible refine bel_set ?_ ?_ _); rotate_left; (focus first | (simp; done) | (simp; omega)))))⟩
      · cases hb2 : sideB B
        · go_wp2_with (first | (go_at_call 73; refine (impl_WordOk _ _ h4).mono ?_; rintro e w' ⟨rfl, rfl⟩) | (go_at_call 74; refine (impl_isCmd _ _).mono ?_; rintro e w' ⟨rfl, rfl⟩) | (go_at_call 75; refine (impl_isId _ _).mono ?_; rintro e w' ⟨rfl, rfl⟩) | (go_at_call 76; refine (impl_within _ _ _ _).mono ?_; rintro e w' ⟨rfl, rfl⟩) | (go_at_call 77; refine (impl_isSide _ _).mono ?_; rintro e w' ⟨rfl, rfl⟩) | (go_at_call 78; refine (impl_isLength _ _).mono ?_; rintro e w' ⟨rfl, rfl⟩))
          go_meet
          exact ⟨_, 0, 0, 0, nm, tx, dr, a0, da.length, p0, rfl, by simp, by simp, by simp, by simp, by simp, by simp, by simp, by show _ = _; simp [opOkB, *], by show Below w.heap.size w _; exact (by repeat (first | (with_reducible exact Below.refl _ _) | (with_reducible assumption) | (with_reducible refine bel_alloc ?_ _) | ((with_reducible refine bel_set ?_ ?_ _); rotate_left; (focus first | (simp; done) | (simp; omega)))))⟩
        · go_wp2_with (first | (go_at_call 73; refine (impl_WordOk _ _ h4).mono ?_; rintro e w' ⟨rfl, rfl⟩) | (go_at_call 74; refine (impl_isCmd _ _).mono ?_; rintro e w' ⟨rfl, rfl⟩) | (go_at_call 75; refine (impl_isId _ _).mono ?_; rintro e w' ⟨rfl, rfl⟩) | (go_at_call 76; refine (impl_within _ _ _ _).mono ?_; rintro e w' ⟨rfl, rfl⟩) | (go_at_call 77; refine (impl_isSide _ _).mono ?_; rintro e w' ⟨rfl, rfl⟩) | (go_at_call 78; refine (impl_isLength _ _).mono ?_; rintro e w' ⟨rfl, rfl⟩))
          go_meet
          exact ⟨_, 0, 0, 0, nm, tx, dr, a0, da.length, p0, rfl, by simp, by simp, by simp, by simp, by simp, by simp, by simp, by show _ = _; simp [opOkB, *], by show Below w.heap.size w _; exact (by repeat (first | (with_reducible exact Below.refl _ _) | (with_reducible assumption) | (with_reducible refine bel_alloc ?_ _) | ((with_reducible refine bel_set ?_ ?_ _); rotate_left; (focus first | (simp; done) | (simp; omega)))))⟩
    by_cases hk11 : kd = 11
    · subst hk11
      clear hk1 hk2 hk3 hk4 hk5 hk6 hk7 hk8 hk9 hk10
      cases hb2 : isIdB A
      · go_wp2_with (first | (go_at_call 73; refine (impl_WordOk _ _ h4).mono ?_; rintro e w' ⟨rfl, rfl⟩) | (go_at_call 74; refine (impl_isCmd _ _).mono ?_; rintro e w' ⟨rfl, rfl⟩) | (go_at_call 75; refine (impl_isId _ _).mono ?_; rintro e w' ⟨rfl, rfl⟩) | (go_at_call 76; refine (impl_within _ _ _ _).mono ?_; rintro e w' ⟨rfl, rfl⟩) | (go_at_call 77; refine (impl_isSide _ _).mono ?_; rintro e w' ⟨rfl, rfl⟩) | (go_at_call 78; refine (impl_isLength _ _).mono ?_; rintro e w' ⟨rfl, rfl⟩))
        go_meet
        exact ⟨_, 0, B, C, ⟨#[]⟩, tx, dr, a0, da.length, p0, rfl, by simp, by simp, by simp, by simp, by simp, by simp, by simp, by show _ = _; simp [opOkB, *], by show Below w.heap.size w _; exact (by repeat (first | (with_reducible exact Below.refl _ _) | (with_reducible assumption) | (with_reducible refine bel_alloc ?_ _) | ((with_reducible refine bel_set ?_ ?_ _); rotate_left; (focus first | (simp; done) | (simp; omega)))))⟩
      · go_wp2_with (first | (go_at_call 73; refine (impl_WordOk _ _ h4).mono ?_; rintro e w' ⟨rfl, rfl⟩) | (go_at_call 74; refine (impl_isCmd _ _).mono ?_; rintro e w' ⟨rfl, rfl⟩) | (go_at_call 75; refine (impl_isId _ _).mono ?_; rintro e w' ⟨rfl, rfl⟩) | (go_at_call 76; refine (impl_within _ _ _ _).mono ?_; rintro e w' ⟨rfl, rfl⟩) | (go_at_call 77; refine (impl_isSide _ _).mono ?_; rintro e w' ⟨rfl, rfl⟩) | (go_at_call 78; refine (impl_isLength _ _).mono ?_; rintro e w' ⟨rfl, rfl⟩))
        go_meet
        exact ⟨_, 0, B, C, ⟨#[]⟩, tx, dr, a0, da.length, p0, rfl, by simp, by simp, by simp, by simp, by simp, by simp, by simp, by show _ = _; simp [opOkB, *], by show Below w.heap.size w _; exact (by repeat (first | (with_reducible exact Below.refl _ _) | (with_reducible assumption) | (with_reducible refine bel_alloc ?_ _) | ((with_reducible refine bel_set ?_ ?_ _); rotate_left; (focus first | (simp; done) | (simp; omega)))))⟩
    by_cases hk12 : kd = 12
    · subst hk12
      clear hk1 hk2 hk3 hk4 hk5 hk6 hk7 hk8 hk9 hk10 hk11
      cases hb2 : lenB A
      · go_wp2_with (first | (go_at_call 73; refine (impl_WordOk _ _ h4).mono ?_; rintro e w' ⟨rfl, rfl⟩) | (go_at_call 74; refine (impl_isCmd _ _).mono ?_; rintro e w' ⟨rfl, rfl⟩) | (go_at_call 75; refine (impl_isId _ _).mono ?_; rintro e w' ⟨rfl, rfl⟩) | (go_at_call 76; refine (impl_within _ _ _ _).mono ?_; rintro e w' ⟨rfl, rfl⟩) | (go_at_call 77; refine (impl_isSide _ _).mono ?_; rintro e w' ⟨rfl, rfl⟩) | (go_at_call 78; refine (impl_isLength _ _).mono ?_; rintro e w' ⟨rfl, rfl⟩))
        go_meet
        exact ⟨_, 0, 0, C, nm, tx, dr, a0, da.length, p0, rfl, by simp, by simp, by simp, by simp, by simp, by simp, by simp, by show _ = _; simp [opOkB, *], by show Below w.heap.size w _; exact (by repeat (first | (with_reducible exact Below.refl _ _) | (with_reducible assumption) | (with_reducible refine bel_alloc ?_ _) | ((with_reducible refine bel_set ?_ ?_ _); rotate_left; (focus first | (simp; done) | (simp; omega)))))⟩
      · go_wp2_with (first | (go_at_call 73; refine (impl_WordOk _ _ h4).mono ?_; rintro e w' ⟨rfl, rfl⟩) | (go_at_call 74; refine (impl_isCmd _ _).mono ?_; rintro e w' ⟨rfl, rfl⟩) | (go_at_call 75; refine (impl_isId _ _).mono ?_; rintro e w' ⟨rfl, rfl⟩) | (go_at_call 76; refine (impl_within _ _ _ _).mono ?_; rintro e w' ⟨rfl, rfl⟩) | (go_at_call 77; refine (impl_isSide _ _).mono ?_; rintro e w' ⟨rfl, rfl⟩) | (go_at_call 78; refine (impl_isLength _ _).mono ?_; rintro e w' ⟨rfl, rfl⟩))
        go_meet
        exact ⟨_, 0, 0, C, nm, tx, dr, a0, da.length, p0, rfl, by simp, by simp, by simp, by simp, by simp, by simp, by simp, by show _ = _; simp [opOkB, *], by show Below w.heap.size w _; exact (by repeat (first | (with_reducible exact Below.refl _ _) | (with_reducible assumption) | (with_reducible refine bel_alloc ?_ _) | ((with_reducible refine bel_set ?_ ?_ _); rotate_left; (focus first | (simp; done) | (simp; omega)))))⟩
    by_cases hk13 : kd = 13
    · subst hk13
      clear hk1 hk2 hk3 hk4 hk5 hk6 hk7 hk8 hk9 hk10 hk11 hk12
      cases hb2 : isIdB A
      · go_wp2_with (first | (go_at_call 73; refine (impl_WordOk _ _ h4).mono ?_; rintro e w' ⟨rfl, rfl⟩) | (go_at_call 74; refine (impl_isCmd _ _).mono ?_; rintro e w' ⟨rfl, rfl⟩) | (go_at_call 75; refine (impl_isId _ _).mono ?_; rintro e w' ⟨rfl, rfl⟩) | (go_at_call 76; refine (impl_within _ _ _ _).mono ?_; rintro e w' ⟨rfl, rfl⟩) | (go_at_call 77; refine (impl_isSide _ _).mono ?_; rintro e w' ⟨rfl, rfl⟩) | (go_at_call 78; refine (impl_isLength _ _).mono ?_; rintro e w' ⟨rfl, rfl⟩))
        go_meet
        exact ⟨_, 0, 0, C, nm, tx, dr, a0, da.length, p0, rfl, by simp, by simp, by simp, by simp, by simp, by simp, by simp, by show _ = _; simp [opOkB, *], by show Below w.heap.size w _; exact (by repeat (first | (with_reducible exact Below.refl _ _) | (with_reducible assumption) | (with_reducible refine bel_alloc ?_ _) | ((with_reducible refine bel_set ?_ ?_ _); rotate_left; (focus first | (simp; done) | (simp; omega)))))⟩
      · go_wp2_with (first | (go_at_call 73; refine (impl_WordOk _ _ h4).mono ?_; rintro e w' ⟨rfl, rfl⟩) | (go_at_call 74; refine (impl_isCmd _ _).mono ?_; rintro e w' ⟨rfl, rfl⟩) | (go_at_call 75; refine (impl_isId _ _).mono ?_; rintro e w' ⟨rfl, rfl⟩) | (go_at_call 76; refine (impl_within _ _ _ _).mono ?_; rintro e w' ⟨rfl, rfl⟩) | (go_at_call 77; refine (impl_isSide _ _).mono ?_; rintro e w' ⟨rfl, rfl⟩) | (go_at_call 78; refine (impl_isLength _ _).mono ?_; rintro e w' ⟨rfl, rfl⟩))
        go_meet
        exact ⟨_, 0, 0, C, nm, tx, dr, a0, da.length, p0, rfl, by simp, by simp, by simp, by simp, by simp, by simp, by simp, by show _ = _; simp [opOkB, *], by show Below w.heap.size w _; exact (by repeat (first | (with_reducible exact Below.refl _ _) | (with_reducible assumption) | (with_reducible refine bel_alloc ?_ _) | ((with_reducible refine bel_set ?_ ?_ _); rotate_left; (focus first | (simp; done) | (simp; omega)))))⟩
    by_cases hk14 : kd = 14
    · subst hk14
      clear hk1 hk2 hk3 hk4 hk5 hk6 hk7 hk8 hk9 hk10 hk11 hk12 hk13
      go_wp2_with (first | (go_at_call 73; refine (impl_WordOk _ _ h4).mono ?_; rintro e w' ⟨rfl, rfl⟩) | (go_at_call 74; refine (impl_isCmd _ _).mono ?_; rintro e w' ⟨rfl, rfl⟩) | (go_at_call 75; refine (impl_isId _ _).mono ?_; rintro e w' ⟨rfl, rfl⟩) | (go_at_call 76; refine (impl_within _ _ _ _).mono ?_; rintro e w' ⟨rfl, rfl⟩) | (go_at_call 77; refine (impl_isSide _ _).mono ?_; rintro e w' ⟨rfl, rfl⟩) | (go_at_call 78; refine (impl_isLength _ _).mono ?_; rintro e w' ⟨rfl, rfl⟩))
      go_meet
      exact ⟨_, 0, B, C, nm, tx, dr, a0, da.length, p0, rfl, by simp, by simp, by simp, by simp, by simp, by simp, by simp, by show _ = _; simp [opOkB, *], by show Below w.heap.size w _; exact (by repeat (first | (with_reducible exact Below.refl _ _) | (with_reducible assumption) | (with_reducible refine bel_alloc ?_ _) | ((with_reducible refine bel_set ?_ ?_ _); rotate_left; (focus first | (simp; done) | (simp; omega)))))⟩
    have dk1 : decide (kd = 1) = false := decide_eq_false hk1
    have ek1 : (kd == 1) = false := by simpa using hk1
    have dk2 : decide (kd = 2) = false := decide_eq_false hk2
    have ek2 : (kd == 2) = false := by simpa using hk2
    have dk3 : decide (kd = 3) = false := decide_eq_false hk3
    have ek3 : (kd == 3) = false := by simpa using hk3
    have dk4 : decide (kd = 4) = false := decide_eq_false hk4
    have ek4 : (kd == 4) = false := by simpa using hk4
    have dk5 : decide (kd = 5) = false := decide_eq_false hk5
    have ek5 : (kd == 5) = false := by simpa using hk5
    have dk6 : decide (kd = 6) = false := decide_eq_false hk6
    have ek6 : (kd == 6) = false := by simpa using hk6
    have dk7 : decide (kd = 7) = false := decide_eq_false hk7
    have ek7 : (kd == 7) = false := by simpa using hk7
    have dk8 : decide (kd = 8) = false := decide_eq_false hk8
    have ek8 : (kd == 8) = false := by simpa using hk8
    have dk9 : decide (kd = 9) = false := decide_eq_false hk9
    have ek9 : (kd == 9) = false := by simpa using hk9
    have dk10 : decide (kd = 10) = false := decide_eq_false hk10
    have ek10 : (kd == 10) = false := by simpa using hk10
    have dk11 : decide (kd = 11) = false := decide_eq_false hk11
    have ek11 : (kd == 11) = false := by simpa using hk11
    have dk12 : decide (kd = 12) = false := decide_eq_false hk12
    have ek12 : (kd == 12) = false := by simpa using hk12
    have dk13 : decide (kd = 13) = false := decide_eq_false hk13
    have ek13 : (kd == 13) = false := by simpa using hk13
    have dk14 : decide (kd = 14) = false := decide_eq_false hk14
    have ek14 : (kd == 14) = false := by simpa using hk14
    go_wp2_with (first | (go_at_call 73; refine (impl_WordOk _ _ h4).mono ?_; rintro e w' ⟨rfl, rfl⟩) | (go_at_call 74; refine (impl_isCmd _ _).mono ?_; rintro e w' ⟨rfl, rfl⟩) | (go_at_call 75; refine (impl_isId _ _).mono ?_; rintro e w' ⟨rfl, rfl⟩) | (go_at_call 76; refine (impl_within _ _ _ _).mono ?_; rintro e w' ⟨rfl, rfl⟩) | (go_at_call 77; refine (impl_isSide _ _).mono ?_; rintro e w' ⟨rfl, rfl⟩) | (go_at_call 78; refine (impl_isLength _ _).mono ?_; rintro e w' ⟨rfl, rfl⟩))
    go_meet
    exact ⟨_, A, B, C, nm, tx, dr, a0, da.length, p0, rfl, by simp, by simp, by simp, by simp, by simp, by simp, by simp, by show _ = _; simp [opOkB, *], by show Below w.heap.size w _; exact (by repeat (first | (with_reducible exact Below.refl _ _) | (with_reducible assumption) | (with_reducible refine bel_alloc ?_ _) | ((with_reducible refine bel_set ?_ ?_ _); rotate_left; (focus first | (simp; done) | (simp; omega)))))⟩
  case rest =>
    obtain ⟨okB, a, b, c, n, t, d, va, vn, vc, rfl, c1, c2, c3, c4, c5, c6, c7, HE, HBW⟩ := hcut
    cases okB
    · by_cases z0 : a = 0
      · have y0 : decide (a = 0) = true := decide_eq_true z0
        have x0 : (a == 0) = true := by simpa using z0
        by_cases z1 : b = 0
        · have y1 : decide (b = 0) = true := decide_eq_true z1
          have x1 : (b == 0) = true := by simpa using z1
          by_cases z2 : c = 0
          · have y2 : decide (c = 0) = true := decide_eq_true z2
            have x2 : (c == 0) = true := by simpa using z2
            by_cases z3 : n.toList = []
            · have y3 : decide (n.toList = []) = true := decide_eq_true z3
              have x3 : (n.toList == []) = true := by simpa using z3
              by_cases z4 : t.toList = []
              · have y4 : decide (t.toList = []) = true := decide_eq_true z4
                have x4 : (t.toList == []) = true := by simpa using z4
                by_cases z5 : d.toList = []
                · have y5 : decide (d.toList = []) = true := decide_eq_true z5
                  have x5 : (d.toList == []) = true := by simpa using z5
                  by_cases z6 : vn = 0
                  · subst z6
                    go_wp2_with fail
                    go_ret
                    exact ⟨_, rfl, vb_eq (by rw [HE.out]; unfold restZ; simp [*]), HBW.out⟩
                  · have y6 : decide (vn = 0) = false := decide_eq_false z6
                    have x6 : (vn == 0) = false := by simpa using z6
                    have w6 : ((vn : Int) == 0) = false := by simpa using z6
                    have u6' : decide ((vn : Int) = 0) = false := by simpa using z6
                    go_wp2_with fail
                    go_ret
                    exact ⟨_, rfl, vb_eq (by rw [HE.out]; unfold restZ; simp [*]), HBW.out⟩
                · have y5 : decide (d.toList = []) = false := decide_eq_false z5
                  have x5 : (d.toList == []) = false := by simpa using z5
                  go_wp2_with fail
                  go_ret
                  exact ⟨_, rfl, vb_eq (by rw [HE.out]; unfold restZ; simp [*]), HBW.out⟩
              · have y4 : decide (t.toList = []) = false := decide_eq_false z4
                have x4 : (t.toList == []) = false := by simpa using z4
                go_wp2_with fail
                go_ret
                exact ⟨_, rfl, vb_eq (by rw [HE.out]; unfold restZ; simp [*]), HBW.out⟩
            · have y3 : decide (n.toList = []) = false := decide_eq_false z3
              have x3 : (n.toList == []) = false := by simpa using z3
              go_wp2_with fail
              go_ret
              exact ⟨_, rfl, vb_eq (by rw [HE.out]; unfold restZ; simp [*]), HBW.out⟩
          · have y2 : decide (c = 0) = false := decide_eq_false z2
            have x2 : (c == 0) = false := by simpa using z2
            go_wp2_with fail
            go_ret
            exact ⟨_, rfl, vb_eq (by rw [HE.out]; unfold restZ; simp [*]), HBW.out⟩
        · have y1 : decide (b = 0) = false := decide_eq_false z1
          have x1 : (b == 0) = false := by simpa using z1
          go_wp2_with fail
          go_ret
          exact ⟨_, rfl, vb_eq (by rw [HE.out]; unfold restZ; simp [*]), HBW.out⟩
      · have y0 : decide (a = 0) = false := decide_eq_false z0
        have x0 : (a == 0) = false := by simpa using z0
        go_wp2_with fail
        go_ret
        exact ⟨_, rfl, vb_eq (by rw [HE.out]; unfold restZ; simp [*]), HBW.out⟩
    · by_cases z0 : a = 0
      · have y0 : decide (a = 0) = true := decide_eq_true z0
        have x0 : (a == 0) = true := by simpa using z0
        by_cases z1 : b = 0
        · have y1 : decide (b = 0) = true := decide_eq_true z1
          have x1 : (b == 0) = true := by simpa using z1
          by_cases z2 : c = 0
          · have y2 : decide (c = 0) = true := decide_eq_true z2
            have x2 : (c == 0) = true := by simpa using z2
            by_cases z3 : n.toList = []
            · have y3 : decide (n.toList = []) = true := decide_eq_true z3
              have x3 : (n.toList == []) = true := by simpa using z3
              by_cases z4 : t.toList = []
              · have y4 : decide (t.toList = []) = true := decide_eq_true z4
                have x4 : (t.toList == []) = true := by simpa using z4
                by_cases z5 : d.toList = []
                · have y5 : decide (d.toList = []) = true := decide_eq_true z5
                  have x5 : (d.toList == []) = true := by simpa using z5
                  by_cases z6 : vn = 0
                  · subst z6
                    go_wp2_with fail
                    go_ret
                    exact ⟨_, rfl, vb_eq (by rw [HE.out]; unfold restZ; simp [*]), HBW.out⟩
                  · have y6 : decide (vn = 0) = false := decide_eq_false z6
                    have x6 : (vn == 0) = false := by simpa using z6
                    have w6 : ((vn : Int) == 0) = false := by simpa using z6
                    have u6' : decide ((vn : Int) = 0) = false := by simpa using z6
                    go_wp2_with fail
                    go_ret
                    exact ⟨_, rfl, vb_eq (by rw [HE.out]; unfold restZ; simp [*]), HBW.out⟩
                · have y5 : decide (d.toList = []) = false := decide_eq_false z5
                  have x5 : (d.toList == []) = false := by simpa using z5
                  go_wp2_with fail
                  go_ret
                  exact ⟨_, rfl, vb_eq (by rw [HE.out]; unfold restZ; simp [*]), HBW.out⟩
              · have y4 : decide (t.toList = []) = false := decide_eq_false z4
                have x4 : (t.toList == []) = false := by simpa using z4
                go_wp2_with fail
                go_ret
                exact ⟨_, rfl, vb_eq (by rw [HE.out]; unfold restZ; simp [*]), HBW.out⟩
            · have y3 : decide (n.toList = []) = false := decide_eq_false z3
              have x3 : (n.toList == []) = false := by simpa using z3
              go_wp2_with fail
              go_ret
              exact ⟨_, rfl, vb_eq (by rw [HE.out]; unfold restZ; simp [*]), HBW.out⟩
          · have y2 : decide (c = 0) = false := decide_eq_false z2
            have x2 : (c == 0) = false := by simpa using z2
            go_wp2_with fail
            go_ret
            exact ⟨_, rfl, vb_eq (by rw [HE.out]; unfold restZ; simp [*]), HBW.out⟩
        · have y1 : decide (b = 0) = false := decide_eq_false z1
          have x1 : (b == 0) = false := by simpa using z1
          go_wp2_with fail
          go_ret
          exact ⟨_, rfl, vb_eq (by rw [HE.out]; unfold restZ; simp [*]), HBW.out⟩
      · have y0 : decide (a = 0) = false := decide_eq_false z0
        have x0 : (a == 0) = false := by simpa using z0
        go_wp2_with fail
        go_ret
        exact ⟨_, rfl, vb_eq (by rw [HE.out]; unfold restZ; simp [*]), HBW.out⟩
end Go.Proofs.YtjglknaojfnllaaDoor
