/- The reference's OpOk. -/
import Derived.Test.YtjglknaojfnllaaDoorFnOpOkI
import Derived.Test.YtjglknaojfnllaaDoorExt
set_option linter.unusedSimpArgs false
set_option linter.unusedVariables false
namespace Go.Mux
open Go.RowKit
@[irreducible] def inB (h : Bool) (n lo hi : Int) : Bool := cond h (withinB n lo hi) (decide (n = 0))
@[irreducible] def hs0 (kd : Int) : Bool := !(decide (kd = 1) || decide (kd = 2))
@[irreducible] def hs1 (kd : Int) : Bool := decide (kd = 3 ∨ kd = 6 ∨ kd = 9 ∨ kd = 12 ∨ kd = 13 ∨ kd = 10)
@[irreducible] def hs2 (kd : Int) : Bool := decide (kd = 10)
@[irreducible] def hs3 (kd : Int) : Bool := decide (kd = 1 ∨ kd = 2 ∨ kd = 11)
@[irreducible] def hs4 (kd : Int) : Bool := decide (kd = 1 ∨ kd = 2 ∨ kd = 3)
@[irreducible] def hs5 (kd : Int) : Bool := decide (kd = 5)
@[irreducible] def aMo (kd : Int) : Int := if kd = 12 then 120 else 1000000
@[irreducible] def bLe (kd : Int) : Int := if kd = 3 ∨ kd = 6 then 0 else if kd = 10 then 68 else 1
@[irreducible] def bMo (kd : Int) : Int := if kd = 12 then 120 else if kd = 3 then 1 else if kd = 6 then 255 else if kd = 10 then 85 else 1000000
@[irreducible] def ok20 (x : DOp) : Bool := inB (hs0 x.Kind) x.A 1 (aMo x.Kind) && (inB (hs1 x.Kind) x.B (bLe x.Kind) (bMo x.Kind) && (inB (hs2 x.Kind) x.C 1 120 && inB (hs5 x.Kind) (x.Data.length : Int) 1 2000))
@[irreducible] def bad22 (x : DOp) : Bool := decide (x.Kind = 10) && !sideB x.B
@[irreducible] def bad24 (x : DOp) : Bool := (hs3 x.Kind && !wordOk x.Name) || ((!hs3 x.Kind && !decide (x.Name.toList = [])) || (!hs4 x.Kind && (!decide (x.Text.toList = []) || !decide (x.Dir.toList = []))))
theorem opOkB_out {x : DOp} (h : x.Kind < 1 ∨ 14 < x.Kind) : opOkB x = false := by
  unfold opOkB
  rw [if_neg (by omega), if_neg (by omega), if_neg (by omega), if_neg (by omega), if_neg (by omega), if_neg (by omega), if_neg (by omega), if_neg (by omega), if_neg (by omega)]
theorem nil_small {s : ByteArray} (h : s.toList = []) : s.size = 0 := by
  have e := ByteArray.toList_eq s
  rw [h] at e
  have := congrArg List.length e
  rw [data_len] at this
  simpa using this.symm
theorem opOkB_spec {x : DOp} (h : 1 ≤ x.Kind ∧ x.Kind ≤ 14) : opOkB x = (ok20 x && (!bad22 x && (!bad24 x && (cmdOk x.Text && cmdOk x.Dir)))) := by
  obtain ⟨kd, A, B, C, nm, tx, dr, da⟩ := x
  have ht := fun h => nil_small (s := tx) h
  have hd := fun h => nil_small (s := dr) h
  simp only at h
  rcases (show kd = 1 ∨ kd = 2 ∨ kd = 3 ∨ kd = 4 ∨ kd = 5 ∨ kd = 6 ∨ kd = 7 ∨ kd = 8 ∨ kd = 9 ∨ kd = 10 ∨ kd = 11 ∨ kd = 12 ∨ kd = 13 ∨ kd = 14 by omega) with rfl | rfl | rfl | rfl | rfl | rfl | rfl | rfl | rfl | rfl | rfl | rfl | rfl | rfl
  all_goals
    rw [Bool.eq_iff_iff]
    simp [opOkB, ok20, bad22, bad24, inB, hs0, hs1, hs2, hs3, hs4, hs5, aMo, bLe, bMo, restZ, cmdOk, lenB, isIdB, withinB, sideB]
    grind
end Go.Mux
namespace Go.Proofs.YtjglknaojfnllaaDoor
open Go.RowKit Go.Mux
theorem spec_l16In (w : World) (h : Bool) (n lo hi : Int) : Calls Tryd.prog 70 #[.bool h, .int .i64 n, .int .i64 lo, .int .i64 hi] w (Pure w (.bool (inB h n lo hi))) := by
  cases h
  · go_enter Tryd.func70, Tryd.ntmps70
    go_wp2
    go_ret
    exact pure_ret (by unfold inB; simp; rfl)
  · by_cases h1 : lo ≤ n <;> by_cases h2 : n ≤ hi
    all_goals
      go_enter Tryd.func70, Tryd.ntmps70
      go_wp2
      go_ret
      exact pure_ret (by simp [inB, withinB, *])
set_option maxHeartbeats 2000000 in
theorem spec_l16Has (w : World) (kd : Int) : Calls Tryd.prog 69 #[.int .i64 kd] w (Gives w fun r w' => ∃ b, r = .slice (some ⟨b, 0, none⟩) 6 6 ∧ w'.cell? ⟨b, 0, none⟩ = some (.bool (hs0 kd)) ∧ w'.cell? ⟨b, 1, none⟩ = some (.bool (hs1 kd)) ∧ w'.cell? ⟨b, 2, none⟩ = some (.bool (hs2 kd)) ∧ w'.cell? ⟨b, 3, none⟩ = some (.bool (hs3 kd)) ∧ w'.cell? ⟨b, 4, none⟩ = some (.bool (hs4 kd)) ∧ w'.cell? ⟨b, 5, none⟩ = some (.bool (hs5 kd))) := by
  by_cases hk1 : kd = 1
  · subst hk1
    go_enter Tryd.func69, Tryd.ntmps69; go_wp2; go_ret; exact ⟨_, rfl, ⟨w.heap.size, rfl, by simp [hs0, *], by simp [hs1, *], by simp [hs2, *], by simp [hs3, *], by simp [hs4, *], by simp [hs5, *]⟩, (by repeat (first | (with_reducible exact Below.refl _ _) | (with_reducible assumption) | (with_reducible refine bel_alloc ?_ _) | ((with_reducible refine bel_set ?_ ?_ _); rotate_left; (focus first | (simp; done) | (simp; omega)))))⟩
  by_cases hk2 : kd = 2
  · subst hk2
    clear hk1
    go_enter Tryd.func69, Tryd.ntmps69; go_wp2; go_ret; exact ⟨_, rfl, ⟨w.heap.size, rfl, by simp [hs0, *], by simp [hs1, *], by simp [hs2, *], by simp [hs3, *], by simp [hs4, *], by simp [hs5, *]⟩, (by repeat (first | (with_reducible exact Below.refl _ _) | (with_reducible assumption) | (with_reducible refine bel_alloc ?_ _) | ((with_reducible refine bel_set ?_ ?_ _); rotate_left; (focus first | (simp; done) | (simp; omega)))))⟩
  by_cases hk3 : kd = 3
  · subst hk3
    clear hk1 hk2
    go_enter Tryd.func69, Tryd.ntmps69; go_wp2; go_ret; exact ⟨_, rfl, ⟨w.heap.size, rfl, by simp [hs0, *], by simp [hs1, *], by simp [hs2, *], by simp [hs3, *], by simp [hs4, *], by simp [hs5, *]⟩, (by repeat (first | (with_reducible exact Below.refl _ _) | (with_reducible assumption) | (with_reducible refine bel_alloc ?_ _) | ((with_reducible refine bel_set ?_ ?_ _); rotate_left; (focus first | (simp; done) | (simp; omega)))))⟩
  by_cases hk5 : kd = 5
  · subst hk5
    clear hk1 hk2 hk3
    go_enter Tryd.func69, Tryd.ntmps69; go_wp2; go_ret; exact ⟨_, rfl, ⟨w.heap.size, rfl, by simp [hs0, *], by simp [hs1, *], by simp [hs2, *], by simp [hs3, *], by simp [hs4, *], by simp [hs5, *]⟩, (by repeat (first | (with_reducible exact Below.refl _ _) | (with_reducible assumption) | (with_reducible refine bel_alloc ?_ _) | ((with_reducible refine bel_set ?_ ?_ _); rotate_left; (focus first | (simp; done) | (simp; omega)))))⟩
  by_cases hk6 : kd = 6
  · subst hk6
    clear hk1 hk2 hk3 hk5
    go_enter Tryd.func69, Tryd.ntmps69; go_wp2; go_ret; exact ⟨_, rfl, ⟨w.heap.size, rfl, by simp [hs0, *], by simp [hs1, *], by simp [hs2, *], by simp [hs3, *], by simp [hs4, *], by simp [hs5, *]⟩, (by repeat (first | (with_reducible exact Below.refl _ _) | (with_reducible assumption) | (with_reducible refine bel_alloc ?_ _) | ((with_reducible refine bel_set ?_ ?_ _); rotate_left; (focus first | (simp; done) | (simp; omega)))))⟩
  by_cases hk9 : kd = 9
  · subst hk9
    clear hk1 hk2 hk3 hk5 hk6
    go_enter Tryd.func69, Tryd.ntmps69; go_wp2; go_ret; exact ⟨_, rfl, ⟨w.heap.size, rfl, by simp [hs0, *], by simp [hs1, *], by simp [hs2, *], by simp [hs3, *], by simp [hs4, *], by simp [hs5, *]⟩, (by repeat (first | (with_reducible exact Below.refl _ _) | (with_reducible assumption) | (with_reducible refine bel_alloc ?_ _) | ((with_reducible refine bel_set ?_ ?_ _); rotate_left; (focus first | (simp; done) | (simp; omega)))))⟩
  by_cases hk12 : kd = 12
  · subst hk12
    clear hk1 hk2 hk3 hk5 hk6 hk9
    go_enter Tryd.func69, Tryd.ntmps69; go_wp2; go_ret; exact ⟨_, rfl, ⟨w.heap.size, rfl, by simp [hs0, *], by simp [hs1, *], by simp [hs2, *], by simp [hs3, *], by simp [hs4, *], by simp [hs5, *]⟩, (by repeat (first | (with_reducible exact Below.refl _ _) | (with_reducible assumption) | (with_reducible refine bel_alloc ?_ _) | ((with_reducible refine bel_set ?_ ?_ _); rotate_left; (focus first | (simp; done) | (simp; omega)))))⟩
  by_cases hk13 : kd = 13
  · subst hk13
    clear hk1 hk2 hk3 hk5 hk6 hk9 hk12
    go_enter Tryd.func69, Tryd.ntmps69; go_wp2; go_ret; exact ⟨_, rfl, ⟨w.heap.size, rfl, by simp [hs0, *], by simp [hs1, *], by simp [hs2, *], by simp [hs3, *], by simp [hs4, *], by simp [hs5, *]⟩, (by repeat (first | (with_reducible exact Below.refl _ _) | (with_reducible assumption) | (with_reducible refine bel_alloc ?_ _) | ((with_reducible refine bel_set ?_ ?_ _); rotate_left; (focus first | (simp; done) | (simp; omega)))))⟩
  by_cases hk10 : kd = 10
  · subst hk10
    clear hk1 hk2 hk3 hk5 hk6 hk9 hk12 hk13
    go_enter Tryd.func69, Tryd.ntmps69; go_wp2; go_ret; exact ⟨_, rfl, ⟨w.heap.size, rfl, by simp [hs0, *], by simp [hs1, *], by simp [hs2, *], by simp [hs3, *], by simp [hs4, *], by simp [hs5, *]⟩, (by repeat (first | (with_reducible exact Below.refl _ _) | (with_reducible assumption) | (with_reducible refine bel_alloc ?_ _) | ((with_reducible refine bel_set ?_ ?_ _); rotate_left; (focus first | (simp; done) | (simp; omega)))))⟩
  by_cases hk11 : kd = 11
  · subst hk11
    clear hk1 hk2 hk3 hk5 hk6 hk9 hk12 hk13 hk10
    go_enter Tryd.func69, Tryd.ntmps69; go_wp2; go_ret; exact ⟨_, rfl, ⟨w.heap.size, rfl, by simp [hs0, *], by simp [hs1, *], by simp [hs2, *], by simp [hs3, *], by simp [hs4, *], by simp [hs5, *]⟩, (by repeat (first | (with_reducible exact Below.refl _ _) | (with_reducible assumption) | (with_reducible refine bel_alloc ?_ _) | ((with_reducible refine bel_set ?_ ?_ _); rotate_left; (focus first | (simp; done) | (simp; omega)))))⟩
  have dk1 : decide (kd = 1) = false := decide_eq_false hk1
  have ek1 : (kd == 1) = false := by simpa using hk1
  have dk2 : decide (kd = 2) = false := decide_eq_false hk2
  have ek2 : (kd == 2) = false := by simpa using hk2
  have dk3 : decide (kd = 3) = false := decide_eq_false hk3
  have ek3 : (kd == 3) = false := by simpa using hk3
  have dk5 : decide (kd = 5) = false := decide_eq_false hk5
  have ek5 : (kd == 5) = false := by simpa using hk5
  have dk6 : decide (kd = 6) = false := decide_eq_false hk6
  have ek6 : (kd == 6) = false := by simpa using hk6
  have dk9 : decide (kd = 9) = false := decide_eq_false hk9
  have ek9 : (kd == 9) = false := by simpa using hk9
  have dk12 : decide (kd = 12) = false := decide_eq_false hk12
  have ek12 : (kd == 12) = false := by simpa using hk12
  have dk13 : decide (kd = 13) = false := decide_eq_false hk13
  have ek13 : (kd == 13) = false := by simpa using hk13
  have dk10 : decide (kd = 10) = false := decide_eq_false hk10
  have ek10 : (kd == 10) = false := by simpa using hk10
  have dk11 : decide (kd = 11) = false := decide_eq_false hk11
  have ek11 : (kd == 11) = false := by simpa using hk11
  go_enter Tryd.func69, Tryd.ntmps69; go_wp2; go_ret; exact ⟨_, rfl, ⟨w.heap.size, rfl, by simp [hs0, *], by simp [hs1, *], by simp [hs2, *], by simp [hs3, *], by simp [hs4, *], by simp [hs5, *]⟩, (by repeat (first | (with_reducible exact Below.refl _ _) | (with_reducible assumption) | (with_reducible refine bel_alloc ?_ _) | ((with_reducible refine bel_set ?_ ?_ _); rotate_left; (focus first | (simp; done) | (simp; omega)))))⟩
set_option maxRecDepth 100000 in
set_option maxHeartbeats 8000000 in
theorem spec_OpOk (w : World) (cs : List Value) (x : DOp) (h : Rep.rep w cs x) : Calls Tryd.prog 50 #[.agg cs.toArray] w (Says w (opOkB x)) := by
  obtain ⟨v0, rfl, h0, h1, h2, h3, h4, h5, h6, h7⟩ := DOp.rep_iff.1 h
  obtain ⟨a0, p0, rfl, hl0, -⟩ := h7
  clear h h0 h1 h2 h3 h5 h6 hl0
  obtain ⟨kd, A, B, C, nm, tx, dr, da⟩ := x
  dsimp only at *
  by_cases hr1 : kd < 1
  · have d1 : decide (kd < 1) = true := decide_eq_true hr1
    have HE := Lib.hid (opOkB_out (x := ⟨kd, A, B, C, nm, tx, dr, da⟩) (.inl hr1))
    go_enter Tryd.func50, Tryd.ntmps50
    go_wp2_with fail
    go_ret
    exact ⟨_, rfl, vb_eq (by rw [HE.out]), (by repeat (first | (with_reducible exact Below.refl _ _) | (with_reducible assumption) | (with_reducible refine bel_alloc ?_ _) | ((with_reducible refine bel_set ?_ ?_ _); rotate_left; (focus first | (simp; done) | (simp; omega)))))⟩
  have d1 : decide (kd < 1) = false := decide_eq_false hr1
  by_cases hr2 : 14 < kd
  · have d2 : decide (14 < kd) = true := decide_eq_true hr2
    have HE := Lib.hid (opOkB_out (x := ⟨kd, A, B, C, nm, tx, dr, da⟩) (.inr hr2))
    go_enter Tryd.func50, Tryd.ntmps50
    go_wp2_with fail
    go_ret
    exact ⟨_, rfl, vb_eq (by rw [HE.out]), (by repeat (first | (with_reducible exact Below.refl _ _) | (with_reducible assumption) | (with_reducible refine bel_alloc ?_ _) | ((with_reducible refine bel_set ?_ ?_ _); rotate_left; (focus first | (simp; done) | (simp; omega)))))⟩
  have d2 : decide (14 < kd) = false := decide_eq_false hr2
  have HE := Lib.hid (opOkB_spec (x := ⟨kd, A, B, C, nm, tx, dr, da⟩) (show 1 ≤ kd ∧ kd ≤ 14 by omega))
  go_enter Tryd.func50, Tryd.ntmps50
  go_upto_block 0 with (go_at_call 69; refine (spec_l16Has _ kd).mono ?_; rintro e W1 ⟨_, rfl, ⟨b, rfl, q0, q1, q2, q3, q4, q5⟩, hb⟩; have HB1 := Lib.hid (bel_next (show Below w.heap.size w _ from (by repeat (first | (with_reducible exact Below.refl _ _) | (with_reducible assumption) | (with_reducible refine bel_alloc ?_ _) | ((with_reducible refine bel_set ?_ ?_ _); rotate_left; (focus first | (simp; done) | (simp; omega)))))) hb); have f0 : W1.cell? ⟨w.heap.size, 0, none⟩ = some (.int .i64 kd) := (hb.cell (p := ⟨w.heap.size, 0, none⟩) (by simp)).trans (by simp); have f1 : W1.cell? ⟨w.heap.size, 1, none⟩ = some (.int .i64 A) := (hb.cell (p := ⟨w.heap.size, 1, none⟩) (by simp)).trans (by simp); have f2 : W1.cell? ⟨w.heap.size, 2, none⟩ = some (.int .i64 B) := (hb.cell (p := ⟨w.heap.size, 2, none⟩) (by simp)).trans (by simp); have f3 : W1.cell? ⟨w.heap.size, 3, none⟩ = some (.int .i64 C) := (hb.cell (p := ⟨w.heap.size, 3, none⟩) (by simp)).trans (by simp); have f4 : W1.cell? ⟨w.heap.size, 4, none⟩ = some (.string nm) := (hb.cell (p := ⟨w.heap.size, 4, none⟩) (by simp)).trans (by simp); have f5 : W1.cell? ⟨w.heap.size, 5, none⟩ = some (.string tx) := (hb.cell (p := ⟨w.heap.size, 5, none⟩) (by simp)).trans (by simp); have f6 : W1.cell? ⟨w.heap.size, 6, none⟩ = some (.string dr) := (hb.cell (p := ⟨w.heap.size, 6, none⟩) (by simp)).trans (by simp); have f7 : W1.cell? ⟨w.heap.size, 7, none⟩ = some (.slice a0 da.length p0) := (hb.cell (p := ⟨w.heap.size, 7, none⟩) (by simp)).trans (by simp); clear hb)
  clear d1 d2 hr1 hr2
  go_cut [4, 5, 6] from 20 to 27 (fun s4 s5 s6 wx => s4 = .int .i64 (aMo kd) ∧ s5 = .int .i64 (bLe kd) ∧ s6 = .int .i64 (bMo kd) ∧ W1 = wx)
  case first =>
    by_cases hk12 : kd = 12
    · subst hk12
      go_wp2_with fail
      go_meet
      exact ⟨by simp [aMo], by simp [bLe], by simp [bMo], rfl⟩
    by_cases hk3 : kd = 3
    · subst hk3
      clear hk12
      go_wp2_with fail
      go_meet
      exact ⟨by simp [aMo], by simp [bLe], by simp [bMo], rfl⟩
    by_cases hk6 : kd = 6
    · subst hk6
      clear hk12 hk3
      go_wp2_with fail
      go_meet
      exact ⟨by simp [aMo], by simp [bLe], by simp [bMo], rfl⟩
    by_cases hk10 : kd = 10
    · subst hk10
      clear hk12 hk3 hk6
      go_wp2_with fail
      go_meet
      exact ⟨by simp [aMo], by simp [bLe], by simp [bMo], rfl⟩
    have dk12 : decide (kd = 12) = false := decide_eq_false hk12
    have ek12 : (kd == 12) = false := by simpa using hk12
    have dk3 : decide (kd = 3) = false := decide_eq_false hk3
    have ek3 : (kd == 3) = false := by simpa using hk3
    have dk6 : decide (kd = 6) = false := decide_eq_false hk6
    have ek6 : (kd == 6) = false := by simpa using hk6
    have dk10 : decide (kd = 10) = false := decide_eq_false hk10
    have ek10 : (kd == 10) = false := by simpa using hk10
    go_wp2_with fail
    go_meet
    exact ⟨by simp [aMo, *], by simp [bLe, *], by simp [bMo, *], rfl⟩
  case rest =>
  obtain ⟨rfl, rfl, rfl, rfl⟩ := hcut
  go_upto_region 20 with fail
  go_cut [65] from 28 to 65 (fun c wx => c = .bool (!ok20 ⟨kd, A, B, C, nm, tx, dr, da⟩) ∧ Hid (Below W1.heap.size W1 wx))
  case first =>
    have m0 := ext_cell (W := W1) f0
    have m1 := ext_cell (W := W1) f1
    have m2 := ext_cell (W := W1) f2
    have m3 := ext_cell (W := W1) f3
    have m4 := ext_cell (W := W1) f4
    have m5 := ext_cell (W := W1) f5
    have m6 := ext_cell (W := W1) f6
    have m7 := ext_cell (W := W1) f7
    have s0 := ext_cell (W := W1) q0
    have s1 := ext_cell (W := W1) q1
    have s2 := ext_cell (W := W1) q2
    have s3 := ext_cell (W := W1) q3
    have s4 := ext_cell (W := W1) q4
    have s5 := ext_cell (W := W1) q5
    cases hi0 : inB (hs0 kd) A 1 (aMo kd)
    · refine wp_region_ext (by kernel_rfl) (by kernel_rfl) ?_
      repeat (go_big_quiet_step ((go_at_call 70; exact ext_pure (spec_l16In _ _ _ _ _))))
      refine wpQuiet_nil ?_
      intro _ hw'
      obtain ⟨eW, rfl⟩ := hw'
      go_wp2_with fail
      go_meet
      exact ⟨vb_eq (by unfold ok20; simp [*]), by show Below W1.heap.size W1 _; exact eW.bel⟩
    · cases hi1 : inB (hs1 kd) B (bLe kd) (bMo kd)
      · refine wp_region_ext (by kernel_rfl) (by kernel_rfl) ?_
        repeat (go_big_quiet_step ((go_at_call 70; exact ext_pure (spec_l16In _ _ _ _ _))))
        refine wpQuiet_nil ?_
        intro _ hw'
        obtain ⟨eW, rfl⟩ := hw'
        go_wp2_with fail
        go_meet
        exact ⟨vb_eq (by unfold ok20; simp [*]), by show Below W1.heap.size W1 _; exact eW.bel⟩
      · cases hi2 : inB (hs2 kd) C 1 120
        · refine wp_region_ext (by kernel_rfl) (by kernel_rfl) ?_
          repeat (go_big_quiet_step ((go_at_call 70; exact ext_pure (spec_l16In _ _ _ _ _))))
          refine wpQuiet_nil ?_
          intro _ hw'
          obtain ⟨eW, rfl⟩ := hw'
          go_wp2_with fail
          go_meet
          exact ⟨vb_eq (by unfold ok20; simp [*]), by show Below W1.heap.size W1 _; exact eW.bel⟩
        · cases hi3 : inB (hs5 kd) (da.length : Int) 1 2000
          · refine wp_region_ext (by kernel_rfl) (by kernel_rfl) ?_
            repeat (go_big_quiet_step ((go_at_call 70; exact ext_pure (spec_l16In _ _ _ _ _))))
            refine wpQuiet_nil ?_
            intro _ hw'
            obtain ⟨eW, rfl⟩ := hw'
            go_wp2_with fail
            go_meet
            exact ⟨vb_eq (by unfold ok20; simp [*]), by show Below W1.heap.size W1 _; exact eW.bel⟩
          · refine wp_region_ext (by kernel_rfl) (by kernel_rfl) ?_
            repeat (go_big_quiet_step ((go_at_call 70; exact ext_pure (spec_l16In _ _ _ _ _))))
            refine wpQuiet_nil ?_
            intro _ hw'
            obtain ⟨eW, rfl⟩ := hw'
            go_wp2_with fail
            go_meet
            exact ⟨vb_eq (by unfold ok20; simp [*]), by show Below W1.heap.size W1 _; exact eW.bel⟩
  case rest =>
  obtain ⟨rfl, HB2⟩ := hcut
  rename World => W2
  have HBW := Lib.hid (bel_next HB1.out HB2.out)
  have g0 : W2.cell? ⟨w.heap.size, 0, none⟩ = some (.int .i64 kd) := (HB2.out.cell (p := ⟨w.heap.size, 0, none⟩) (World.block_lt_of_cell? _ _ f0)).trans f0
  have g1 : W2.cell? ⟨w.heap.size, 1, none⟩ = some (.int .i64 A) := (HB2.out.cell (p := ⟨w.heap.size, 1, none⟩) (World.block_lt_of_cell? _ _ f1)).trans f1
  have g2 : W2.cell? ⟨w.heap.size, 2, none⟩ = some (.int .i64 B) := (HB2.out.cell (p := ⟨w.heap.size, 2, none⟩) (World.block_lt_of_cell? _ _ f2)).trans f2
  have g3 : W2.cell? ⟨w.heap.size, 3, none⟩ = some (.int .i64 C) := (HB2.out.cell (p := ⟨w.heap.size, 3, none⟩) (World.block_lt_of_cell? _ _ f3)).trans f3
  have g4 : W2.cell? ⟨w.heap.size, 4, none⟩ = some (.string nm) := (HB2.out.cell (p := ⟨w.heap.size, 4, none⟩) (World.block_lt_of_cell? _ _ f4)).trans f4
  have g5 : W2.cell? ⟨w.heap.size, 5, none⟩ = some (.string tx) := (HB2.out.cell (p := ⟨w.heap.size, 5, none⟩) (World.block_lt_of_cell? _ _ f5)).trans f5
  have g6 : W2.cell? ⟨w.heap.size, 6, none⟩ = some (.string dr) := (HB2.out.cell (p := ⟨w.heap.size, 6, none⟩) (World.block_lt_of_cell? _ _ f6)).trans f6
  have g7 : W2.cell? ⟨w.heap.size, 7, none⟩ = some (.slice a0 da.length p0) := (HB2.out.cell (p := ⟨w.heap.size, 7, none⟩) (World.block_lt_of_cell? _ _ f7)).trans f7
  have r0 : W2.cell? ⟨b, 0, none⟩ = some (.bool (hs0 kd)) := (HB2.out.cell (p := ⟨b, 0, none⟩) (World.block_lt_of_cell? _ _ q0)).trans q0
  have r1 : W2.cell? ⟨b, 1, none⟩ = some (.bool (hs1 kd)) := (HB2.out.cell (p := ⟨b, 1, none⟩) (World.block_lt_of_cell? _ _ q1)).trans q1
  have r2 : W2.cell? ⟨b, 2, none⟩ = some (.bool (hs2 kd)) := (HB2.out.cell (p := ⟨b, 2, none⟩) (World.block_lt_of_cell? _ _ q2)).trans q2
  have r3 : W2.cell? ⟨b, 3, none⟩ = some (.bool (hs3 kd)) := (HB2.out.cell (p := ⟨b, 3, none⟩) (World.block_lt_of_cell? _ _ q3)).trans q3
  have r4 : W2.cell? ⟨b, 4, none⟩ = some (.bool (hs4 kd)) := (HB2.out.cell (p := ⟨b, 4, none⟩) (World.block_lt_of_cell? _ _ q4)).trans q4
  have r5 : W2.cell? ⟨b, 5, none⟩ = some (.bool (hs5 kd)) := (HB2.out.cell (p := ⟨b, 5, none⟩) (World.block_lt_of_cell? _ _ q5)).trans q5
  cases hbad : ok20 ⟨kd, A, B, C, nm, tx, dr, da⟩
  · go_wp2_with fail
    go_ret
    exact ⟨_, rfl, vb_eq (by rw [HE.out, hbad]; simp), HBW.out⟩
  go_upto_region 22 with fail
  go_cut [88] from 66 to 88 (fun c wx => c = .bool (bad22 ⟨kd, A, B, C, nm, tx, dr, da⟩) ∧ W2 = wx)
  case first =>
    by_cases hk : kd = 10
    rotate_left
    · have dk : decide (kd = 10) = false := decide_eq_false hk
      have ek : (kd == 10) = false := by simpa using hk
      go_wp2_with fail
      go_meet
      exact ⟨vb_eq (by unfold bad22 sideB; simp [*]), rfl⟩
    subst hk
    by_cases hB76 : B = 76
    · subst hB76
      go_wp2_with fail
      go_meet
      exact ⟨vb_eq (by unfold bad22 sideB; simp [*]), rfl⟩
    have dB76 : decide (B = 76) = false := decide_eq_false hB76
    have eB76 : (B == 76) = false := by simpa using hB76
    have nB76 : (B != 76) = true := by simpa using hB76
    by_cases hB82 : B = 82
    · subst hB82
      go_wp2_with fail
      go_meet
      exact ⟨vb_eq (by unfold bad22 sideB; simp [*]), rfl⟩
    have dB82 : decide (B = 82) = false := decide_eq_false hB82
    have eB82 : (B == 82) = false := by simpa using hB82
    have nB82 : (B != 82) = true := by simpa using hB82
    by_cases hB85 : B = 85
    · subst hB85
      go_wp2_with fail
      go_meet
      exact ⟨vb_eq (by unfold bad22 sideB; simp [*]), rfl⟩
    have dB85 : decide (B = 85) = false := decide_eq_false hB85
    have eB85 : (B == 85) = false := by simpa using hB85
    have nB85 : (B != 85) = true := by simpa using hB85
    by_cases hB68 : B = 68
    · subst hB68
      go_wp2_with fail
      go_meet
      exact ⟨vb_eq (by unfold bad22 sideB; simp [*]), rfl⟩
    have dB68 : decide (B = 68) = false := decide_eq_false hB68
    have eB68 : (B == 68) = false := by simpa using hB68
    have nB68 : (B != 68) = true := by simpa using hB68
    go_wp2_with fail
    go_meet
    exact ⟨vb_eq (by unfold bad22 sideB; simp [*]), rfl⟩
  case rest =>
  obtain ⟨rfl, rfl⟩ := hcut
  cases hbad2 : bad22 ⟨kd, A, B, C, nm, tx, dr, da⟩
  rotate_left
  · go_wp2_with fail
    go_ret
    exact ⟨_, rfl, vb_eq (by rw [HE.out, hbad, hbad2]; simp), HBW.out⟩
  go_upto_region 24 with fail
  go_cut [124] from 89 to 124 (fun c wx => c = .bool (bad24 ⟨kd, A, B, C, nm, tx, dr, da⟩) ∧ W2 = wx)
  case first =>
    cases hh3 : hs3 kd
    · by_cases hN : nm.toList = []
      · have dN : decide (nm.toList = []) = true := decide_eq_true hN
        have eN : (nm.toList == []) = true := by simpa using hN
        have nN : (nm.toList != []) = false := by simpa using hN
        cases hh4 : hs4 kd
        · by_cases hT : tx.toList = []
          · have dT : decide (tx.toList = []) = true := decide_eq_true hT
            have eT : (tx.toList == []) = true := by simpa using hT
            have nT : (tx.toList != []) = false := by simpa using hT
            by_cases hD : dr.toList = []
            · have dD : decide (dr.toList = []) = true := decide_eq_true hD
              have eD : (dr.toList == []) = true := by simpa using hD
              have nD : (dr.toList != []) = false := by simpa using hD
              go_wp2_with (go_at_call 71; refine (spec_WordOk _ _ h4).mono ?_; rintro e w' ⟨rfl, rfl⟩)
              go_meet
              exact ⟨vb_eq (by unfold bad24; simp [*]), rfl⟩
            · have dD : decide (dr.toList = []) = false := decide_eq_false hD
              have eD : (dr.toList == []) = false := by simpa using hD
              have nD : (dr.toList != []) = true := by simpa using hD
              go_wp2_with (go_at_call 71; refine (spec_WordOk _ _ h4).mono ?_; rintro e w' ⟨rfl, rfl⟩)
              go_meet
              exact ⟨vb_eq (by unfold bad24; simp [*]), rfl⟩
          · have dT : decide (tx.toList = []) = false := decide_eq_false hT
            have eT : (tx.toList == []) = false := by simpa using hT
            have nT : (tx.toList != []) = true := by simpa using hT
            go_wp2_with (go_at_call 71; refine (spec_WordOk _ _ h4).mono ?_; rintro e w' ⟨rfl, rfl⟩)
            go_meet
            exact ⟨vb_eq (by unfold bad24; simp [*]), rfl⟩
        · go_wp2_with (go_at_call 71; refine (spec_WordOk _ _ h4).mono ?_; rintro e w' ⟨rfl, rfl⟩)
          go_meet
          exact ⟨vb_eq (by unfold bad24; simp [*]), rfl⟩
      · have dN : decide (nm.toList = []) = false := decide_eq_false hN
        have eN : (nm.toList == []) = false := by simpa using hN
        have nN : (nm.toList != []) = true := by simpa using hN
        go_wp2_with (go_at_call 71; refine (spec_WordOk _ _ h4).mono ?_; rintro e w' ⟨rfl, rfl⟩)
        go_meet
        exact ⟨vb_eq (by unfold bad24; simp [*]), rfl⟩
    · cases hw : wordOk nm
      · go_wp2_with (go_at_call 71; refine (spec_WordOk _ _ h4).mono ?_; rintro e w' ⟨rfl, rfl⟩)
        go_meet
        exact ⟨vb_eq (by unfold bad24; simp [*]), rfl⟩
      · cases hh4 : hs4 kd
        · by_cases hT : tx.toList = []
          · have dT : decide (tx.toList = []) = true := decide_eq_true hT
            have eT : (tx.toList == []) = true := by simpa using hT
            have nT : (tx.toList != []) = false := by simpa using hT
            by_cases hD : dr.toList = []
            · have dD : decide (dr.toList = []) = true := decide_eq_true hD
              have eD : (dr.toList == []) = true := by simpa using hD
              have nD : (dr.toList != []) = false := by simpa using hD
              go_wp2_with (go_at_call 71; refine (spec_WordOk _ _ h4).mono ?_; rintro e w' ⟨rfl, rfl⟩)
              go_meet
              exact ⟨vb_eq (by unfold bad24; simp [*]), rfl⟩
            · have dD : decide (dr.toList = []) = false := decide_eq_false hD
              have eD : (dr.toList == []) = false := by simpa using hD
              have nD : (dr.toList != []) = true := by simpa using hD
              go_wp2_with (go_at_call 71; refine (spec_WordOk _ _ h4).mono ?_; rintro e w' ⟨rfl, rfl⟩)
              go_meet
              exact ⟨vb_eq (by unfold bad24; simp [*]), rfl⟩
          · have dT : decide (tx.toList = []) = false := decide_eq_false hT
            have eT : (tx.toList == []) = false := by simpa using hT
            have nT : (tx.toList != []) = true := by simpa using hT
            go_wp2_with (go_at_call 71; refine (spec_WordOk _ _ h4).mono ?_; rintro e w' ⟨rfl, rfl⟩)
            go_meet
            exact ⟨vb_eq (by unfold bad24; simp [*]), rfl⟩
        · go_wp2_with (go_at_call 71; refine (spec_WordOk _ _ h4).mono ?_; rintro e w' ⟨rfl, rfl⟩)
          go_meet
          exact ⟨vb_eq (by unfold bad24; simp [*]), rfl⟩
  case rest =>
  obtain ⟨rfl, rfl⟩ := hcut
  cases hbad3 : bad24 ⟨kd, A, B, C, nm, tx, dr, da⟩
  rotate_left
  · go_wp2_with fail
    go_ret
    exact ⟨_, rfl, vb_eq (by rw [HE.out, hbad, hbad2, hbad3]; simp), HBW.out⟩
  by_cases ht : tx.size ≤ 60
  · have e1 : decide ((tx.size : Int) ≤ 60) = true := decide_eq_true (by omega)
    go_wp2_with fail
    go_ret
    exact ⟨_, rfl, vb_eq (by rw [HE.out, hbad, hbad2, hbad3]; unfold cmdOk; simp [*] <;> omega), HBW.out⟩
  · have e1 : decide ((tx.size : Int) ≤ 60) = false := decide_eq_false (by omega)
    go_wp2_with fail
    go_ret
    exact ⟨_, rfl, vb_eq (by rw [HE.out, hbad, hbad2, hbad3]; unfold cmdOk; simp [*] <;> omega), HBW.out⟩
end Go.Proofs.YtjglknaojfnllaaDoor
