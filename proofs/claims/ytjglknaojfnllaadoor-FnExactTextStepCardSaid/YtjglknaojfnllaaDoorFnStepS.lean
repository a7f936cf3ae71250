/- The walk of the reference's StepText. -/
import Derived.Test.YtjglknaojfnllaaDoorFnNums
import Derived.Test.YtjglknaojfnllaaDoorExt
set_option linter.unusedSimpArgs false
set_option linter.unusedVariables false
namespace Go.Mux
open Go.RowKit
theorem zero_iff {x : DStep} (h : zeroB x = true) : zeroP x := of_decide_eq_true h
theorem stepOk_zero {x : DStep} (h : stepOk x = true) : zeroB x = true := by
  refine decide_eq_true ?_
  unfold stepOk at h
  unfold zeroP
  split at h
  · next hk =>
    simp only [Bool.and_eq_true, decide_eq_true_eq, List.isEmpty_iff] at h
    obtain ⟨h1, h2, h3, h4, h5⟩ := h
    exact ⟨fun _ => h5, fun _ => h3, fun _ => h4, fun _ => ⟨h1, h2⟩, fun _ => h2⟩
  split at h
  · next hk =>
    simp only [Bool.and_eq_true, decide_eq_true_eq, List.isEmpty_iff] at h
    obtain ⟨h1, h2, h3, h4, h5⟩ := h
    exact ⟨fun e => absurd hk e, fun _ => h4, fun _ => h5, fun e => by omega, fun _ => h3⟩
  split at h
  · next hk =>
    simp only [Bool.and_eq_true, decide_eq_true_eq, List.isEmpty_iff] at h
    obtain ⟨h1, h2, h3, h4, h5⟩ := h
    exact ⟨fun _ => h5, fun _ => h3, fun _ => h4, fun e => by omega, fun e => by omega⟩
  split at h
  · next hk =>
    simp only [Bool.and_eq_true, decide_eq_true_eq, List.isEmpty_iff] at h
    obtain ⟨h1, h2, h3, h4, h5, h6⟩ := h
    exact ⟨fun _ => h6, fun e => absurd hk e, fun _ => h5, fun _ => ⟨h3, h4⟩, fun e => by omega⟩
  split at h
  · next hk =>
    simp only [Bool.and_eq_true, decide_eq_true_eq, List.isEmpty_iff] at h
    obtain ⟨h1, h2, h3, h4, h5⟩ := h
    exact ⟨fun _ => h5, fun _ => h4, fun e => absurd hk e, fun e => by omega, fun _ => h3⟩
  split at h
  · next hk =>
    simp only [Bool.and_eq_true, decide_eq_true_eq, List.isEmpty_iff] at h
    obtain ⟨h1, h2, h3, h4, h5⟩ := h
    exact ⟨fun _ => h5, fun _ => h3, fun _ => h4, fun e => by omega, fun e => by omega⟩
  · cases h
theorem stepText_no {x : DStep} (h : stepOk x = false) : stepText x = ByteArray.empty := by unfold stepText; simp [h]
theorem stepText_zero {x : DStep} (h : zeroB x = false) : stepText x = ByteArray.empty := by
  refine stepText_no ?_
  cases e : stepOk x
  · rfl
  · rw [stepOk_zero e] at h; cases h
theorem ok_123 {x : DStep} (h : zeroB x = true) (hk : x.Kind = 1 ∨ x.Kind = 2 ∨ x.Kind = 3) : stepOk x = true := by
  obtain ⟨h1, h2, h3, h4, h5⟩ := zero_iff h
  have hA := h4 (by omega)
  unfold stepOk
  rw [if_pos hk]
  simp [h1 (by omega), h2 (by omega), h3 (by omega), hA.1, hA.2]
theorem ok_4 {x : DStep} (h : zeroB x = true) (hk : x.Kind = 4) : stepOk x = (x.A :: x.Cuts).all isNumB := by
  obtain ⟨h1, h2, h3, h4, h5⟩ := zero_iff h
  unfold stepOk
  simp [hk, h2 (by omega), h3 (by omega), h5 (by omega)]
theorem ok_5 {x : DStep} (h : zeroB x = true) (hk : x.Kind = 5) : stepOk x = (isNumB x.A && (isNumB x.B || decide (x.B = -1))) := by
  obtain ⟨h1, h2, h3, h4, h5⟩ := zero_iff h
  unfold stepOk
  simp [hk, h1 (by omega), h2 (by omega), h3 (by omega)]
theorem ok_6 {x : DStep} (h : zeroB x = true) (hk : x.Kind = 6) : stepOk x = (!decide (x.Text.toList = []) && !hasByte x.Text 10) := by
  obtain ⟨h1, h2, h3, h4, h5⟩ := zero_iff h
  have hA := h4 (by omega)
  unfold stepOk
  simp [hk, h1 (by omega), h3 (by omega), hA.1, hA.2]
theorem ok_7 {x : DStep} (h : zeroB x = true) (hk : x.Kind = 7) : stepOk x = (isNumB x.A && !x.Data.isEmpty) := by
  obtain ⟨h1, h2, h3, h4, h5⟩ := zero_iff h
  unfold stepOk
  simp [hk, h1 (by omega), h2 (by omega), h5 (by omega)]
theorem ok_8 {x : DStep} (h : zeroB x = true) (hk : x.Kind = 8) : stepOk x = [x.A, x.B].all isNumB := by
  obtain ⟨h1, h2, h3, h4, h5⟩ := zero_iff h
  unfold stepOk
  simp [hk, h1 (by omega), h2 (by omega), h3 (by omega)]
theorem ok_other {x : DStep} (hk : x.Kind < 1 ∨ 8 < x.Kind) : stepOk x = false := by
  unfold stepOk
  rw [if_neg (by omega), if_neg (by omega), if_neg (by omega), if_neg (by omega), if_neg (by omega), if_neg (by omega)]
theorem minus_num : isNumB (-1) = false := by unfold isNumB withinB; decide
theorem ints_lit {w : World} (l : List Int) (e : TypeId) (he : e = Rep.tid Int) (hl : l.length ≤ 100) (hi : ∀ n ∈ l, I64 n) : FreshS w.heap.size (w.alloc (.cells (l.map fun n => Value.int .i64 n).toArray e)) (.slice (some ⟨w.heap.size, 0, none⟩) l.length l.length) l := by
  refine freshS_lit rfl w l _ e he (by simp) (by omega) fun i x u hx hu w => ?_
  rw [List.getElem?_map, hx] at hu
  cases hu
  exact ⟨rfl, hi x (List.mem_of_getElem? hx)⟩
end Go.Mux
namespace Go.Proofs.YtjglknaojfnllaaDoor
open Go.RowKit Go.Mux
set_option maxRecDepth 100000 in
set_option maxHeartbeats 8000000 in
theorem spec_StepText' (w : World) (cs : List Value) (x : DStep) (h : Rep.rep w cs x) (hsz : x.bulk ≤ 1048576) : Calls Tryd.prog 20 #[.agg cs.toArray] w (Gives w fun r _ => r = .string (stepText x)) := by
  have HR := Lib.hid h
  obtain ⟨v0, v1, rfl, h0, h1, h2, h3, h4, h5⟩ := DStep.rep_iff.1 h
  have HD := Lib.hid h4
  have HCU := Lib.hid h5
  obtain ⟨a0, p0, rfl, hl0, -⟩ := h4
  obtain ⟨a1, p1, rfl, hl1, -⟩ := h5
  unfold DStep.bulk at hsz
  clear h h3 hl0 hl1
  obtain ⟨kd, A, B, tx, da, cu⟩ := x
  dsimp only at *
  have HA := Lib.hid h1
  have HB := Lib.hid h2
  clear h0 h1 h2
  cases hz : zeroB ⟨kd, A, B, tx, da, cu⟩
  · have HZ := Lib.hid hz
    have HN := Lib.hid (stepText_zero hz)
    clear hz
    go_enter Tryd.func20, Tryd.ntmps20
    go_wp2_with fail
    refine (spec_l23Zero _ [_, _, _, _, _, _] ⟨kd, A, B, tx, da, cu⟩ (Rep.mono HR.out (by repeat (first | (with_reducible exact Below.refl _ _) | (with_reducible assumption) | (with_reducible refine bel_alloc ?_ _) | ((with_reducible refine bel_set ?_ ?_ _); rotate_left; (focus first | (simp; done) | (simp; omega))))))).mono ?_
    rintro e W1 ⟨_, rfl, rfl, hb⟩
    rw [HZ.out]
    have HB1 := Lib.hid (bel_next (show Below w.heap.size w _ from (by repeat (first | (with_reducible exact Below.refl _ _) | (with_reducible assumption) | (with_reducible refine bel_alloc ?_ _) | ((with_reducible refine bel_set ?_ ?_ _); rotate_left; (focus first | (simp; done) | (simp; omega)))))) hb)
    have hz1 := hb.size
    simp only [World.size_alloc] at hz1
    have hlt : w.heap.size < W1.heap.size := by omega
    have f0 : W1.cell? ⟨w.heap.size, 0, none⟩ = some (.int .i64 kd) := (hb.cell (p := ⟨w.heap.size, 0, none⟩) (by simp)).trans (by simp)
    have f1 : W1.cell? ⟨w.heap.size, 1, none⟩ = some (.int .i64 A) := (hb.cell (p := ⟨w.heap.size, 1, none⟩) (by simp)).trans (by simp)
    have f2 : W1.cell? ⟨w.heap.size, 2, none⟩ = some (.int .i64 B) := (hb.cell (p := ⟨w.heap.size, 2, none⟩) (by simp)).trans (by simp)
    have f3 : W1.cell? ⟨w.heap.size, 3, none⟩ = some (.string tx) := (hb.cell (p := ⟨w.heap.size, 3, none⟩) (by simp)).trans (by simp)
    have f4 : W1.cell? ⟨w.heap.size, 4, none⟩ = some (.slice a0 da.length p0) := (hb.cell (p := ⟨w.heap.size, 4, none⟩) (by simp)).trans (by simp)
    have f5 : W1.cell? ⟨w.heap.size, 5, none⟩ = some (.slice a1 cu.length p1) := (hb.cell (p := ⟨w.heap.size, 5, none⟩) (by simp)).trans (by simp)
    clear hb
    go_wp2_with fail
    go_ret
    exact ⟨_, rfl, by show _ = Value.string _; rw [HN.out] <;> rfl, HB1.out⟩
  have HZ := Lib.hid hz
  clear hz
  by_cases hk1 : kd = 1
  · subst hk1
    have HN := Lib.hid (show stepText ⟨1, A, B, tx, da, cu⟩ = ⟨#[115, 116, 97, 114, 116]⟩ from by unfold stepText; rw [if_pos (ok_123 HZ.out (by simp))]; simp)
    go_enter Tryd.func20, Tryd.ntmps20
    go_wp2_with fail
    refine (spec_l23Zero _ [_, _, _, _, _, _] ⟨1, A, B, tx, da, cu⟩ (Rep.mono HR.out (by repeat (first | (with_reducible exact Below.refl _ _) | (with_reducible assumption) | (with_reducible refine bel_alloc ?_ _) | ((with_reducible refine bel_set ?_ ?_ _); rotate_left; (focus first | (simp; done) | (simp; omega))))))).mono ?_
    rintro e W1 ⟨_, rfl, rfl, hb⟩
    rw [HZ.out]
    have HB1 := Lib.hid (bel_next (show Below w.heap.size w _ from (by repeat (first | (with_reducible exact Below.refl _ _) | (with_reducible assumption) | (with_reducible refine bel_alloc ?_ _) | ((with_reducible refine bel_set ?_ ?_ _); rotate_left; (focus first | (simp; done) | (simp; omega)))))) hb)
    have hz1 := hb.size
    simp only [World.size_alloc] at hz1
    have hlt : w.heap.size < W1.heap.size := by omega
    have f0 : W1.cell? ⟨w.heap.size, 0, none⟩ = some (.int .i64 1) := (hb.cell (p := ⟨w.heap.size, 0, none⟩) (by simp)).trans (by simp)
    have f1 : W1.cell? ⟨w.heap.size, 1, none⟩ = some (.int .i64 A) := (hb.cell (p := ⟨w.heap.size, 1, none⟩) (by simp)).trans (by simp)
    have f2 : W1.cell? ⟨w.heap.size, 2, none⟩ = some (.int .i64 B) := (hb.cell (p := ⟨w.heap.size, 2, none⟩) (by simp)).trans (by simp)
    have f3 : W1.cell? ⟨w.heap.size, 3, none⟩ = some (.string tx) := (hb.cell (p := ⟨w.heap.size, 3, none⟩) (by simp)).trans (by simp)
    have f4 : W1.cell? ⟨w.heap.size, 4, none⟩ = some (.slice a0 da.length p0) := (hb.cell (p := ⟨w.heap.size, 4, none⟩) (by simp)).trans (by simp)
    have f5 : W1.cell? ⟨w.heap.size, 5, none⟩ = some (.slice a1 cu.length p1) := (hb.cell (p := ⟨w.heap.size, 5, none⟩) (by simp)).trans (by simp)
    clear hb
    go_wp2_with fail
    go_ret
    exact ⟨_, rfl, by show _ = Value.string _; rw [HN.out] <;> rfl, HB1.out⟩
  by_cases hk2 : kd = 2
  · subst hk2
    clear hk1
    have HN := Lib.hid (show stepText ⟨2, A, B, tx, da, cu⟩ = ⟨#[115, 121, 110, 99]⟩ from by unfold stepText; rw [if_pos (ok_123 HZ.out (by simp))]; simp)
    go_enter Tryd.func20, Tryd.ntmps20
    go_wp2_with fail
    refine (spec_l23Zero _ [_, _, _, _, _, _] ⟨2, A, B, tx, da, cu⟩ (Rep.mono HR.out (by repeat (first | (with_reducible exact Below.refl _ _) | (with_reducible assumption) | (with_reducible refine bel_alloc ?_ _) | ((with_reducible refine bel_set ?_ ?_ _); rotate_left; (focus first | (simp; done) | (simp; omega))))))).mono ?_
    rintro e W1 ⟨_, rfl, rfl, hb⟩
    rw [HZ.out]
    have HB1 := Lib.hid (bel_next (show Below w.heap.size w _ from (by repeat (first | (with_reducible exact Below.refl _ _) | (with_reducible assumption) | (with_reducible refine bel_alloc ?_ _) | ((with_reducible refine bel_set ?_ ?_ _); rotate_left; (focus first | (simp; done) | (simp; omega)))))) hb)
    have hz1 := hb.size
    simp only [World.size_alloc] at hz1
    have hlt : w.heap.size < W1.heap.size := by omega
    have f0 : W1.cell? ⟨w.heap.size, 0, none⟩ = some (.int .i64 2) := (hb.cell (p := ⟨w.heap.size, 0, none⟩) (by simp)).trans (by simp)
    have f1 : W1.cell? ⟨w.heap.size, 1, none⟩ = some (.int .i64 A) := (hb.cell (p := ⟨w.heap.size, 1, none⟩) (by simp)).trans (by simp)
    have f2 : W1.cell? ⟨w.heap.size, 2, none⟩ = some (.int .i64 B) := (hb.cell (p := ⟨w.heap.size, 2, none⟩) (by simp)).trans (by simp)
    have f3 : W1.cell? ⟨w.heap.size, 3, none⟩ = some (.string tx) := (hb.cell (p := ⟨w.heap.size, 3, none⟩) (by simp)).trans (by simp)
    have f4 : W1.cell? ⟨w.heap.size, 4, none⟩ = some (.slice a0 da.length p0) := (hb.cell (p := ⟨w.heap.size, 4, none⟩) (by simp)).trans (by simp)
    have f5 : W1.cell? ⟨w.heap.size, 5, none⟩ = some (.slice a1 cu.length p1) := (hb.cell (p := ⟨w.heap.size, 5, none⟩) (by simp)).trans (by simp)
    clear hb
    go_wp2_with fail
    go_ret
    exact ⟨_, rfl, by show _ = Value.string _; rw [HN.out] <;> rfl, HB1.out⟩
  by_cases hk3 : kd = 3
  · subst hk3
    clear hk1 hk2
    have HN := Lib.hid (show stepText ⟨3, A, B, tx, da, cu⟩ = ⟨#[112, 97, 99, 107]⟩ from by unfold stepText; rw [if_pos (ok_123 HZ.out (by simp))]; simp)
    go_enter Tryd.func20, Tryd.ntmps20
    go_wp2_with fail
    refine (spec_l23Zero _ [_, _, _, _, _, _] ⟨3, A, B, tx, da, cu⟩ (Rep.mono HR.out (by repeat (first | (with_reducible exact Below.refl _ _) | (with_reducible assumption) | (with_reducible refine bel_alloc ?_ _) | ((with_reducible refine bel_set ?_ ?_ _); rotate_left; (focus first | (simp; done) | (simp; omega))))))).mono ?_
    rintro e W1 ⟨_, rfl, rfl, hb⟩
    rw [HZ.out]
    have HB1 := Lib.hid (bel_next (show Below w.heap.size w _ from (by repeat (first | (with_reducible exact Below.refl _ _) | (with_reducible assumption) | (with_reducible refine bel_alloc ?_ _) | ((with_reducible refine bel_set ?_ ?_ _); rotate_left; (focus first | (simp; done) | (simp; omega)))))) hb)
    have hz1 := hb.size
    simp only [World.size_alloc] at hz1
    have hlt : w.heap.size < W1.heap.size := by omega
    have f0 : W1.cell? ⟨w.heap.size, 0, none⟩ = some (.int .i64 3) := (hb.cell (p := ⟨w.heap.size, 0, none⟩) (by simp)).trans (by simp)
    have f1 : W1.cell? ⟨w.heap.size, 1, none⟩ = some (.int .i64 A) := (hb.cell (p := ⟨w.heap.size, 1, none⟩) (by simp)).trans (by simp)
    have f2 : W1.cell? ⟨w.heap.size, 2, none⟩ = some (.int .i64 B) := (hb.cell (p := ⟨w.heap.size, 2, none⟩) (by simp)).trans (by simp)
    have f3 : W1.cell? ⟨w.heap.size, 3, none⟩ = some (.string tx) := (hb.cell (p := ⟨w.heap.size, 3, none⟩) (by simp)).trans (by simp)
    have f4 : W1.cell? ⟨w.heap.size, 4, none⟩ = some (.slice a0 da.length p0) := (hb.cell (p := ⟨w.heap.size, 4, none⟩) (by simp)).trans (by simp)
    have f5 : W1.cell? ⟨w.heap.size, 5, none⟩ = some (.slice a1 cu.length p1) := (hb.cell (p := ⟨w.heap.size, 5, none⟩) (by simp)).trans (by simp)
    clear hb
    go_wp2_with fail
    go_ret
    exact ⟨_, rfl, by show _ = Value.string _; rw [HN.out] <;> rfl, HB1.out⟩
  by_cases hk4 : kd = 4
  · subst hk4
    clear hk1 hk2 hk3
    have HN := Lib.hid (show stepText ⟨4, A, B, tx, da, cu⟩ = numsB ⟨#[99, 114, 97, 115, 104]⟩ (A :: cu) from by unfold stepText numsB; rw [ok_4 HZ.out rfl]; simp)
    go_enter Tryd.func20, Tryd.ntmps20
    go_wp2_with fail
    refine (spec_l23Zero _ [_, _, _, _, _, _] ⟨4, A, B, tx, da, cu⟩ (Rep.mono HR.out (by repeat (first | (with_reducible exact Below.refl _ _) | (with_reducible assumption) | (with_reducible refine bel_alloc ?_ _) | ((with_reducible refine bel_set ?_ ?_ _); rotate_left; (focus first | (simp; done) | (simp; omega))))))).mono ?_
    rintro e W1 ⟨_, rfl, rfl, hb⟩
    rw [HZ.out]
    have HB1 := Lib.hid (bel_next (show Below w.heap.size w _ from (by repeat (first | (with_reducible exact Below.refl _ _) | (with_reducible assumption) | (with_reducible refine bel_alloc ?_ _) | ((with_reducible refine bel_set ?_ ?_ _); rotate_left; (focus first | (simp; done) | (simp; omega)))))) hb)
    have hz1 := hb.size
    simp only [World.size_alloc] at hz1
    have hlt : w.heap.size < W1.heap.size := by omega
    have f0 : W1.cell? ⟨w.heap.size, 0, none⟩ = some (.int .i64 4) := (hb.cell (p := ⟨w.heap.size, 0, none⟩) (by simp)).trans (by simp)
    have f1 : W1.cell? ⟨w.heap.size, 1, none⟩ = some (.int .i64 A) := (hb.cell (p := ⟨w.heap.size, 1, none⟩) (by simp)).trans (by simp)
    have f2 : W1.cell? ⟨w.heap.size, 2, none⟩ = some (.int .i64 B) := (hb.cell (p := ⟨w.heap.size, 2, none⟩) (by simp)).trans (by simp)
    have f3 : W1.cell? ⟨w.heap.size, 3, none⟩ = some (.string tx) := (hb.cell (p := ⟨w.heap.size, 3, none⟩) (by simp)).trans (by simp)
    have f4 : W1.cell? ⟨w.heap.size, 4, none⟩ = some (.slice a0 da.length p0) := (hb.cell (p := ⟨w.heap.size, 4, none⟩) (by simp)).trans (by simp)
    have f5 : W1.cell? ⟨w.heap.size, 5, none⟩ = some (.slice a1 cu.length p1) := (hb.cell (p := ⟨w.heap.size, 5, none⟩) (by simp)).trans (by simp)
    clear hb
    have HL := Lib.hid (ints_lit (w := W1) [A] 3 rfl (by simp) (fun n hn => by simp at hn; rw [hn]; exact HA.out))
    have HB1a := Lib.hid (bel_alloc (Below.refl W1.heap.size W1) (.cells #[Value.int .i64 A] 3))
    have HU := Lib.hid (HCU.out.mono (bel_next HB1.out HB1a.out))
    go_wp2_with (first | (at_builtin; refine wpList_append_flat (α := Int) rfl _ _ 23 rfl 3 (.int .i64 0) 8 Tryd.underlying23 info_int rfl rfl (by decide) W1.heap.size (by simp) _ [A] rfl HL.out _ cu rfl HU.out (by simp; omega) (by simp; omega) ?_; intro v9 W9 hF9 hb9; have HF := Lib.hid hF9; have HB1b := Lib.hid (HB1.out.trans ((HB1a.out.trans hb9).mono (by omega))); clear hF9 hb9) | (go_at_call 37; refine (spec_l23Nums _ _ _  (A :: cu) HF.out.repS (by simp <;> omega) (by decide)).mono ?_; rintro e W2 ⟨_, rfl, rfl, hb⟩; have HB2 := Lib.hid (bel_next HB1b.out hb); clear hb))
    go_ret
    exact ⟨_, rfl, by show _ = Value.string _; rw [HN.out] <;> rfl, HB2.out⟩
  by_cases hk5 : kd = 5
  · subst hk5
    clear hk1 hk2 hk3 hk4
    by_cases hB : B = -1
    · subst hB
      cases hN : isNumB A
      · have HNA := Lib.hid hN
        clear hN
        have HN := Lib.hid (show stepText ⟨5, A, -1, tx, da, cu⟩ = ByteArray.empty from stepText_no (by rw [ok_5 HZ.out rfl]; simp [HNA.out]))
        go_enter Tryd.func20, Tryd.ntmps20
        go_wp2_with fail
        refine (spec_l23Zero _ [_, _, _, _, _, _] ⟨5, A, -1, tx, da, cu⟩ (Rep.mono HR.out (by repeat (first | (with_reducible exact Below.refl _ _) | (with_reducible assumption) | (with_reducible refine bel_alloc ?_ _) | ((with_reducible refine bel_set ?_ ?_ _); rotate_left; (focus first | (simp; done) | (simp; omega))))))).mono ?_
        rintro e W1 ⟨_, rfl, rfl, hb⟩
        rw [HZ.out]
        have HB1 := Lib.hid (bel_next (show Below w.heap.size w _ from (by repeat (first | (with_reducible exact Below.refl _ _) | (with_reducible assumption) | (with_reducible refine bel_alloc ?_ _) | ((with_reducible refine bel_set ?_ ?_ _); rotate_left; (focus first | (simp; done) | (simp; omega)))))) hb)
        have hz1 := hb.size
        simp only [World.size_alloc] at hz1
        have hlt : w.heap.size < W1.heap.size := by omega
        have f0 : W1.cell? ⟨w.heap.size, 0, none⟩ = some (.int .i64 5) := (hb.cell (p := ⟨w.heap.size, 0, none⟩) (by simp)).trans (by simp)
        have f1 : W1.cell? ⟨w.heap.size, 1, none⟩ = some (.int .i64 A) := (hb.cell (p := ⟨w.heap.size, 1, none⟩) (by simp)).trans (by simp)
        have f2 : W1.cell? ⟨w.heap.size, 2, none⟩ = some (.int .i64 (-1)) := (hb.cell (p := ⟨w.heap.size, 2, none⟩) (by simp)).trans (by simp)
        have f3 : W1.cell? ⟨w.heap.size, 3, none⟩ = some (.string tx) := (hb.cell (p := ⟨w.heap.size, 3, none⟩) (by simp)).trans (by simp)
        have f4 : W1.cell? ⟨w.heap.size, 4, none⟩ = some (.slice a0 da.length p0) := (hb.cell (p := ⟨w.heap.size, 4, none⟩) (by simp)).trans (by simp)
        have f5 : W1.cell? ⟨w.heap.size, 5, none⟩ = some (.slice a1 cu.length p1) := (hb.cell (p := ⟨w.heap.size, 5, none⟩) (by simp)).trans (by simp)
        clear hb
        have HL := Lib.hid (ints_lit (w := W1) [A, -1] 3 rfl (by simp) (fun n hn => by simp at hn; rcases hn with hn | hn; (rw [hn]; exact HA.out); (rw [hn]; exact HB.out)))
        have HF := HL
        have HB1b := Lib.hid (HB1.out.trans ((bel_alloc (Below.refl W1.heap.size W1) (.cells #[Value.int .i64 A, Value.int .i64 (-1)] 3)).mono (by omega)))
        go_wp2_with (first | (go_at_call 38; refine (spec_l01Num _ _).mono ?_; rintro e w' ⟨rfl, rfl⟩; rw [HNA.out]) | (go_at_call 37; refine (spec_l23Nums _ _ _ [A, -1] HF.out.repS (by simp <;> omega) (by decide)).mono ?_; rintro e W2 ⟨_, rfl, rfl, hb⟩; have HB2 := Lib.hid (bel_next HB1b.out hb); clear hb))
        go_ret
        exact ⟨_, rfl, by show _ = Value.string _; rw [HN.out, numsB_no (show [A, (-1 : Int)].all isNumB = false by simp [minus_num])] <;> rfl, HB2.out⟩
      · have HNA := Lib.hid hN
        clear hN
        have hz := numText_size A
        have HN := Lib.hid (show stepText ⟨5, A, -1, tx, da, cu⟩ = (((⟨#[112, 111, 119, 101, 114, 32]⟩ : ByteArray) ++ numText A) ++ ⟨#[32, 110, 111, 110, 101]⟩) from by unfold stepText; rw [if_pos (by rw [ok_5 HZ.out rfl]; simp [HNA.out])]; simp)
        go_enter Tryd.func20, Tryd.ntmps20
        go_wp2_with fail
        refine (spec_l23Zero _ [_, _, _, _, _, _] ⟨5, A, -1, tx, da, cu⟩ (Rep.mono HR.out (by repeat (first | (with_reducible exact Below.refl _ _) | (with_reducible assumption) | (with_reducible refine bel_alloc ?_ _) | ((with_reducible refine bel_set ?_ ?_ _); rotate_left; (focus first | (simp; done) | (simp; omega))))))).mono ?_
        rintro e W1 ⟨_, rfl, rfl, hb⟩
        rw [HZ.out]
        have HB1 := Lib.hid (bel_next (show Below w.heap.size w _ from (by repeat (first | (with_reducible exact Below.refl _ _) | (with_reducible assumption) | (with_reducible refine bel_alloc ?_ _) | ((with_reducible refine bel_set ?_ ?_ _); rotate_left; (focus first | (simp; done) | (simp; omega)))))) hb)
        have hz1 := hb.size
        simp only [World.size_alloc] at hz1
        have hlt : w.heap.size < W1.heap.size := by omega
        have f0 : W1.cell? ⟨w.heap.size, 0, none⟩ = some (.int .i64 5) := (hb.cell (p := ⟨w.heap.size, 0, none⟩) (by simp)).trans (by simp)
        have f1 : W1.cell? ⟨w.heap.size, 1, none⟩ = some (.int .i64 A) := (hb.cell (p := ⟨w.heap.size, 1, none⟩) (by simp)).trans (by simp)
        have f2 : W1.cell? ⟨w.heap.size, 2, none⟩ = some (.int .i64 (-1)) := (hb.cell (p := ⟨w.heap.size, 2, none⟩) (by simp)).trans (by simp)
        have f3 : W1.cell? ⟨w.heap.size, 3, none⟩ = some (.string tx) := (hb.cell (p := ⟨w.heap.size, 3, none⟩) (by simp)).trans (by simp)
        have f4 : W1.cell? ⟨w.heap.size, 4, none⟩ = some (.slice a0 da.length p0) := (hb.cell (p := ⟨w.heap.size, 4, none⟩) (by simp)).trans (by simp)
        have f5 : W1.cell? ⟨w.heap.size, 5, none⟩ = some (.slice a1 cu.length p1) := (hb.cell (p := ⟨w.heap.size, 5, none⟩) (by simp)).trans (by simp)
        clear hb
        go_wp2_with (first | (go_at_call 38; refine (spec_l01Num _ _).mono ?_; rintro e w' ⟨rfl, rfl⟩; rw [HNA.out]) | (go_at_call 39; refine (spec_NumText _ _).mono ?_; rintro e W2 ⟨_, rfl, rfl, hb⟩; have HB2 := Lib.hid (bel_next HB1.out hb); clear hb))
        go_ret
        exact ⟨_, rfl, by show _ = Value.string _; rw [HN.out] <;> rfl, HB2.out⟩
    · have dB : decide (B = -1) = false := decide_eq_false hB
      have eB : (B == -1) = false := by simpa using hB
      have HN := Lib.hid (show stepText ⟨5, A, B, tx, da, cu⟩ = numsB ⟨#[112, 111, 119, 101, 114]⟩ [A, B] from by unfold stepText numsB; rw [ok_5 HZ.out rfl]; simp [hB])
      clear hB
      go_enter Tryd.func20, Tryd.ntmps20
      go_wp2_with fail
      refine (spec_l23Zero _ [_, _, _, _, _, _] ⟨5, A, B, tx, da, cu⟩ (Rep.mono HR.out (by repeat (first | (with_reducible exact Below.refl _ _) | (with_reducible assumption) | (with_reducible refine bel_alloc ?_ _) | ((with_reducible refine bel_set ?_ ?_ _); rotate_left; (focus first | (simp; done) | (simp; omega))))))).mono ?_
      rintro e W1 ⟨_, rfl, rfl, hb⟩
      rw [HZ.out]
      have HB1 := Lib.hid (bel_next (show Below w.heap.size w _ from (by repeat (first | (with_reducible exact Below.refl _ _) | (with_reducible assumption) | (with_reducible refine bel_alloc ?_ _) | ((with_reducible refine bel_set ?_ ?_ _); rotate_left; (focus first | (simp; done) | (simp; omega)))))) hb)
      have hz1 := hb.size
      simp only [World.size_alloc] at hz1
      have hlt : w.heap.size < W1.heap.size := by omega
      have f0 : W1.cell? ⟨w.heap.size, 0, none⟩ = some (.int .i64 5) := (hb.cell (p := ⟨w.heap.size, 0, none⟩) (by simp)).trans (by simp)
      have f1 : W1.cell? ⟨w.heap.size, 1, none⟩ = some (.int .i64 A) := (hb.cell (p := ⟨w.heap.size, 1, none⟩) (by simp)).trans (by simp)
      have f2 : W1.cell? ⟨w.heap.size, 2, none⟩ = some (.int .i64 B) := (hb.cell (p := ⟨w.heap.size, 2, none⟩) (by simp)).trans (by simp)
      have f3 : W1.cell? ⟨w.heap.size, 3, none⟩ = some (.string tx) := (hb.cell (p := ⟨w.heap.size, 3, none⟩) (by simp)).trans (by simp)
      have f4 : W1.cell? ⟨w.heap.size, 4, none⟩ = some (.slice a0 da.length p0) := (hb.cell (p := ⟨w.heap.size, 4, none⟩) (by simp)).trans (by simp)
      have f5 : W1.cell? ⟨w.heap.size, 5, none⟩ = some (.slice a1 cu.length p1) := (hb.cell (p := ⟨w.heap.size, 5, none⟩) (by simp)).trans (by simp)
      clear hb
      have HL := Lib.hid (ints_lit (w := W1) [A, B] 3 rfl (by simp) (fun n hn => by simp at hn; rcases hn with hn | hn; (rw [hn]; exact HA.out); (rw [hn]; exact HB.out)))
      have HF := HL
      have HB1b := Lib.hid (HB1.out.trans ((bel_alloc (Below.refl W1.heap.size W1) (.cells #[Value.int .i64 A, Value.int .i64 B] 3)).mono (by omega)))
      go_wp2_with (go_at_call 37; refine (spec_l23Nums _ _ _ [A, B] HF.out.repS (by simp <;> omega) (by decide)).mono ?_; rintro e W2 ⟨_, rfl, rfl, hb⟩; have HB2 := Lib.hid (bel_next HB1b.out hb); clear hb)
      go_ret
      exact ⟨_, rfl, by show _ = Value.string _; rw [HN.out] <;> rfl, HB2.out⟩
  by_cases hk6 : kd = 6
  · subst hk6
    clear hk1 hk2 hk3 hk4 hk5
    cases hl : (!decide (tx.toList = []) && !hasByte tx 10)
    · have HLI := Lib.hid hl
      have HN := Lib.hid (show stepText ⟨6, A, B, tx, da, cu⟩ = ByteArray.empty from stepText_no (by rw [ok_6 HZ.out rfl]; exact hl))
      clear hl
      go_enter Tryd.func20, Tryd.ntmps20
      go_wp2_with fail
      refine (spec_l23Zero _ [_, _, _, _, _, _] ⟨6, A, B, tx, da, cu⟩ (Rep.mono HR.out (by repeat (first | (with_reducible exact Below.refl _ _) | (with_reducible assumption) | (with_reducible refine bel_alloc ?_ _) | ((with_reducible refine bel_set ?_ ?_ _); rotate_left; (focus first | (simp; done) | (simp; omega))))))).mono ?_
      rintro e W1 ⟨_, rfl, rfl, hb⟩
      rw [HZ.out]
      have HB1 := Lib.hid (bel_next (show Below w.heap.size w _ from (by repeat (first | (with_reducible exact Below.refl _ _) | (with_reducible assumption) | (with_reducible refine bel_alloc ?_ _) | ((with_reducible refine bel_set ?_ ?_ _); rotate_left; (focus first | (simp; done) | (simp; omega)))))) hb)
      have hz1 := hb.size
      simp only [World.size_alloc] at hz1
      have hlt : w.heap.size < W1.heap.size := by omega
      have f0 : W1.cell? ⟨w.heap.size, 0, none⟩ = some (.int .i64 6) := (hb.cell (p := ⟨w.heap.size, 0, none⟩) (by simp)).trans (by simp)
      have f1 : W1.cell? ⟨w.heap.size, 1, none⟩ = some (.int .i64 A) := (hb.cell (p := ⟨w.heap.size, 1, none⟩) (by simp)).trans (by simp)
      have f2 : W1.cell? ⟨w.heap.size, 2, none⟩ = some (.int .i64 B) := (hb.cell (p := ⟨w.heap.size, 2, none⟩) (by simp)).trans (by simp)
      have f3 : W1.cell? ⟨w.heap.size, 3, none⟩ = some (.string tx) := (hb.cell (p := ⟨w.heap.size, 3, none⟩) (by simp)).trans (by simp)
      have f4 : W1.cell? ⟨w.heap.size, 4, none⟩ = some (.slice a0 da.length p0) := (hb.cell (p := ⟨w.heap.size, 4, none⟩) (by simp)).trans (by simp)
      have f5 : W1.cell? ⟨w.heap.size, 5, none⟩ = some (.slice a1 cu.length p1) := (hb.cell (p := ⟨w.heap.size, 5, none⟩) (by simp)).trans (by simp)
      clear hb
      go_wp2_with (go_at_call 40; refine (spec_l23Line _ _ (by omega)).mono ?_; rintro e w' ⟨rfl, rfl⟩; rw [HLI.out])
      go_ret
      exact ⟨_, rfl, by show _ = Value.string _; rw [HN.out] <;> rfl, HB1.out⟩
    · have HLI := Lib.hid hl
      have HN := Lib.hid (show stepText ⟨6, A, B, tx, da, cu⟩ = (⟨#[108, 105, 110, 101, 32]⟩ : ByteArray) ++ tx from by unfold stepText; rw [if_pos (by rw [ok_6 HZ.out rfl]; exact hl)]; simp)
      clear hl
      go_enter Tryd.func20, Tryd.ntmps20
      go_wp2_with fail
      refine (spec_l23Zero _ [_, _, _, _, _, _] ⟨6, A, B, tx, da, cu⟩ (Rep.mono HR.out (by repeat (first | (with_reducible exact Below.refl _ _) | (with_reducible assumption) | (with_reducible refine bel_alloc ?_ _) | ((with_reducible refine bel_set ?_ ?_ _); rotate_left; (focus first | (simp; done) | (simp; omega))))))).mono ?_
      rintro e W1 ⟨_, rfl, rfl, hb⟩
      rw [HZ.out]
      have HB1 := Lib.hid (bel_next (show Below w.heap.size w _ from (by repeat (first | (with_reducible exact Below.refl _ _) | (with_reducible assumption) | (with_reducible refine bel_alloc ?_ _) | ((with_reducible refine bel_set ?_ ?_ _); rotate_left; (focus first | (simp; done) | (simp; omega)))))) hb)
      have hz1 := hb.size
      simp only [World.size_alloc] at hz1
      have hlt : w.heap.size < W1.heap.size := by omega
      have f0 : W1.cell? ⟨w.heap.size, 0, none⟩ = some (.int .i64 6) := (hb.cell (p := ⟨w.heap.size, 0, none⟩) (by simp)).trans (by simp)
      have f1 : W1.cell? ⟨w.heap.size, 1, none⟩ = some (.int .i64 A) := (hb.cell (p := ⟨w.heap.size, 1, none⟩) (by simp)).trans (by simp)
      have f2 : W1.cell? ⟨w.heap.size, 2, none⟩ = some (.int .i64 B) := (hb.cell (p := ⟨w.heap.size, 2, none⟩) (by simp)).trans (by simp)
      have f3 : W1.cell? ⟨w.heap.size, 3, none⟩ = some (.string tx) := (hb.cell (p := ⟨w.heap.size, 3, none⟩) (by simp)).trans (by simp)
      have f4 : W1.cell? ⟨w.heap.size, 4, none⟩ = some (.slice a0 da.length p0) := (hb.cell (p := ⟨w.heap.size, 4, none⟩) (by simp)).trans (by simp)
      have f5 : W1.cell? ⟨w.heap.size, 5, none⟩ = some (.slice a1 cu.length p1) := (hb.cell (p := ⟨w.heap.size, 5, none⟩) (by simp)).trans (by simp)
      clear hb
      go_wp2_with (go_at_call 40; refine (spec_l23Line _ _ (by omega)).mono ?_; rintro e w' ⟨rfl, rfl⟩; rw [HLI.out])
      go_ret
      exact ⟨_, rfl, by show _ = Value.string _; rw [HN.out] <;> rfl, HB1.out⟩
  by_cases hk7 : kd = 7
  · subst hk7
    clear hk1 hk2 hk3 hk4 hk5 hk6
    cases hN : isNumB A
    · have HNA := Lib.hid hN
      clear hN
      have HN := Lib.hid (show stepText ⟨7, A, B, tx, da, cu⟩ = ByteArray.empty from stepText_no (by rw [ok_7 HZ.out rfl]; simp [HNA.out]))
      go_enter Tryd.func20, Tryd.ntmps20
      go_wp2_with fail
      refine (spec_l23Zero _ [_, _, _, _, _, _] ⟨7, A, B, tx, da, cu⟩ (Rep.mono HR.out (by repeat (first | (with_reducible exact Below.refl _ _) | (with_reducible assumption) | (with_reducible refine bel_alloc ?_ _) | ((with_reducible refine bel_set ?_ ?_ _); rotate_left; (focus first | (simp; done) | (simp; omega))))))).mono ?_
      rintro e W1 ⟨_, rfl, rfl, hb⟩
      rw [HZ.out]
      have HB1 := Lib.hid (bel_next (show Below w.heap.size w _ from (by repeat (first | (with_reducible exact Below.refl _ _) | (with_reducible assumption) | (with_reducible refine bel_alloc ?_ _) | ((with_reducible refine bel_set ?_ ?_ _); rotate_left; (focus first | (simp; done) | (simp; omega)))))) hb)
      have hz1 := hb.size
      simp only [World.size_alloc] at hz1
      have hlt : w.heap.size < W1.heap.size := by omega
      have f0 : W1.cell? ⟨w.heap.size, 0, none⟩ = some (.int .i64 7) := (hb.cell (p := ⟨w.heap.size, 0, none⟩) (by simp)).trans (by simp)
      have f1 : W1.cell? ⟨w.heap.size, 1, none⟩ = some (.int .i64 A) := (hb.cell (p := ⟨w.heap.size, 1, none⟩) (by simp)).trans (by simp)
      have f2 : W1.cell? ⟨w.heap.size, 2, none⟩ = some (.int .i64 B) := (hb.cell (p := ⟨w.heap.size, 2, none⟩) (by simp)).trans (by simp)
      have f3 : W1.cell? ⟨w.heap.size, 3, none⟩ = some (.string tx) := (hb.cell (p := ⟨w.heap.size, 3, none⟩) (by simp)).trans (by simp)
      have f4 : W1.cell? ⟨w.heap.size, 4, none⟩ = some (.slice a0 da.length p0) := (hb.cell (p := ⟨w.heap.size, 4, none⟩) (by simp)).trans (by simp)
      have f5 : W1.cell? ⟨w.heap.size, 5, none⟩ = some (.slice a1 cu.length p1) := (hb.cell (p := ⟨w.heap.size, 5, none⟩) (by simp)).trans (by simp)
      clear hb
      go_wp2_with (go_at_call 38; refine (spec_l01Num _ _).mono ?_; rintro e w' ⟨rfl, rfl⟩; rw [HNA.out])
      go_ret
      exact ⟨_, rfl, by show _ = Value.string _; rw [HN.out] <;> rfl, HB1.out⟩
    · have HNA := Lib.hid hN
      clear hN
      by_cases hd : da = []
      · subst hd
        have HN := Lib.hid (show stepText ⟨7, A, B, tx, [], cu⟩ = ByteArray.empty from stepText_no (by rw [ok_7 HZ.out rfl]; simp))
        go_enter Tryd.func20, Tryd.ntmps20
        go_wp2_with fail
        refine (spec_l23Zero _ [_, _, _, _, _, _] ⟨7, A, B, tx, [], cu⟩ (Rep.mono HR.out (by repeat (first | (with_reducible exact Below.refl _ _) | (with_reducible assumption) | (with_reducible refine bel_alloc ?_ _) | ((with_reducible refine bel_set ?_ ?_ _); rotate_left; (focus first | (simp; done) | (simp; omega))))))).mono ?_
        rintro e W1 ⟨_, rfl, rfl, hb⟩
        rw [HZ.out]
        have HB1 := Lib.hid (bel_next (show Below w.heap.size w _ from (by repeat (first | (with_reducible exact Below.refl _ _) | (with_reducible assumption) | (with_reducible refine bel_alloc ?_ _) | ((with_reducible refine bel_set ?_ ?_ _); rotate_left; (focus first | (simp; done) | (simp; omega)))))) hb)
        have hz1 := hb.size
        simp only [World.size_alloc] at hz1
        have hlt : w.heap.size < W1.heap.size := by omega
        have f0 : W1.cell? ⟨w.heap.size, 0, none⟩ = some (.int .i64 7) := (hb.cell (p := ⟨w.heap.size, 0, none⟩) (by simp)).trans (by simp)
        have f1 : W1.cell? ⟨w.heap.size, 1, none⟩ = some (.int .i64 A) := (hb.cell (p := ⟨w.heap.size, 1, none⟩) (by simp)).trans (by simp)
        have f2 : W1.cell? ⟨w.heap.size, 2, none⟩ = some (.int .i64 B) := (hb.cell (p := ⟨w.heap.size, 2, none⟩) (by simp)).trans (by simp)
        have f3 : W1.cell? ⟨w.heap.size, 3, none⟩ = some (.string tx) := (hb.cell (p := ⟨w.heap.size, 3, none⟩) (by simp)).trans (by simp)
        have f4 : W1.cell? ⟨w.heap.size, 4, none⟩ = some (.slice a0 0 p0) := (hb.cell (p := ⟨w.heap.size, 4, none⟩) (by simp)).trans (by simp)
        have f5 : W1.cell? ⟨w.heap.size, 5, none⟩ = some (.slice a1 cu.length p1) := (hb.cell (p := ⟨w.heap.size, 5, none⟩) (by simp)).trans (by simp)
        clear hb
        go_wp2_with (go_at_call 38; refine (spec_l01Num _ _).mono ?_; rintro e w' ⟨rfl, rfl⟩; rw [HNA.out])
        go_ret
        exact ⟨_, rfl, by show _ = Value.string _; rw [HN.out] <;> rfl, HB1.out⟩
      · have hz := numText_size A
        have hz2 := hexL_length da
        have hz3 : (hexT da).size = 2 * da.length := hz2
        have hp0 : decide ((0 : Int) < (da.length : Int)) = true := decide_eq_true (by have := List.length_pos_iff.2 hd; omega)
        have hp1 : decide (0 < da.length) = true := decide_eq_true (List.length_pos_iff.2 hd)
        have HN := Lib.hid (show stepText ⟨7, A, B, tx, da, cu⟩ = (((⟨#[111, 117, 116, 32]⟩ : ByteArray) ++ numText A) ++ ⟨#[32]⟩) ++ hexT da from by unfold stepText; rw [if_pos (by rw [ok_7 HZ.out rfl]; simp [HNA.out, hd])]; simp)
        have g1 : (9223372036854775807 < 4 + (numText A).size) = False := eq_false (by omega)
        have g2 : (9223372036854775807 < 4 + (numText A).size + 1) = False := eq_false (by omega)
        have g3 : (9223372036854775807 < 4 + (numText A).size + 1 + (hexT da).size) = False := eq_false (by omega)
        clear hd hz hz2 hz3
        go_enter Tryd.func20, Tryd.ntmps20
        go_wp2_with fail
        refine (spec_l23Zero _ [_, _, _, _, _, _] ⟨7, A, B, tx, da, cu⟩ (Rep.mono HR.out (by repeat (first | (with_reducible exact Below.refl _ _) | (with_reducible assumption) | (with_reducible refine bel_alloc ?_ _) | ((with_reducible refine bel_set ?_ ?_ _); rotate_left; (focus first | (simp; done) | (simp; omega))))))).mono ?_
        rintro e W1 ⟨_, rfl, rfl, hb⟩
        rw [HZ.out]
        have HB1 := Lib.hid (bel_next (show Below w.heap.size w _ from (by repeat (first | (with_reducible exact Below.refl _ _) | (with_reducible assumption) | (with_reducible refine bel_alloc ?_ _) | ((with_reducible refine bel_set ?_ ?_ _); rotate_left; (focus first | (simp; done) | (simp; omega)))))) hb)
        have hz1 := hb.size
        simp only [World.size_alloc] at hz1
        have hlt : w.heap.size < W1.heap.size := by omega
        have f0 : W1.cell? ⟨w.heap.size, 0, none⟩ = some (.int .i64 7) := (hb.cell (p := ⟨w.heap.size, 0, none⟩) (by simp)).trans (by simp)
        have f1 : W1.cell? ⟨w.heap.size, 1, none⟩ = some (.int .i64 A) := (hb.cell (p := ⟨w.heap.size, 1, none⟩) (by simp)).trans (by simp)
        have f2 : W1.cell? ⟨w.heap.size, 2, none⟩ = some (.int .i64 B) := (hb.cell (p := ⟨w.heap.size, 2, none⟩) (by simp)).trans (by simp)
        have f3 : W1.cell? ⟨w.heap.size, 3, none⟩ = some (.string tx) := (hb.cell (p := ⟨w.heap.size, 3, none⟩) (by simp)).trans (by simp)
        have f4 : W1.cell? ⟨w.heap.size, 4, none⟩ = some (.slice a0 da.length p0) := (hb.cell (p := ⟨w.heap.size, 4, none⟩) (by simp)).trans (by simp)
        have f5 : W1.cell? ⟨w.heap.size, 5, none⟩ = some (.slice a1 cu.length p1) := (hb.cell (p := ⟨w.heap.size, 5, none⟩) (by simp)).trans (by simp)
        clear hb
        have e1 := ext_cell (W := W1) f1
        have e4 := ext_cell (W := W1) f4
        go_wp2_with (go_at_call 38; refine (spec_l01Num _ _).mono ?_; rintro e w' ⟨rfl, rfl⟩; rw [HNA.out])
        refine wp_region_ext (by kernel_rfl) (by kernel_rfl) ?_
        repeat (go_big_quiet_step (first | (go_at_call 39; exact ext_gives (spec_NumText _ _)) | (go_at_call 41; exact ext_gives (spec_l23Hex _ _ da (HD.out.mono (bel_next HB1.out (Ext.bel _))) (by omega)))))
        refine wpQuiet_nil ?_
        intro _ hw'
        obtain ⟨eW, rfl⟩ := hw'
        go_wp2_with fail
        go_ret
        exact ⟨_, rfl, by show _ = Value.string _; rw [HN.out] <;> rfl, bel_next HB1.out eW.bel⟩
  by_cases hk8 : kd = 8
  · subst hk8
    clear hk1 hk2 hk3 hk4 hk5 hk6 hk7
    have HN := Lib.hid (show stepText ⟨8, A, B, tx, da, cu⟩ = numsB ⟨#[101, 110, 100]⟩ [A, B] from by unfold stepText numsB; rw [ok_8 HZ.out rfl]; simp)
    go_enter Tryd.func20, Tryd.ntmps20
    go_wp2_with fail
    refine (spec_l23Zero _ [_, _, _, _, _, _] ⟨8, A, B, tx, da, cu⟩ (Rep.mono HR.out (by repeat (first | (with_reducible exact Below.refl _ _) | (with_reducible assumption) | (with_reducible refine bel_alloc ?_ _) | ((with_reducible refine bel_set ?_ ?_ _); rotate_left; (focus first | (simp; done) | (simp; omega))))))).mono ?_
    rintro e W1 ⟨_, rfl, rfl, hb⟩
    rw [HZ.out]
    have HB1 := Lib.hid (bel_next (show Below w.heap.size w _ from (by repeat (first | (with_reducible exact Below.refl _ _) | (with_reducible assumption) | (with_reducible refine bel_alloc ?_ _) | ((with_reducible refine bel_set ?_ ?_ _); rotate_left; (focus first | (simp; done) | (simp; omega)))))) hb)
    have hz1 := hb.size
    simp only [World.size_alloc] at hz1
    have hlt : w.heap.size < W1.heap.size := by omega
    have f0 : W1.cell? ⟨w.heap.size, 0, none⟩ = some (.int .i64 8) := (hb.cell (p := ⟨w.heap.size, 0, none⟩) (by simp)).trans (by simp)
    have f1 : W1.cell? ⟨w.heap.size, 1, none⟩ = some (.int .i64 A) := (hb.cell (p := ⟨w.heap.size, 1, none⟩) (by simp)).trans (by simp)
    have f2 : W1.cell? ⟨w.heap.size, 2, none⟩ = some (.int .i64 B) := (hb.cell (p := ⟨w.heap.size, 2, none⟩) (by simp)).trans (by simp)
    have f3 : W1.cell? ⟨w.heap.size, 3, none⟩ = some (.string tx) := (hb.cell (p := ⟨w.heap.size, 3, none⟩) (by simp)).trans (by simp)
    have f4 : W1.cell? ⟨w.heap.size, 4, none⟩ = some (.slice a0 da.length p0) := (hb.cell (p := ⟨w.heap.size, 4, none⟩) (by simp)).trans (by simp)
    have f5 : W1.cell? ⟨w.heap.size, 5, none⟩ = some (.slice a1 cu.length p1) := (hb.cell (p := ⟨w.heap.size, 5, none⟩) (by simp)).trans (by simp)
    clear hb
    have HL := Lib.hid (ints_lit (w := W1) [A, B] 3 rfl (by simp) (fun n hn => by simp at hn; rcases hn with hn | hn; (rw [hn]; exact HA.out); (rw [hn]; exact HB.out)))
    have HF := HL
    have HB1b := Lib.hid (HB1.out.trans ((bel_alloc (Below.refl W1.heap.size W1) (.cells #[Value.int .i64 A, Value.int .i64 B] 3)).mono (by omega)))
    go_wp2_with (go_at_call 37; refine (spec_l23Nums _ _ _ [A, B] HF.out.repS (by simp <;> omega) (by decide)).mono ?_; rintro e W2 ⟨_, rfl, rfl, hb⟩; have HB2 := Lib.hid (bel_next HB1b.out hb); clear hb)
    go_ret
    exact ⟨_, rfl, by show _ = Value.string _; rw [HN.out] <;> rfl, HB2.out⟩
  have HN := Lib.hid (show stepText ⟨kd, A, B, tx, da, cu⟩ = ByteArray.empty from stepText_no (ok_other (show kd < 1 ∨ 8 < kd by omega)))
  have dk1 : decide (kd = 1) = false := decide_eq_false hk1
  have ek1 : (kd == 1) = false := by simpa using hk1
  have dk2 : decide (kd = 2) = false := decide_eq_false hk2
  have ek2 : (kd == 2) = false := by simpa using hk2
  have dk3 : decide (kd = 3) = false := decide_eq_false hk3
  have ek3 : (kd == 3) = false := by simpa using hk3
  have dk4 : decide (kd = 4) = false := decide_eq_false hk4
  have ek4 : (kd == 4) = false := by simpa using hk4
  have dk5 : decide (kd = 5) = false := decide_eq_false hk5
  have ek5 : (kd == 5) = false := by simpa using hk5
  have dk6 : decide (kd = 6) = false := decide_eq_false hk6
  have ek6 : (kd == 6) = false := by simpa using hk6
  have dk7 : decide (kd = 7) = false := decide_eq_false hk7
  have ek7 : (kd == 7) = false := by simpa using hk7
  have dk8 : decide (kd = 8) = false := decide_eq_false hk8
  have ek8 : (kd == 8) = false := by simpa using hk8
  clear hk1 hk2 hk3 hk4 hk5 hk6 hk7 hk8
  go_enter Tryd.func20, Tryd.ntmps20
  go_wp2_with fail
  refine (spec_l23Zero _ [_, _, _, _, _, _] ⟨kd, A, B, tx, da, cu⟩ (Rep.mono HR.out (by repeat (first | (with_reducible exact Below.refl _ _) | (with_reducible assumption) | (with_reducible refine bel_alloc ?_ _) | ((with_reducible refine bel_set ?_ ?_ _); rotate_left; (focus first | (simp; done) | (simp; omega))))))).mono ?_
  rintro e W1 ⟨_, rfl, rfl, hb⟩
  rw [HZ.out]
  have HB1 := Lib.hid (bel_next (show Below w.heap.size w _ from (by repeat (first | (with_reducible exact Below.refl _ _) | (with_reducible assumption) | (with_reducible refine bel_alloc ?_ _) | ((with_reducible refine bel_set ?_ ?_ _); rotate_left; (focus first | (simp; done) | (simp; omega)))))) hb)
  have hz1 := hb.size
  simp only [World.size_alloc] at hz1
  have hlt : w.heap.size < W1.heap.size := by omega
  have f0 : W1.cell? ⟨w.heap.size, 0, none⟩ = some (.int .i64 kd) := (hb.cell (p := ⟨w.heap.size, 0, none⟩) (by simp)).trans (by simp)
  have f1 : W1.cell? ⟨w.heap.size, 1, none⟩ = some (.int .i64 A) := (hb.cell (p := ⟨w.heap.size, 1, none⟩) (by simp)).trans (by simp)
  have f2 : W1.cell? ⟨w.heap.size, 2, none⟩ = some (.int .i64 B) := (hb.cell (p := ⟨w.heap.size, 2, none⟩) (by simp)).trans (by simp)
  have f3 : W1.cell? ⟨w.heap.size, 3, none⟩ = some (.string tx) := (hb.cell (p := ⟨w.heap.size, 3, none⟩) (by simp)).trans (by simp)
  have f4 : W1.cell? ⟨w.heap.size, 4, none⟩ = some (.slice a0 da.length p0) := (hb.cell (p := ⟨w.heap.size, 4, none⟩) (by simp)).trans (by simp)
  have f5 : W1.cell? ⟨w.heap.size, 5, none⟩ = some (.slice a1 cu.length p1) := (hb.cell (p := ⟨w.heap.size, 5, none⟩) (by simp)).trans (by simp)
  clear hb
  go_wp2_with fail
  go_ret
  exact ⟨_, rfl, by show _ = Value.string _; rw [HN.out] <;> rfl, HB1.out⟩
end Go.Proofs.YtjglknaojfnllaaDoor
