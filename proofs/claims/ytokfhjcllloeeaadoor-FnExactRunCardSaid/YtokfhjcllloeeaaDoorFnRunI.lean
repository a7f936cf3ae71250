/- The walk of the program's Run. -/
import Derived.Test.YtokfhjcllloeeaaDoorFnRun
namespace Go.Mux
open Go.RowKit
@[irreducible] def runOk (x : DGrid) (y a b : Int) : Bool := gridOkB x && (withinB y 0 (x.H - 1) && (decide (0 ≤ a) && (decide (a < b) && decide (b ≤ x.W))))
@[irreducible] def runOut (x : DGrid) (y a b : Int) : List UInt8 := if runOk x y a b then runBytes x y a b else []
theorem runOut_no {x : DGrid} {y a b : Int} (h : runOk x y a b = false) : runOut x y a b = [] := by unfold runOut; simp [h]
theorem runOut_yes {x : DGrid} {y a b : Int} (h : runOk x y a b = true) : runOut x y a b = runBytes x y a b := by unfold runOut; simp [h]
theorem freshS_nil (B : Nat) (w : World) {l : List UInt8} (h : l = []) : FreshS B w (.slice none 0 0) l := by
  subst h
  exact ⟨[], ⟨[], [], ⟨by simp, .inl ⟨rfl, rfl⟩⟩, by simp, rfl, rfl, by simp, by simp [Value.ownBlock]⟩, by simp, by simp⟩
end Go.Mux
namespace Go.Proofs.YtokfhjcllloeeaaDoor
open Go.RowKit Go.Mux
set_option maxRecDepth 100000 in
set_option maxHeartbeats 2000000 in
theorem impl_Run' (w : World) (cs : List Value) (x : DGrid) (y a b : Int) (h : Rep.rep w cs x) (htab : Tab Tryd.prog w) : Calls Tryd.prog 21 #[.agg cs.toArray, .int .i64 y, .int .i64 a, .int .i64 b] w (Gives w fun r w' => FreshS w.heap.size w' r (runOut x y a b)) := by
  have HP := Lib.hid h
  have HT := Lib.hid htab
  obtain ⟨a0, n0, c0, rfl⟩ := DGrid.shape h
  clear h htab
  cases hg : gridOkB x
  · have HG := Lib.hid hg
    have HN := Lib.hid (runOut_no (x := x) (y := y) (a := a) (b := b) (by unfold runOk; simp [hg]))
    clear hg
    go_enter Tryd.func21, Tryd.ntmps21
    go_wp2_with (go_at_call 47; refine (impl_GridOk _ [_, _, _] x (Rep.mono HP.out (by repeat (first | (with_reducible exact Below.refl _ _) | (with_reducible assumption) | (with_reducible refine bel_alloc ?_ _) | ((with_reducible refine bel_set ?_ ?_ _); rotate_left; (focus first | (simp; done) | (simp; omega))))))).mono ?_; rintro e W1 ⟨_, rfl, rfl, hb⟩; rw [HG.out]; have HB1 := Lib.hid (bel_next (show Below w.heap.size w _ from (by repeat (first | (with_reducible exact Below.refl _ _) | (with_reducible assumption) | (with_reducible refine bel_alloc ?_ _) | ((with_reducible refine bel_set ?_ ?_ _); rotate_left; (focus first | (simp; done) | (simp; omega)))))) hb); clear hb)
    go_ret
    exact ⟨_, rfl, freshS_nil _ _ HN.out, HB1.out⟩
  · obtain ⟨s1, s2, s3, s4, _⟩ := gridOkB_size hg
    have hw1 : IntKind.i64.wrap (x.H - 1) = x.H - 1 := by rw [IntKind.wrap_i64]; omega
    cases hy : withinB y 0 (x.H - 1)
    · have HG := Lib.hid hg
      have HY := Lib.hid hy
      have HN := Lib.hid (runOut_no (x := x) (y := y) (a := a) (b := b) (by unfold runOk; simp [hy]))
      clear hg hy
      go_enter Tryd.func21, Tryd.ntmps21
      go_wp2_with (first | (go_at_call 47; refine (impl_GridOk _ [_, _, _] x (Rep.mono HP.out (by repeat (first | (with_reducible exact Below.refl _ _) | (with_reducible assumption) | (with_reducible refine bel_alloc ?_ _) | ((with_reducible refine bel_set ?_ ?_ _); rotate_left; (focus first | (simp; done) | (simp; omega))))))).mono ?_; rintro e W1 ⟨_, rfl, rfl, hb⟩; rw [HG.out]; have HB1 := Lib.hid (bel_next (show Below w.heap.size w _ from (by repeat (first | (with_reducible exact Below.refl _ _) | (with_reducible assumption) | (with_reducible refine bel_alloc ?_ _) | ((with_reducible refine bel_set ?_ ?_ _); rotate_left; (focus first | (simp; done) | (simp; omega)))))) hb); have cA := (fun o => hb.cell (p := ⟨w.heap.size, o, none⟩) (by simp)); clear hb) | (go_at_call 48; refine (impl_within _ _ _ _).mono ?_; rintro e w' ⟨rfl, rfl⟩; rw [HY.out]))
      go_ret
      exact ⟨_, rfl, freshS_nil _ _ HN.out, HB1.out⟩
    · by_cases hok : 0 ≤ a ∧ a < b ∧ b ≤ x.W
      · obtain ⟨q1, q2, q3⟩ := hok
        have hyy := withinB_true.1 hy
        have HG := Lib.hid hg
        have HY := Lib.hid hy
        have HN := Lib.hid (runOut_yes (x := x) (y := y) (a := a) (b := b) (by unfold runOk; simp [hg, hy, q1, q2, q3]))
        clear hg hy
        obtain ⟨f, rfl⟩ : ∃ f : Nat, a = f := ⟨a.toNat, by omega⟩
        obtain ⟨t, rfl⟩ : ∃ t : Nat, b = t := ⟨b.toNat, by omega⟩
        have d1 : decide ((f : Int) < 0) = false := decide_eq_false (by omega)
        have d2 : decide ((t : Int) ≤ (f : Int)) = false := decide_eq_false (by omega)
        have d3 : decide (x.W < (t : Int)) = false := decide_eq_false (by omega)
        go_enter Tryd.func21, Tryd.ntmps21
        go_wp2_with (first | (go_at_call 47; refine (impl_GridOk _ [_, _, _] x (Rep.mono HP.out (by repeat (first | (with_reducible exact Below.refl _ _) | (with_reducible assumption) | (with_reducible refine bel_alloc ?_ _) | ((with_reducible refine bel_set ?_ ?_ _); rotate_left; (focus first | (simp; done) | (simp; omega))))))).mono ?_; rintro e W1 ⟨_, rfl, rfl, hb⟩; rw [HG.out]; have HB1 := Lib.hid (bel_next (show Below w.heap.size w _ from (by repeat (first | (with_reducible exact Below.refl _ _) | (with_reducible assumption) | (with_reducible refine bel_alloc ?_ _) | ((with_reducible refine bel_set ?_ ?_ _); rotate_left; (focus first | (simp; done) | (simp; omega)))))) hb); have cA := (fun o => hb.cell (p := ⟨w.heap.size, o, none⟩) (by simp)); clear hb) | (go_at_call 48; refine (impl_within _ _ _ _).mono ?_; rintro e w' ⟨rfl, rfl⟩; rw [HY.out]) | (go_at_call 49; refine (impl_run _ [_, _, _] x y f t (Rep.mono HP.out HB1.out) HG.out (by omega) (by omega) (by omega) q3 (HT.out.mono HB1.out)).mono ?_; rintro e W2 ⟨v2, rfl, hF, hb⟩; have HF := Lib.hid hF; have HB2 := Lib.hid (bel_next HB1.out hb); clear hF hb))
        go_ret
        exact ⟨_, rfl, (by rw [HN.out]; obtain ⟨fp, ho, hn, hbf⟩ := HF.out; exact ⟨fp, ho, hn, fun c hc => Nat.le_trans HB1.out.size (hbf c hc)⟩), HB2.out⟩
      · have HG := Lib.hid hg
        have HY := Lib.hid hy
        have HN := Lib.hid (runOut_no (x := x) (y := y) (a := a) (b := b) (by
          unfold runOk
          rw [Bool.eq_false_iff]
          intro hh
          simp only [Bool.and_eq_true, decide_eq_true_eq] at hh
          exact hok hh.2.2))
        clear hg hy
        by_cases r1 : a < 0
        · have d1 : decide (a < 0) = true := decide_eq_true r1
          go_enter Tryd.func21, Tryd.ntmps21
          go_wp2_with (first | (go_at_call 47; refine (impl_GridOk _ [_, _, _] x (Rep.mono HP.out (by repeat (first | (with_reducible exact Below.refl _ _) | (with_reducible assumption) | (with_reducible refine bel_alloc ?_ _) | ((with_reducible refine bel_set ?_ ?_ _); rotate_left; (focus first | (simp; done) | (simp; omega))))))).mono ?_; rintro e W1 ⟨_, rfl, rfl, hb⟩; rw [HG.out]; have HB1 := Lib.hid (bel_next (show Below w.heap.size w _ from (by repeat (first | (with_reducible exact Below.refl _ _) | (with_reducible assumption) | (with_reducible refine bel_alloc ?_ _) | ((with_reducible refine bel_set ?_ ?_ _); rotate_left; (focus first | (simp; done) | (simp; omega)))))) hb); have cA := (fun o => hb.cell (p := ⟨w.heap.size, o, none⟩) (by simp)); clear hb) | (go_at_call 48; refine (impl_within _ _ _ _).mono ?_; rintro e w' ⟨rfl, rfl⟩; rw [HY.out]))
          go_ret
          exact ⟨_, rfl, freshS_nil _ _ HN.out, HB1.out⟩
        · have d1 : decide (a < 0) = false := decide_eq_false r1
          by_cases r2 : b ≤ a
          · have d2 : decide (b ≤ a) = true := decide_eq_true r2
            go_enter Tryd.func21, Tryd.ntmps21
            go_wp2_with (first | (go_at_call 47; refine (impl_GridOk _ [_, _, _] x (Rep.mono HP.out (by repeat (first | (with_reducible exact Below.refl _ _) | (with_reducible assumption) | (with_reducible refine bel_alloc ?_ _) | ((with_reducible refine bel_set ?_ ?_ _); rotate_left; (focus first | (simp; done) | (simp; omega))))))).mono ?_; rintro e W1 ⟨_, rfl, rfl, hb⟩; rw [HG.out]; have HB1 := Lib.hid (bel_next (show Below w.heap.size w _ from (by repeat (first | (with_reducible exact Below.refl _ _) | (with_reducible assumption) | (with_reducible refine bel_alloc ?_ _) | ((with_reducible refine bel_set ?_ ?_ _); rotate_left; (focus first | (simp; done) | (simp; omega)))))) hb); have cA := (fun o => hb.cell (p := ⟨w.heap.size, o, none⟩) (by simp)); clear hb) | (go_at_call 48; refine (impl_within _ _ _ _).mono ?_; rintro e w' ⟨rfl, rfl⟩; rw [HY.out]))
            go_ret
            exact ⟨_, rfl, freshS_nil _ _ HN.out, HB1.out⟩
          · have d2 : decide (b ≤ a) = false := decide_eq_false r2
            have d3 : decide (x.W < b) = true := decide_eq_true (by omega)
            go_enter Tryd.func21, Tryd.ntmps21
            go_wp2_with (first | (go_at_call 47; refine (impl_GridOk _ [_, _, _] x (Rep.mono HP.out (by repeat (first | (with_reducible exact Below.refl _ _) | (with_reducible assumption) | (with_reducible refine bel_alloc ?_ _) | ((with_reducible refine bel_set ?_ ?_ _); rotate_left; (focus first | (simp; done) | (simp; omega))))))).mono ?_; rintro e W1 ⟨_, rfl, rfl, hb⟩; rw [HG.out]; have HB1 := Lib.hid (bel_next (show Below w.heap.size w _ from (by repeat (first | (with_reducible exact Below.refl _ _) | (with_reducible assumption) | (with_reducible refine bel_alloc ?_ _) | ((with_reducible refine bel_set ?_ ?_ _); rotate_left; (focus first | (simp; done) | (simp; omega)))))) hb); have cA := (fun o => hb.cell (p := ⟨w.heap.size, o, none⟩) (by simp)); clear hb) | (go_at_call 48; refine (impl_within _ _ _ _).mono ?_; rintro e w' ⟨rfl, rfl⟩; rw [HY.out]))
            go_ret
            exact ⟨_, rfl, freshS_nil _ _ HN.out, HB1.out⟩
end Go.Proofs.YtokfhjcllloeeaaDoor
