/- The walk of the reference's OpText. -/
import Derived.Test.YtjglknaojfnllaaDoorFnOpTextB
set_option linter.unusedSimpArgs false
set_option linter.unusedVariables false
namespace Go.Mux
open Go.RowKit
theorem dirT_size (s : ByteArray) : (dirT s).size ≤ s.size + 1 := by
  unfold dirT
  split
  · show 1 ≤ _; omega
  · omega
theorem dirT_ne (s : ByteArray) : ¬ (dirT s).toList = [] := by
  unfold dirT
  split
  · rw [ByteArray.toList_eq]; simp
  · next h => exact h
theorem sideT_size (n : Int) : (sideT n).size ≤ 5 := by
  unfold sideT
  split
  · exact (by decide : (4 : Nat) ≤ 5)
  split
  · exact (by decide : (5 : Nat) ≤ 5)
  split
  · exact (by decide : (2 : Nat) ≤ 5)
  · exact (by decide : (4 : Nat) ≤ 5)
theorem restZ_of {a b c : Int} {n t d : ByteArray} {l : Nat} (h : restZ a b c n t d l = true) : a = 0 ∧ b = 0 ∧ c = 0 ∧ n.toList = [] ∧ t.toList = [] ∧ d.toList = [] ∧ l = 0 := by
  unfold restZ at h
  simpa using h
theorem opOkB_nodir {x : DOp} (h : opOkB x = true) (hd : hasDir x = false) : x.Text.toList = [] ∧ x.Dir.toList = [] := by
  unfold hasDir at hd
  simp only [decide_eq_false_iff_not, not_or] at hd
  unfold opOkB at h
  rw [if_neg (by omega), if_neg (by omega)] at h
  repeat' split at h
  all_goals (try (simp only [Bool.and_eq_true] at h; have r := restZ_of h.2; exact ⟨r.2.2.2.2.1, r.2.2.2.2.2.1⟩))
  cases h
theorem dirOk_nil {s : ByteArray} (h : s.toList = []) : dirOk s = true := by
  have e := eq_none h
  subst e
  unfold dirOk
  rw [hasByte_nil, h]
  simp
theorem opText_nodir {x : DOp} (h : dirOk x.Dir = false) : opText x = ⟨#[]⟩ := by
  refine opText_no ?_
  cases h1 : opOkB x
  · rfl
  cases h2 : hasDir x
  · rw [dirOk_nil (opOkB_nodir h1 h2).2] at h; cases h
  · simp [h]
theorem opText_yes' {x : DOp} (h : opOkB x = true) (hl : hasLine x = true) (hd : dirOk x.Dir = true) {l : List ByteArray} (e : headW x ++ tailW x = l) : opText x = joinT l bl := by
  rw [opText_yes (by rw [h, hl, hd]; simp), e]
theorem opText_noline {x : DOp} (hl : hasLine x = false) : opText x = ⟨#[]⟩ := opText_no (by rw [hl]; simp)
end Go.Mux
namespace Go.Proofs.YtjglknaojfnllaaDoor
open Go.RowKit Go.Mux
set_option maxRecDepth 100000 in
set_option maxHeartbeats 8000000 in
theorem spec_OpText' (w : World) (cs : List Value) (x : DOp) (h : Rep.rep w cs x) (hsz : x.bulk ≤ 1048576) : Calls Tryd.prog 30 #[.agg cs.toArray] w (Gives w fun r _ => r = .string (opText x)) := by
  have HR := Lib.hid h
  obtain ⟨v0, rfl, h0, h1, h2, h3, h4, h5, h6, h7⟩ := DOp.rep_iff.1 h
  obtain ⟨a0, p0, rfl, hl0, -⟩ := h7
  unfold DOp.bulk at hsz
  clear h h0 h1 h2 h3 h4 h5 h6 hl0
  obtain ⟨kd, A, B, C, nm, tx, dr, da⟩ := x
  dsimp only at *
  have hds := dirT_size dr
  have hdz : (dirT dr).size ≤ 1048577 := by omega
  have hdn := dirT_ne dr
  have hzA := numText_size A
  have hzB := numText_size B
  have hzC := numText_size C
  have hzs := sideT_size B
  have t1 : tx.size ≤ 1048576 := by omega
  have t2 : nm.size ≤ 1048576 := by omega
  have n1 : ((dirT dr).toList == []) = false := by simpa using hdn
  have n2 : decide ((dirT dr).toList = []) = false := decide_eq_false hdn
  clear hds
  cases hdk : dirOk dr
  · have HDK := Lib.hid hdk
    have HN := Lib.hid (opText_nodir (x := ⟨kd, A, B, C, nm, tx, dr, da⟩) hdk)
    clear hdk
    cases hok : opOkB ⟨kd, A, B, C, nm, tx, dr, da⟩
    · have HOK := Lib.hid hok
      clear hok
      go_enter Tryd.func30, Tryd.ntmps30
      go_wp2_with fail
      refine (spec_l18Dir _ dr (by omega)).mono ?_
      rintro e W1 ⟨_, rfl, rfl, hb⟩
      rw [HDK.out]
      have HB1 := Lib.hid (bel_next (show Below w.heap.size w _ from (by repeat (first | (with_reducible exact Below.refl _ _) | (with_reducible assumption) | (with_reducible refine bel_alloc ?_ _) | ((with_reducible refine bel_set ?_ ?_ _); rotate_left; (focus first | (simp; done) | (simp; omega)))))) hb)
      have f0 : W1.cell? ⟨w.heap.size, 0, none⟩ = some (.int .i64 kd) := (hb.cell (p := ⟨w.heap.size, 0, none⟩) (by simp)).trans (by simp)
      have f1 : W1.cell? ⟨w.heap.size, 1, none⟩ = some (.int .i64 A) := (hb.cell (p := ⟨w.heap.size, 1, none⟩) (by simp)).trans (by simp)
      have f2 : W1.cell? ⟨w.heap.size, 2, none⟩ = some (.int .i64 B) := (hb.cell (p := ⟨w.heap.size, 2, none⟩) (by simp)).trans (by simp)
      have f3 : W1.cell? ⟨w.heap.size, 3, none⟩ = some (.int .i64 C) := (hb.cell (p := ⟨w.heap.size, 3, none⟩) (by simp)).trans (by simp)
      have f4 : W1.cell? ⟨w.heap.size, 4, none⟩ = some (.string nm) := (hb.cell (p := ⟨w.heap.size, 4, none⟩) (by simp)).trans (by simp)
      have f5 : W1.cell? ⟨w.heap.size, 5, none⟩ = some (.string tx) := (hb.cell (p := ⟨w.heap.size, 5, none⟩) (by simp)).trans (by simp)
      have f6 : W1.cell? ⟨w.heap.size, 6, none⟩ = some (.string dr) := (hb.cell (p := ⟨w.heap.size, 6, none⟩) (by simp)).trans (by simp)
      have f7 : W1.cell? ⟨w.heap.size, 7, none⟩ = some (.slice a0 da.length p0) := (hb.cell (p := ⟨w.heap.size, 7, none⟩) (by simp)).trans (by simp)
      clear hb
      simp only [cond_true, cond_false]
      go_wp2_with fail
      refine (spec_OpOk _ [_, _, _, _, _, _, _, _] ⟨kd, A, B, C, nm, tx, dr, da⟩ (Rep.mono HR.out HB1.out)).mono ?_
      rintro e W2 ⟨_, rfl, rfl, hb⟩
      rw [HOK.out]
      have HB2 := Lib.hid (bel_next HB1.out hb)
      have g0 : W2.cell? ⟨w.heap.size, 0, none⟩ = some (.int .i64 kd) := (hb.cell (p := ⟨w.heap.size, 0, none⟩) (World.block_lt_of_cell? _ _ f0)).trans f0
      have g1 : W2.cell? ⟨w.heap.size, 1, none⟩ = some (.int .i64 A) := (hb.cell (p := ⟨w.heap.size, 1, none⟩) (World.block_lt_of_cell? _ _ f1)).trans f1
      have g2 : W2.cell? ⟨w.heap.size, 2, none⟩ = some (.int .i64 B) := (hb.cell (p := ⟨w.heap.size, 2, none⟩) (World.block_lt_of_cell? _ _ f2)).trans f2
      have g3 : W2.cell? ⟨w.heap.size, 3, none⟩ = some (.int .i64 C) := (hb.cell (p := ⟨w.heap.size, 3, none⟩) (World.block_lt_of_cell? _ _ f3)).trans f3
      have g4 : W2.cell? ⟨w.heap.size, 4, none⟩ = some (.string nm) := (hb.cell (p := ⟨w.heap.size, 4, none⟩) (World.block_lt_of_cell? _ _ f4)).trans f4
      have g5 : W2.cell? ⟨w.heap.size, 5, none⟩ = some (.string tx) := (hb.cell (p := ⟨w.heap.size, 5, none⟩) (World.block_lt_of_cell? _ _ f5)).trans f5
      have g6 : W2.cell? ⟨w.heap.size, 6, none⟩ = some (.string dr) := (hb.cell (p := ⟨w.heap.size, 6, none⟩) (World.block_lt_of_cell? _ _ f6)).trans f6
      have g7 : W2.cell? ⟨w.heap.size, 7, none⟩ = some (.slice a0 da.length p0) := (hb.cell (p := ⟨w.heap.size, 7, none⟩) (World.block_lt_of_cell? _ _ f7)).trans f7
      clear hb f0 f1 f2 f3 f4 f5 f6 f7
      go_wp2_with fail
      go_ret
      exact ⟨_, rfl, by show _ = Value.string _; rw [HN.out] <;> rfl, HB2.out⟩
    · have HOK := Lib.hid hok
      clear hok
      go_enter Tryd.func30, Tryd.ntmps30
      go_wp2_with fail
      refine (spec_l18Dir _ dr (by omega)).mono ?_
      rintro e W1 ⟨_, rfl, rfl, hb⟩
      rw [HDK.out]
      have HB1 := Lib.hid (bel_next (show Below w.heap.size w _ from (by repeat (first | (with_reducible exact Below.refl _ _) | (with_reducible assumption) | (with_reducible refine bel_alloc ?_ _) | ((with_reducible refine bel_set ?_ ?_ _); rotate_left; (focus first | (simp; done) | (simp; omega)))))) hb)
      have f0 : W1.cell? ⟨w.heap.size, 0, none⟩ = some (.int .i64 kd) := (hb.cell (p := ⟨w.heap.size, 0, none⟩) (by simp)).trans (by simp)
      have f1 : W1.cell? ⟨w.heap.size, 1, none⟩ = some (.int .i64 A) := (hb.cell (p := ⟨w.heap.size, 1, none⟩) (by simp)).trans (by simp)
      have f2 : W1.cell? ⟨w.heap.size, 2, none⟩ = some (.int .i64 B) := (hb.cell (p := ⟨w.heap.size, 2, none⟩) (by simp)).trans (by simp)
      have f3 : W1.cell? ⟨w.heap.size, 3, none⟩ = some (.int .i64 C) := (hb.cell (p := ⟨w.heap.size, 3, none⟩) (by simp)).trans (by simp)
      have f4 : W1.cell? ⟨w.heap.size, 4, none⟩ = some (.string nm) := (hb.cell (p := ⟨w.heap.size, 4, none⟩) (by simp)).trans (by simp)
      have f5 : W1.cell? ⟨w.heap.size, 5, none⟩ = some (.string tx) := (hb.cell (p := ⟨w.heap.size, 5, none⟩) (by simp)).trans (by simp)
      have f6 : W1.cell? ⟨w.heap.size, 6, none⟩ = some (.string dr) := (hb.cell (p := ⟨w.heap.size, 6, none⟩) (by simp)).trans (by simp)
      have f7 : W1.cell? ⟨w.heap.size, 7, none⟩ = some (.slice a0 da.length p0) := (hb.cell (p := ⟨w.heap.size, 7, none⟩) (by simp)).trans (by simp)
      clear hb
      simp only [cond_true, cond_false]
      go_wp2_with fail
      refine (spec_OpOk _ [_, _, _, _, _, _, _, _] ⟨kd, A, B, C, nm, tx, dr, da⟩ (Rep.mono HR.out HB1.out)).mono ?_
      rintro e W2 ⟨_, rfl, rfl, hb⟩
      rw [HOK.out]
      have HB2 := Lib.hid (bel_next HB1.out hb)
      have g0 : W2.cell? ⟨w.heap.size, 0, none⟩ = some (.int .i64 kd) := (hb.cell (p := ⟨w.heap.size, 0, none⟩) (World.block_lt_of_cell? _ _ f0)).trans f0
      have g1 : W2.cell? ⟨w.heap.size, 1, none⟩ = some (.int .i64 A) := (hb.cell (p := ⟨w.heap.size, 1, none⟩) (World.block_lt_of_cell? _ _ f1)).trans f1
      have g2 : W2.cell? ⟨w.heap.size, 2, none⟩ = some (.int .i64 B) := (hb.cell (p := ⟨w.heap.size, 2, none⟩) (World.block_lt_of_cell? _ _ f2)).trans f2
      have g3 : W2.cell? ⟨w.heap.size, 3, none⟩ = some (.int .i64 C) := (hb.cell (p := ⟨w.heap.size, 3, none⟩) (World.block_lt_of_cell? _ _ f3)).trans f3
      have g4 : W2.cell? ⟨w.heap.size, 4, none⟩ = some (.string nm) := (hb.cell (p := ⟨w.heap.size, 4, none⟩) (World.block_lt_of_cell? _ _ f4)).trans f4
      have g5 : W2.cell? ⟨w.heap.size, 5, none⟩ = some (.string tx) := (hb.cell (p := ⟨w.heap.size, 5, none⟩) (World.block_lt_of_cell? _ _ f5)).trans f5
      have g6 : W2.cell? ⟨w.heap.size, 6, none⟩ = some (.string dr) := (hb.cell (p := ⟨w.heap.size, 6, none⟩) (World.block_lt_of_cell? _ _ f6)).trans f6
      have g7 : W2.cell? ⟨w.heap.size, 7, none⟩ = some (.slice a0 da.length p0) := (hb.cell (p := ⟨w.heap.size, 7, none⟩) (World.block_lt_of_cell? _ _ f7)).trans f7
      clear hb f0 f1 f2 f3 f4 f5 f6 f7
      go_wp2_with fail
      go_ret
      exact ⟨_, rfl, by show _ = Value.string _; rw [HN.out] <;> rfl, HB2.out⟩
  have HDK := Lib.hid hdk
  clear hdk
  cases hok : opOkB ⟨kd, A, B, C, nm, tx, dr, da⟩
  · have HOK := Lib.hid hok
    have HN := Lib.hid (opText_no (x := ⟨kd, A, B, C, nm, tx, dr, da⟩) (by rw [hok]; rfl))
    clear hok
    go_enter Tryd.func30, Tryd.ntmps30
    go_wp2_with fail
    refine (spec_l18Dir _ dr (by omega)).mono ?_
    rintro e W1 ⟨_, rfl, rfl, hb⟩
    rw [HDK.out]
    have HB1 := Lib.hid (bel_next (show Below w.heap.size w _ from (by repeat (first | (with_reducible exact Below.refl _ _) | (with_reducible assumption) | (with_reducible refine bel_alloc ?_ _) | ((with_reducible refine bel_set ?_ ?_ _); rotate_left; (focus first | (simp; done) | (simp; omega)))))) hb)
    have f0 : W1.cell? ⟨w.heap.size, 0, none⟩ = some (.int .i64 kd) := (hb.cell (p := ⟨w.heap.size, 0, none⟩) (by simp)).trans (by simp)
    have f1 : W1.cell? ⟨w.heap.size, 1, none⟩ = some (.int .i64 A) := (hb.cell (p := ⟨w.heap.size, 1, none⟩) (by simp)).trans (by simp)
    have f2 : W1.cell? ⟨w.heap.size, 2, none⟩ = some (.int .i64 B) := (hb.cell (p := ⟨w.heap.size, 2, none⟩) (by simp)).trans (by simp)
    have f3 : W1.cell? ⟨w.heap.size, 3, none⟩ = some (.int .i64 C) := (hb.cell (p := ⟨w.heap.size, 3, none⟩) (by simp)).trans (by simp)
    have f4 : W1.cell? ⟨w.heap.size, 4, none⟩ = some (.string nm) := (hb.cell (p := ⟨w.heap.size, 4, none⟩) (by simp)).trans (by simp)
    have f5 : W1.cell? ⟨w.heap.size, 5, none⟩ = some (.string tx) := (hb.cell (p := ⟨w.heap.size, 5, none⟩) (by simp)).trans (by simp)
    have f6 : W1.cell? ⟨w.heap.size, 6, none⟩ = some (.string dr) := (hb.cell (p := ⟨w.heap.size, 6, none⟩) (by simp)).trans (by simp)
    have f7 : W1.cell? ⟨w.heap.size, 7, none⟩ = some (.slice a0 da.length p0) := (hb.cell (p := ⟨w.heap.size, 7, none⟩) (by simp)).trans (by simp)
    clear hb
    simp only [cond_true, cond_false]
    go_wp2_with fail
    refine (spec_OpOk _ [_, _, _, _, _, _, _, _] ⟨kd, A, B, C, nm, tx, dr, da⟩ (Rep.mono HR.out HB1.out)).mono ?_
    rintro e W2 ⟨_, rfl, rfl, hb⟩
    rw [HOK.out]
    have HB2 := Lib.hid (bel_next HB1.out hb)
    have g0 : W2.cell? ⟨w.heap.size, 0, none⟩ = some (.int .i64 kd) := (hb.cell (p := ⟨w.heap.size, 0, none⟩) (World.block_lt_of_cell? _ _ f0)).trans f0
    have g1 : W2.cell? ⟨w.heap.size, 1, none⟩ = some (.int .i64 A) := (hb.cell (p := ⟨w.heap.size, 1, none⟩) (World.block_lt_of_cell? _ _ f1)).trans f1
    have g2 : W2.cell? ⟨w.heap.size, 2, none⟩ = some (.int .i64 B) := (hb.cell (p := ⟨w.heap.size, 2, none⟩) (World.block_lt_of_cell? _ _ f2)).trans f2
    have g3 : W2.cell? ⟨w.heap.size, 3, none⟩ = some (.int .i64 C) := (hb.cell (p := ⟨w.heap.size, 3, none⟩) (World.block_lt_of_cell? _ _ f3)).trans f3
    have g4 : W2.cell? ⟨w.heap.size, 4, none⟩ = some (.string nm) := (hb.cell (p := ⟨w.heap.size, 4, none⟩) (World.block_lt_of_cell? _ _ f4)).trans f4
    have g5 : W2.cell? ⟨w.heap.size, 5, none⟩ = some (.string tx) := (hb.cell (p := ⟨w.heap.size, 5, none⟩) (World.block_lt_of_cell? _ _ f5)).trans f5
    have g6 : W2.cell? ⟨w.heap.size, 6, none⟩ = some (.string dr) := (hb.cell (p := ⟨w.heap.size, 6, none⟩) (World.block_lt_of_cell? _ _ f6)).trans f6
    have g7 : W2.cell? ⟨w.heap.size, 7, none⟩ = some (.slice a0 da.length p0) := (hb.cell (p := ⟨w.heap.size, 7, none⟩) (World.block_lt_of_cell? _ _ f7)).trans f7
    clear hb f0 f1 f2 f3 f4 f5 f6 f7
    go_wp2_with fail
    go_ret
    exact ⟨_, rfl, by show _ = Value.string _; rw [HN.out] <;> rfl, HB2.out⟩
  have HOK := Lib.hid hok
  clear hok
  by_cases hk1 : kd = 1
  · subst hk1
    by_cases hT : tx.toList = []
    · have dT : decide (tx.toList = []) = true := decide_eq_true hT
      have eT : (tx.toList == []) = true := by simpa using hT
      have nT : (tx.toList != []) = false := by simpa using hT
      have HN := Lib.hid (show opText ⟨1, A, B, C, nm, tx, dr, da⟩ = (((⟨#[110, 101, 119, 32]⟩ : ByteArray) ++ nm) ++ (⟨#[32]⟩ : ByteArray)) ++ dirT dr from by
        rw [opText_yes' HOK.out (by simp [hasLine]) HDK.out (l := [(⟨#[110, 101, 119]⟩ : ByteArray), nm, dirT dr]) (by simp [headW, tailW, hasDir, hT]), joinT3]
        refine Go.WideShapes.bytes_inj ?_
        unfold bl
        simp [ByteArray.toList_data_append])
      clear hT
      go_enter Tryd.func30, Tryd.ntmps30
      go_wp2_with fail
      refine (spec_l18Dir _ dr (by omega)).mono ?_
      rintro e W1 ⟨_, rfl, rfl, hb⟩
      rw [HDK.out]
      have HB1 := Lib.hid (bel_next (show Below w.heap.size w _ from (by repeat (first | (with_reducible exact Below.refl _ _) | (with_reducible assumption) | (with_reducible refine bel_alloc ?_ _) | ((with_reducible refine bel_set ?_ ?_ _); rotate_left; (focus first | (simp; done) | (simp; omega)))))) hb)
      have f0 : W1.cell? ⟨w.heap.size, 0, none⟩ = some (.int .i64 1) := (hb.cell (p := ⟨w.heap.size, 0, none⟩) (by simp)).trans (by simp)
      have f1 : W1.cell? ⟨w.heap.size, 1, none⟩ = some (.int .i64 A) := (hb.cell (p := ⟨w.heap.size, 1, none⟩) (by simp)).trans (by simp)
      have f2 : W1.cell? ⟨w.heap.size, 2, none⟩ = some (.int .i64 B) := (hb.cell (p := ⟨w.heap.size, 2, none⟩) (by simp)).trans (by simp)
      have f3 : W1.cell? ⟨w.heap.size, 3, none⟩ = some (.int .i64 C) := (hb.cell (p := ⟨w.heap.size, 3, none⟩) (by simp)).trans (by simp)
      have f4 : W1.cell? ⟨w.heap.size, 4, none⟩ = some (.string nm) := (hb.cell (p := ⟨w.heap.size, 4, none⟩) (by simp)).trans (by simp)
      have f5 : W1.cell? ⟨w.heap.size, 5, none⟩ = some (.string tx) := (hb.cell (p := ⟨w.heap.size, 5, none⟩) (by simp)).trans (by simp)
      have f6 : W1.cell? ⟨w.heap.size, 6, none⟩ = some (.string dr) := (hb.cell (p := ⟨w.heap.size, 6, none⟩) (by simp)).trans (by simp)
      have f7 : W1.cell? ⟨w.heap.size, 7, none⟩ = some (.slice a0 da.length p0) := (hb.cell (p := ⟨w.heap.size, 7, none⟩) (by simp)).trans (by simp)
      clear hb
      simp only [cond_true, cond_false]
      go_wp2_with fail
      refine (spec_OpOk _ [_, _, _, _, _, _, _, _] ⟨1, A, B, C, nm, tx, dr, da⟩ (Rep.mono HR.out HB1.out)).mono ?_
      rintro e W2 ⟨_, rfl, rfl, hb⟩
      rw [HOK.out]
      have HB2 := Lib.hid (bel_next HB1.out hb)
      have g0 : W2.cell? ⟨w.heap.size, 0, none⟩ = some (.int .i64 1) := (hb.cell (p := ⟨w.heap.size, 0, none⟩) (World.block_lt_of_cell? _ _ f0)).trans f0
      have g1 : W2.cell? ⟨w.heap.size, 1, none⟩ = some (.int .i64 A) := (hb.cell (p := ⟨w.heap.size, 1, none⟩) (World.block_lt_of_cell? _ _ f1)).trans f1
      have g2 : W2.cell? ⟨w.heap.size, 2, none⟩ = some (.int .i64 B) := (hb.cell (p := ⟨w.heap.size, 2, none⟩) (World.block_lt_of_cell? _ _ f2)).trans f2
      have g3 : W2.cell? ⟨w.heap.size, 3, none⟩ = some (.int .i64 C) := (hb.cell (p := ⟨w.heap.size, 3, none⟩) (World.block_lt_of_cell? _ _ f3)).trans f3
      have g4 : W2.cell? ⟨w.heap.size, 4, none⟩ = some (.string nm) := (hb.cell (p := ⟨w.heap.size, 4, none⟩) (World.block_lt_of_cell? _ _ f4)).trans f4
      have g5 : W2.cell? ⟨w.heap.size, 5, none⟩ = some (.string tx) := (hb.cell (p := ⟨w.heap.size, 5, none⟩) (World.block_lt_of_cell? _ _ f5)).trans f5
      have g6 : W2.cell? ⟨w.heap.size, 6, none⟩ = some (.string dr) := (hb.cell (p := ⟨w.heap.size, 6, none⟩) (World.block_lt_of_cell? _ _ f6)).trans f6
      have g7 : W2.cell? ⟨w.heap.size, 7, none⟩ = some (.slice a0 da.length p0) := (hb.cell (p := ⟨w.heap.size, 7, none⟩) (World.block_lt_of_cell? _ _ f7)).trans f7
      clear hb f0 f1 f2 f3 f4 f5 f6 f7
      go_wp2_with fail
      refine (spec_NumText _ _).mono ?_
      rintro e W3 ⟨_, rfl, rfl, hb⟩
      have HB3 := Lib.hid (bel_next HB2.out hb)
      have fu0 : W3.cell? ⟨w.heap.size, 0, none⟩ = some (.int .i64 1) := (hb.cell (p := ⟨w.heap.size, 0, none⟩) (World.block_lt_of_cell? _ _ g0)).trans g0
      have fu1 : W3.cell? ⟨w.heap.size, 1, none⟩ = some (.int .i64 A) := (hb.cell (p := ⟨w.heap.size, 1, none⟩) (World.block_lt_of_cell? _ _ g1)).trans g1
      have fu2 : W3.cell? ⟨w.heap.size, 2, none⟩ = some (.int .i64 B) := (hb.cell (p := ⟨w.heap.size, 2, none⟩) (World.block_lt_of_cell? _ _ g2)).trans g2
      have fu3 : W3.cell? ⟨w.heap.size, 3, none⟩ = some (.int .i64 C) := (hb.cell (p := ⟨w.heap.size, 3, none⟩) (World.block_lt_of_cell? _ _ g3)).trans g3
      have fu4 : W3.cell? ⟨w.heap.size, 4, none⟩ = some (.string nm) := (hb.cell (p := ⟨w.heap.size, 4, none⟩) (World.block_lt_of_cell? _ _ g4)).trans g4
      have fu5 : W3.cell? ⟨w.heap.size, 5, none⟩ = some (.string tx) := (hb.cell (p := ⟨w.heap.size, 5, none⟩) (World.block_lt_of_cell? _ _ g5)).trans g5
      have fu6 : W3.cell? ⟨w.heap.size, 6, none⟩ = some (.string dr) := (hb.cell (p := ⟨w.heap.size, 6, none⟩) (World.block_lt_of_cell? _ _ g6)).trans g6
      have fu7 : W3.cell? ⟨w.heap.size, 7, none⟩ = some (.slice a0 da.length p0) := (hb.cell (p := ⟨w.heap.size, 7, none⟩) (World.block_lt_of_cell? _ _ g7)).trans g7
      clear hb g0 g1 g2 g3 g4 g5 g6 g7
      go_wp2_with fail
      refine (spec_NumText _ _).mono ?_
      rintro e W4 ⟨_, rfl, rfl, hb⟩
      have HB4 := Lib.hid (bel_next HB3.out hb)
      have fk0 : W4.cell? ⟨w.heap.size, 0, none⟩ = some (.int .i64 1) := (hb.cell (p := ⟨w.heap.size, 0, none⟩) (World.block_lt_of_cell? _ _ fu0)).trans fu0
      have fk1 : W4.cell? ⟨w.heap.size, 1, none⟩ = some (.int .i64 A) := (hb.cell (p := ⟨w.heap.size, 1, none⟩) (World.block_lt_of_cell? _ _ fu1)).trans fu1
      have fk2 : W4.cell? ⟨w.heap.size, 2, none⟩ = some (.int .i64 B) := (hb.cell (p := ⟨w.heap.size, 2, none⟩) (World.block_lt_of_cell? _ _ fu2)).trans fu2
      have fk3 : W4.cell? ⟨w.heap.size, 3, none⟩ = some (.int .i64 C) := (hb.cell (p := ⟨w.heap.size, 3, none⟩) (World.block_lt_of_cell? _ _ fu3)).trans fu3
      have fk4 : W4.cell? ⟨w.heap.size, 4, none⟩ = some (.string nm) := (hb.cell (p := ⟨w.heap.size, 4, none⟩) (World.block_lt_of_cell? _ _ fu4)).trans fu4
      have fk5 : W4.cell? ⟨w.heap.size, 5, none⟩ = some (.string tx) := (hb.cell (p := ⟨w.heap.size, 5, none⟩) (World.block_lt_of_cell? _ _ fu5)).trans fu5
      have fk6 : W4.cell? ⟨w.heap.size, 6, none⟩ = some (.string dr) := (hb.cell (p := ⟨w.heap.size, 6, none⟩) (World.block_lt_of_cell? _ _ fu6)).trans fu6
      have fk7 : W4.cell? ⟨w.heap.size, 7, none⟩ = some (.slice a0 da.length p0) := (hb.cell (p := ⟨w.heap.size, 7, none⟩) (World.block_lt_of_cell? _ _ fu7)).trans fu7
      clear hb fu0 fu1 fu2 fu3 fu4 fu5 fu6 fu7
      go_wp2_with fail
      go_ret
      exact ⟨_, rfl, by show _ = Value.string _; rw [HN.out] <;> rfl, HB4.out⟩
    · have dT : decide (tx.toList = []) = false := decide_eq_false hT
      have eT : (tx.toList == []) = false := by simpa using hT
      have nT : (tx.toList != []) = true := by simpa using hT
      have HN := Lib.hid (show opText ⟨1, A, B, C, nm, tx, dr, da⟩ = (((⟨#[110, 101, 119, 32]⟩ : ByteArray) ++ nm) ++ (⟨#[32]⟩ : ByteArray)) ++ ((dirT dr ++ (⟨#[32]⟩ : ByteArray)) ++ tx) from by
        rw [opText_yes' HOK.out (by simp [hasLine]) HDK.out (l := [(⟨#[110, 101, 119]⟩ : ByteArray), nm, dirT dr, tx]) (by simp [headW, tailW, hasDir, hT]), joinT4]
        refine Go.WideShapes.bytes_inj ?_
        unfold bl
        simp [ByteArray.toList_data_append])
      clear hT
      go_enter Tryd.func30, Tryd.ntmps30
      go_wp2_with fail
      refine (spec_l18Dir _ dr (by omega)).mono ?_
      rintro e W1 ⟨_, rfl, rfl, hb⟩
      rw [HDK.out]
      have HB1 := Lib.hid (bel_next (show Below w.heap.size w _ from (by repeat (first | (with_reducible exact Below.refl _ _) | (with_reducible assumption) | (with_reducible refine bel_alloc ?_ _) | ((with_reducible refine bel_set ?_ ?_ _); rotate_left; (focus first | (simp; done) | (simp; omega)))))) hb)
      have f0 : W1.cell? ⟨w.heap.size, 0, none⟩ = some (.int .i64 1) := (hb.cell (p := ⟨w.heap.size, 0, none⟩) (by simp)).trans (by simp)
      have f1 : W1.cell? ⟨w.heap.size, 1, none⟩ = some (.int .i64 A) := (hb.cell (p := ⟨w.heap.size, 1, none⟩) (by simp)).trans (by simp)
      have f2 : W1.cell? ⟨w.heap.size, 2, none⟩ = some (.int .i64 B) := (hb.cell (p := ⟨w.heap.size, 2, none⟩) (by simp)).trans (by simp)
      have f3 : W1.cell? ⟨w.heap.size, 3, none⟩ = some (.int .i64 C) := (hb.cell (p := ⟨w.heap.size, 3, none⟩) (by simp)).trans (by simp)
      have f4 : W1.cell? ⟨w.heap.size, 4, none⟩ = some (.string nm) := (hb.cell (p := ⟨w.heap.size, 4, none⟩) (by simp)).trans (by simp)
      have f5 : W1.cell? ⟨w.heap.size, 5, none⟩ = some (.string tx) := (hb.cell (p := ⟨w.heap.size, 5, none⟩) (by simp)).trans (by simp)
      have f6 : W1.cell? ⟨w.heap.size, 6, none⟩ = some (.string dr) := (hb.cell (p := ⟨w.heap.size, 6, none⟩) (by simp)).trans (by simp)
      have f7 : W1.cell? ⟨w.heap.size, 7, none⟩ = some (.slice a0 da.length p0) := (hb.cell (p := ⟨w.heap.size, 7, none⟩) (by simp)).trans (by simp)
      clear hb
      simp only [cond_true, cond_false]
      go_wp2_with fail
      refine (spec_OpOk _ [_, _, _, _, _, _, _, _] ⟨1, A, B, C, nm, tx, dr, da⟩ (Rep.mono HR.out HB1.out)).mono ?_
      rintro e W2 ⟨_, rfl, rfl, hb⟩
      rw [HOK.out]
      have HB2 := Lib.hid (bel_next HB1.out hb)
      have g0 : W2.cell? ⟨w.heap.size, 0, none⟩ = some (.int .i64 1) := (hb.cell (p := ⟨w.heap.size, 0, none⟩) (World.block_lt_of_cell? _ _ f0)).trans f0
      have g1 : W2.cell? ⟨w.heap.size, 1, none⟩ = some (.int .i64 A) := (hb.cell (p := ⟨w.heap.size, 1, none⟩) (World.block_lt_of_cell? _ _ f1)).trans f1
      have g2 : W2.cell? ⟨w.heap.size, 2, none⟩ = some (.int .i64 B) := (hb.cell (p := ⟨w.heap.size, 2, none⟩) (World.block_lt_of_cell? _ _ f2)).trans f2
      have g3 : W2.cell? ⟨w.heap.size, 3, none⟩ = some (.int .i64 C) := (hb.cell (p := ⟨w.heap.size, 3, none⟩) (World.block_lt_of_cell? _ _ f3)).trans f3
      have g4 : W2.cell? ⟨w.heap.size, 4, none⟩ = some (.string nm) := (hb.cell (p := ⟨w.heap.size, 4, none⟩) (World.block_lt_of_cell? _ _ f4)).trans f4
      have g5 : W2.cell? ⟨w.heap.size, 5, none⟩ = some (.string tx) := (hb.cell (p := ⟨w.heap.size, 5, none⟩) (World.block_lt_of_cell? _ _ f5)).trans f5
      have g6 : W2.cell? ⟨w.heap.size, 6, none⟩ = some (.string dr) := (hb.cell (p := ⟨w.heap.size, 6, none⟩) (World.block_lt_of_cell? _ _ f6)).trans f6
      have g7 : W2.cell? ⟨w.heap.size, 7, none⟩ = some (.slice a0 da.length p0) := (hb.cell (p := ⟨w.heap.size, 7, none⟩) (World.block_lt_of_cell? _ _ f7)).trans f7
      clear hb f0 f1 f2 f3 f4 f5 f6 f7
      go_wp2_with fail
      refine (spec_NumText _ _).mono ?_
      rintro e W3 ⟨_, rfl, rfl, hb⟩
      have HB3 := Lib.hid (bel_next HB2.out hb)
      have fu0 : W3.cell? ⟨w.heap.size, 0, none⟩ = some (.int .i64 1) := (hb.cell (p := ⟨w.heap.size, 0, none⟩) (World.block_lt_of_cell? _ _ g0)).trans g0
      have fu1 : W3.cell? ⟨w.heap.size, 1, none⟩ = some (.int .i64 A) := (hb.cell (p := ⟨w.heap.size, 1, none⟩) (World.block_lt_of_cell? _ _ g1)).trans g1
      have fu2 : W3.cell? ⟨w.heap.size, 2, none⟩ = some (.int .i64 B) := (hb.cell (p := ⟨w.heap.size, 2, none⟩) (World.block_lt_of_cell? _ _ g2)).trans g2
      have fu3 : W3.cell? ⟨w.heap.size, 3, none⟩ = some (.int .i64 C) := (hb.cell (p := ⟨w.heap.size, 3, none⟩) (World.block_lt_of_cell? _ _ g3)).trans g3
      have fu4 : W3.cell? ⟨w.heap.size, 4, none⟩ = some (.string nm) := (hb.cell (p := ⟨w.heap.size, 4, none⟩) (World.block_lt_of_cell? _ _ g4)).trans g4
      have fu5 : W3.cell? ⟨w.heap.size, 5, none⟩ = some (.string tx) := (hb.cell (p := ⟨w.heap.size, 5, none⟩) (World.block_lt_of_cell? _ _ g5)).trans g5
      have fu6 : W3.cell? ⟨w.heap.size, 6, none⟩ = some (.string dr) := (hb.cell (p := ⟨w.heap.size, 6, none⟩) (World.block_lt_of_cell? _ _ g6)).trans g6
      have fu7 : W3.cell? ⟨w.heap.size, 7, none⟩ = some (.slice a0 da.length p0) := (hb.cell (p := ⟨w.heap.size, 7, none⟩) (World.block_lt_of_cell? _ _ g7)).trans g7
      clear hb g0 g1 g2 g3 g4 g5 g6 g7
      go_wp2_with fail
      refine (spec_NumText _ _).mono ?_
      rintro e W4 ⟨_, rfl, rfl, hb⟩
      have HB4 := Lib.hid (bel_next HB3.out hb)
      have fk0 : W4.cell? ⟨w.heap.size, 0, none⟩ = some (.int .i64 1) := (hb.cell (p := ⟨w.heap.size, 0, none⟩) (World.block_lt_of_cell? _ _ fu0)).trans fu0
      have fk1 : W4.cell? ⟨w.heap.size, 1, none⟩ = some (.int .i64 A) := (hb.cell (p := ⟨w.heap.size, 1, none⟩) (World.block_lt_of_cell? _ _ fu1)).trans fu1
      have fk2 : W4.cell? ⟨w.heap.size, 2, none⟩ = some (.int .i64 B) := (hb.cell (p := ⟨w.heap.size, 2, none⟩) (World.block_lt_of_cell? _ _ fu2)).trans fu2
      have fk3 : W4.cell? ⟨w.heap.size, 3, none⟩ = some (.int .i64 C) := (hb.cell (p := ⟨w.heap.size, 3, none⟩) (World.block_lt_of_cell? _ _ fu3)).trans fu3
      have fk4 : W4.cell? ⟨w.heap.size, 4, none⟩ = some (.string nm) := (hb.cell (p := ⟨w.heap.size, 4, none⟩) (World.block_lt_of_cell? _ _ fu4)).trans fu4
      have fk5 : W4.cell? ⟨w.heap.size, 5, none⟩ = some (.string tx) := (hb.cell (p := ⟨w.heap.size, 5, none⟩) (World.block_lt_of_cell? _ _ fu5)).trans fu5
      have fk6 : W4.cell? ⟨w.heap.size, 6, none⟩ = some (.string dr) := (hb.cell (p := ⟨w.heap.size, 6, none⟩) (World.block_lt_of_cell? _ _ fu6)).trans fu6
      have fk7 : W4.cell? ⟨w.heap.size, 7, none⟩ = some (.slice a0 da.length p0) := (hb.cell (p := ⟨w.heap.size, 7, none⟩) (World.block_lt_of_cell? _ _ fu7)).trans fu7
      clear hb fu0 fu1 fu2 fu3 fu4 fu5 fu6 fu7
      go_wp2_with fail
      go_ret
      exact ⟨_, rfl, by show _ = Value.string _; rw [HN.out] <;> rfl, HB4.out⟩
  by_cases hk2 : kd = 2
  · subst hk2
    clear hk1
    by_cases hT : tx.toList = []
    · have dT : decide (tx.toList = []) = true := decide_eq_true hT
      have eT : (tx.toList == []) = true := by simpa using hT
      have nT : (tx.toList != []) = false := by simpa using hT
      have HN := Lib.hid (show opText ⟨2, A, B, C, nm, tx, dr, da⟩ = (((⟨#[119, 105, 110, 100, 111, 119, 32]⟩ : ByteArray) ++ nm) ++ (⟨#[32]⟩ : ByteArray)) ++ dirT dr from by
        rw [opText_yes' HOK.out (by simp [hasLine]) HDK.out (l := [(⟨#[119, 105, 110, 100, 111, 119]⟩ : ByteArray), nm, dirT dr]) (by simp [headW, tailW, hasDir, hT]), joinT3]
        refine Go.WideShapes.bytes_inj ?_
        unfold bl
        simp [ByteArray.toList_data_append])
      clear hT
      go_enter Tryd.func30, Tryd.ntmps30
      go_wp2_with fail
      refine (spec_l18Dir _ dr (by omega)).mono ?_
      rintro e W1 ⟨_, rfl, rfl, hb⟩
      rw [HDK.out]
      have HB1 := Lib.hid (bel_next (show Below w.heap.size w _ from (by repeat (first | (with_reducible exact Below.refl _ _) | (with_reducible assumption) | (with_reducible refine bel_alloc ?_ _) | ((with_reducible refine bel_set ?_ ?_ _); rotate_left; (focus first | (simp; done) | (simp; omega)))))) hb)
      have f0 : W1.cell? ⟨w.heap.size, 0, none⟩ = some (.int .i64 2) := (hb.cell (p := ⟨w.heap.size, 0, none⟩) (by simp)).trans (by simp)
      have f1 : W1.cell? ⟨w.heap.size, 1, none⟩ = some (.int .i64 A) := (hb.cell (p := ⟨w.heap.size, 1, none⟩) (by simp)).trans (by simp)
      have f2 : W1.cell? ⟨w.heap.size, 2, none⟩ = some (.int .i64 B) := (hb.cell (p := ⟨w.heap.size, 2, none⟩) (by simp)).trans (by simp)
      have f3 : W1.cell? ⟨w.heap.size, 3, none⟩ = some (.int .i64 C) := (hb.cell (p := ⟨w.heap.size, 3, none⟩) (by simp)).trans (by simp)
      have f4 : W1.cell? ⟨w.heap.size, 4, none⟩ = some (.string nm) := (hb.cell (p := ⟨w.heap.size, 4, none⟩) (by simp)).trans (by simp)
      have f5 : W1.cell? ⟨w.heap.size, 5, none⟩ = some (.string tx) := (hb.cell (p := ⟨w.heap.size, 5, none⟩) (by simp)).trans (by simp)
      have f6 : W1.cell? ⟨w.heap.size, 6, none⟩ = some (.string dr) := (hb.cell (p := ⟨w.heap.size, 6, none⟩) (by simp)).trans (by simp)
      have f7 : W1.cell? ⟨w.heap.size, 7, none⟩ = some (.slice a0 da.length p0) := (hb.cell (p := ⟨w.heap.size, 7, none⟩) (by simp)).trans (by simp)
      clear hb
      simp only [cond_true, cond_false]
      go_wp2_with fail
      refine (spec_OpOk _ [_, _, _, _, _, _, _, _] ⟨2, A, B, C, nm, tx, dr, da⟩ (Rep.mono HR.out HB1.out)).mono ?_
      rintro e W2 ⟨_, rfl, rfl, hb⟩
      rw [HOK.out]
      have HB2 := Lib.hid (bel_next HB1.out hb)
      have g0 : W2.cell? ⟨w.heap.size, 0, none⟩ = some (.int .i64 2) := (hb.cell (p := ⟨w.heap.size, 0, none⟩) (World.block_lt_of_cell? _ _ f0)).trans f0
      have g1 : W2.cell? ⟨w.heap.size, 1, none⟩ = some (.int .i64 A) := (hb.cell (p := ⟨w.heap.size, 1, none⟩) (World.block_lt_of_cell? _ _ f1)).trans f1
      have g2 : W2.cell? ⟨w.heap.size, 2, none⟩ = some (.int .i64 B) := (hb.cell (p := ⟨w.heap.size, 2, none⟩) (World.block_lt_of_cell? _ _ f2)).trans f2
      have g3 : W2.cell? ⟨w.heap.size, 3, none⟩ = some (.int .i64 C) := (hb.cell (p := ⟨w.heap.size, 3, none⟩) (World.block_lt_of_cell? _ _ f3)).trans f3
      have g4 : W2.cell? ⟨w.heap.size, 4, none⟩ = some (.string nm) := (hb.cell (p := ⟨w.heap.size, 4, none⟩) (World.block_lt_of_cell? _ _ f4)).trans f4
      have g5 : W2.cell? ⟨w.heap.size, 5, none⟩ = some (.string tx) := (hb.cell (p := ⟨w.heap.size, 5, none⟩) (World.block_lt_of_cell? _ _ f5)).trans f5
      have g6 : W2.cell? ⟨w.heap.size, 6, none⟩ = some (.string dr) := (hb.cell (p := ⟨w.heap.size, 6, none⟩) (World.block_lt_of_cell? _ _ f6)).trans f6
      have g7 : W2.cell? ⟨w.heap.size, 7, none⟩ = some (.slice a0 da.length p0) := (hb.cell (p := ⟨w.heap.size, 7, none⟩) (World.block_lt_of_cell? _ _ f7)).trans f7
      clear hb f0 f1 f2 f3 f4 f5 f6 f7
      go_wp2_with fail
      refine (spec_NumText _ _).mono ?_
      rintro e W3 ⟨_, rfl, rfl, hb⟩
      have HB3 := Lib.hid (bel_next HB2.out hb)
      have fu0 : W3.cell? ⟨w.heap.size, 0, none⟩ = some (.int .i64 2) := (hb.cell (p := ⟨w.heap.size, 0, none⟩) (World.block_lt_of_cell? _ _ g0)).trans g0
      have fu1 : W3.cell? ⟨w.heap.size, 1, none⟩ = some (.int .i64 A) := (hb.cell (p := ⟨w.heap.size, 1, none⟩) (World.block_lt_of_cell? _ _ g1)).trans g1
      have fu2 : W3.cell? ⟨w.heap.size, 2, none⟩ = some (.int .i64 B) := (hb.cell (p := ⟨w.heap.size, 2, none⟩) (World.block_lt_of_cell? _ _ g2)).trans g2
      have fu3 : W3.cell? ⟨w.heap.size, 3, none⟩ = some (.int .i64 C) := (hb.cell (p := ⟨w.heap.size, 3, none⟩) (World.block_lt_of_cell? _ _ g3)).trans g3
      have fu4 : W3.cell? ⟨w.heap.size, 4, none⟩ = some (.string nm) := (hb.cell (p := ⟨w.heap.size, 4, none⟩) (World.block_lt_of_cell? _ _ g4)).trans g4
      have fu5 : W3.cell? ⟨w.heap.size, 5, none⟩ = some (.string tx) := (hb.cell (p := ⟨w.heap.size, 5, none⟩) (World.block_lt_of_cell? _ _ g5)).trans g5
      have fu6 : W3.cell? ⟨w.heap.size, 6, none⟩ = some (.string dr) := (hb.cell (p := ⟨w.heap.size, 6, none⟩) (World.block_lt_of_cell? _ _ g6)).trans g6
      have fu7 : W3.cell? ⟨w.heap.size, 7, none⟩ = some (.slice a0 da.length p0) := (hb.cell (p := ⟨w.heap.size, 7, none⟩) (World.block_lt_of_cell? _ _ g7)).trans g7
      clear hb g0 g1 g2 g3 g4 g5 g6 g7
      go_wp2_with fail
      refine (spec_NumText _ _).mono ?_
      rintro e W4 ⟨_, rfl, rfl, hb⟩
      have HB4 := Lib.hid (bel_next HB3.out hb)
      have fk0 : W4.cell? ⟨w.heap.size, 0, none⟩ = some (.int .i64 2) := (hb.cell (p := ⟨w.heap.size, 0, none⟩) (World.block_lt_of_cell? _ _ fu0)).trans fu0
      have fk1 : W4.cell? ⟨w.heap.size, 1, none⟩ = some (.int .i64 A) := (hb.cell (p := ⟨w.heap.size, 1, none⟩) (World.block_lt_of_cell? _ _ fu1)).trans fu1
      have fk2 : W4.cell? ⟨w.heap.size, 2, none⟩ = some (.int .i64 B) := (hb.cell (p := ⟨w.heap.size, 2, none⟩) (World.block_lt_of_cell? _ _ fu2)).trans fu2
      have fk3 : W4.cell? ⟨w.heap.size, 3, none⟩ = some (.int .i64 C) := (hb.cell (p := ⟨w.heap.size, 3, none⟩) (World.block_lt_of_cell? _ _ fu3)).trans fu3
      have fk4 : W4.cell? ⟨w.heap.size, 4, none⟩ = some (.string nm) := (hb.cell (p := ⟨w.heap.size, 4, none⟩) (World.block_lt_of_cell? _ _ fu4)).trans fu4
      have fk5 : W4.cell? ⟨w.heap.size, 5, none⟩ = some (.string tx) := (hb.cell (p := ⟨w.heap.size, 5, none⟩) (World.block_lt_of_cell? _ _ fu5)).trans fu5
      have fk6 : W4.cell? ⟨w.heap.size, 6, none⟩ = some (.string dr) := (hb.cell (p := ⟨w.heap.size, 6, none⟩) (World.block_lt_of_cell? _ _ fu6)).trans fu6
      have fk7 : W4.cell? ⟨w.heap.size, 7, none⟩ = some (.slice a0 da.length p0) := (hb.cell (p := ⟨w.heap.size, 7, none⟩) (World.block_lt_of_cell? _ _ fu7)).trans fu7
      clear hb fu0 fu1 fu2 fu3 fu4 fu5 fu6 fu7
      go_wp2_with fail
      go_ret
      exact ⟨_, rfl, by show _ = Value.string _; rw [HN.out] <;> rfl, HB4.out⟩
    · have dT : decide (tx.toList = []) = false := decide_eq_false hT
      have eT : (tx.toList == []) = false := by simpa using hT
      have nT : (tx.toList != []) = true := by simpa using hT
      have HN := Lib.hid (show opText ⟨2, A, B, C, nm, tx, dr, da⟩ = (((⟨#[119, 105, 110, 100, 111, 119, 32]⟩ : ByteArray) ++ nm) ++ (⟨#[32]⟩ : ByteArray)) ++ ((dirT dr ++ (⟨#[32]⟩ : ByteArray)) ++ tx) from by
        rw [opText_yes' HOK.out (by simp [hasLine]) HDK.out (l := [(⟨#[119, 105, 110, 100, 111, 119]⟩ : ByteArray), nm, dirT dr, tx]) (by simp [headW, tailW, hasDir, hT]), joinT4]
        refine Go.WideShapes.bytes_inj ?_
        unfold bl
        simp [ByteArray.toList_data_append])
      clear hT
      go_enter Tryd.func30, Tryd.ntmps30
      go_wp2_with fail
      refine (spec_l18Dir _ dr (by omega)).mono ?_
      rintro e W1 ⟨_, rfl, rfl, hb⟩
      rw [HDK.out]
      have HB1 := Lib.hid (bel_next (show Below w.heap.size w _ from (by repeat (first | (with_reducible exact Below.refl _ _) | (with_reducible assumption) | (with_reducible refine bel_alloc ?_ _) | ((with_reducible refine bel_set ?_ ?_ _); rotate_left; (focus first | (simp; done) | (simp; omega)))))) hb)
      have f0 : W1.cell? ⟨w.heap.size, 0, none⟩ = some (.int .i64 2) := (hb.cell (p := ⟨w.heap.size, 0, none⟩) (by simp)).trans (by simp)
      have f1 : W1.cell? ⟨w.heap.size, 1, none⟩ = some (.int .i64 A) := (hb.cell (p := ⟨w.heap.size, 1, none⟩) (by simp)).trans (by simp)
      have f2 : W1.cell? ⟨w.heap.size, 2, none⟩ = some (.int .i64 B) := (hb.cell (p := ⟨w.heap.size, 2, none⟩) (by simp)).trans (by simp)
      have f3 : W1.cell? ⟨w.heap.size, 3, none⟩ = some (.int .i64 C) := (hb.cell (p := ⟨w.heap.size, 3, none⟩) (by simp)).trans (by simp)
      have f4 : W1.cell? ⟨w.heap.size, 4, none⟩ = some (.string nm) := (hb.cell (p := ⟨w.heap.size, 4, none⟩) (by simp)).trans (by simp)
      have f5 : W1.cell? ⟨w.heap.size, 5, none⟩ = some (.string tx) := (hb.cell (p := ⟨w.heap.size, 5, none⟩) (by simp)).trans (by simp)
      have f6 : W1.cell? ⟨w.heap.size, 6, none⟩ = some (.string dr) := (hb.cell (p := ⟨w.heap.size, 6, none⟩) (by simp)).trans (by simp)
      have f7 : W1.cell? ⟨w.heap.size, 7, none⟩ = some (.slice a0 da.length p0) := (hb.cell (p := ⟨w.heap.size, 7, none⟩) (by simp)).trans (by simp)
      clear hb
      simp only [cond_true, cond_false]
      go_wp2_with fail
      refine (spec_OpOk _ [_, _, _, _, _, _, _, _] ⟨2, A, B, C, nm, tx, dr, da⟩ (Rep.mono HR.out HB1.out)).mono ?_
      rintro e W2 ⟨_, rfl, rfl, hb⟩
      rw [HOK.out]
      have HB2 := Lib.hid (bel_next HB1.out hb)
      have g0 : W2.cell? ⟨w.heap.size, 0, none⟩ = some (.int .i64 2) := (hb.cell (p := ⟨w.heap.size, 0, none⟩) (World.block_lt_of_cell? _ _ f0)).trans f0
      have g1 : W2.cell? ⟨w.heap.size, 1, none⟩ = some (.int .i64 A) := (hb.cell (p := ⟨w.heap.size, 1, none⟩) (World.block_lt_of_cell? _ _ f1)).trans f1
      have g2 : W2.cell? ⟨w.heap.size, 2, none⟩ = some (.int .i64 B) := (hb.cell (p := ⟨w.heap.size, 2, none⟩) (World.block_lt_of_cell? _ _ f2)).trans f2
      have g3 : W2.cell? ⟨w.heap.size, 3, none⟩ = some (.int .i64 C) := (hb.cell (p := ⟨w.heap.size, 3, none⟩) (World.block_lt_of_cell? _ _ f3)).trans f3
      have g4 : W2.cell? ⟨w.heap.size, 4, none⟩ = some (.string nm) := (hb.cell (p := ⟨w.heap.size, 4, none⟩) (World.block_lt_of_cell? _ _ f4)).trans f4
      have g5 : W2.cell? ⟨w.heap.size, 5, none⟩ = some (.string tx) := (hb.cell (p := ⟨w.heap.size, 5, none⟩) (World.block_lt_of_cell? _ _ f5)).trans f5
      have g6 : W2.cell? ⟨w.heap.size, 6, none⟩ = some (.string dr) := (hb.cell (p := ⟨w.heap.size, 6, none⟩) (World.block_lt_of_cell? _ _ f6)).trans f6
      have g7 : W2.cell? ⟨w.heap.size, 7, none⟩ = some (.slice a0 da.length p0) := (hb.cell (p := ⟨w.heap.size, 7, none⟩) (World.block_lt_of_cell? _ _ f7)).trans f7
      clear hb f0 f1 f2 f3 f4 f5 f6 f7
      go_wp2_with fail
      refine (spec_NumText _ _).mono ?_
      rintro e W3 ⟨_, rfl, rfl, hb⟩
      have HB3 := Lib.hid (bel_next HB2.out hb)
      have fu0 : W3.cell? ⟨w.heap.size, 0, none⟩ = some (.int .i64 2) := (hb.cell (p := ⟨w.heap.size, 0, none⟩) (World.block_lt_of_cell? _ _ g0)).trans g0
      have fu1 : W3.cell? ⟨w.heap.size, 1, none⟩ = some (.int .i64 A) := (hb.cell (p := ⟨w.heap.size, 1, none⟩) (World.block_lt_of_cell? _ _ g1)).trans g1
      have fu2 : W3.cell? ⟨w.heap.size, 2, none⟩ = some (.int .i64 B) := (hb.cell (p := ⟨w.heap.size, 2, none⟩) (World.block_lt_of_cell? _ _ g2)).trans g2
      have fu3 : W3.cell? ⟨w.heap.size, 3, none⟩ = some (.int .i64 C) := (hb.cell (p := ⟨w.heap.size, 3, none⟩) (World.block_lt_of_cell? _ _ g3)).trans g3
      have fu4 : W3.cell? ⟨w.heap.size, 4, none⟩ = some (.string nm) := (hb.cell (p := ⟨w.heap.size, 4, none⟩) (World.block_lt_of_cell? _ _ g4)).trans g4
      have fu5 : W3.cell? ⟨w.heap.size, 5, none⟩ = some (.string tx) := (hb.cell (p := ⟨w.heap.size, 5, none⟩) (World.block_lt_of_cell? _ _ g5)).trans g5
      have fu6 : W3.cell? ⟨w.heap.size, 6, none⟩ = some (.string dr) := (hb.cell (p := ⟨w.heap.size, 6, none⟩) (World.block_lt_of_cell? _ _ g6)).trans g6
      have fu7 : W3.cell? ⟨w.heap.size, 7, none⟩ = some (.slice a0 da.length p0) := (hb.cell (p := ⟨w.heap.size, 7, none⟩) (World.block_lt_of_cell? _ _ g7)).trans g7
      clear hb g0 g1 g2 g3 g4 g5 g6 g7
      go_wp2_with fail
      refine (spec_NumText _ _).mono ?_
      rintro e W4 ⟨_, rfl, rfl, hb⟩
      have HB4 := Lib.hid (bel_next HB3.out hb)
      have fk0 : W4.cell? ⟨w.heap.size, 0, none⟩ = some (.int .i64 2) := (hb.cell (p := ⟨w.heap.size, 0, none⟩) (World.block_lt_of_cell? _ _ fu0)).trans fu0
      have fk1 : W4.cell? ⟨w.heap.size, 1, none⟩ = some (.int .i64 A) := (hb.cell (p := ⟨w.heap.size, 1, none⟩) (World.block_lt_of_cell? _ _ fu1)).trans fu1
      have fk2 : W4.cell? ⟨w.heap.size, 2, none⟩ = some (.int .i64 B) := (hb.cell (p := ⟨w.heap.size, 2, none⟩) (World.block_lt_of_cell? _ _ fu2)).trans fu2
      have fk3 : W4.cell? ⟨w.heap.size, 3, none⟩ = some (.int .i64 C) := (hb.cell (p := ⟨w.heap.size, 3, none⟩) (World.block_lt_of_cell? _ _ fu3)).trans fu3
      have fk4 : W4.cell? ⟨w.heap.size, 4, none⟩ = some (.string nm) := (hb.cell (p := ⟨w.heap.size, 4, none⟩) (World.block_lt_of_cell? _ _ fu4)).trans fu4
      have fk5 : W4.cell? ⟨w.heap.size, 5, none⟩ = some (.string tx) := (hb.cell (p := ⟨w.heap.size, 5, none⟩) (World.block_lt_of_cell? _ _ fu5)).trans fu5
      have fk6 : W4.cell? ⟨w.heap.size, 6, none⟩ = some (.string dr) := (hb.cell (p := ⟨w.heap.size, 6, none⟩) (World.block_lt_of_cell? _ _ fu6)).trans fu6
      have fk7 : W4.cell? ⟨w.heap.size, 7, none⟩ = some (.slice a0 da.length p0) := (hb.cell (p := ⟨w.heap.size, 7, none⟩) (World.block_lt_of_cell? _ _ fu7)).trans fu7
      clear hb fu0 fu1 fu2 fu3 fu4 fu5 fu6 fu7
      go_wp2_with fail
      go_ret
      exact ⟨_, rfl, by show _ = Value.string _; rw [HN.out] <;> rfl, HB4.out⟩
  by_cases hk3 : kd = 3
  · subst hk3
    clear hk1 hk2
    by_cases hB : B = 1
    · subst hB
      by_cases hT : tx.toList = []
      · have dT : decide (tx.toList = []) = true := decide_eq_true hT
        have eT : (tx.toList == []) = true := by simpa using hT
        have nT : (tx.toList != []) = false := by simpa using hT
        have HN := Lib.hid (show opText ⟨3, A, 1, C, nm, tx, dr, da⟩ = (((⟨#[115, 112, 108, 105, 116, 32]⟩ : ByteArray) ++ numText A) ++ (⟨#[32, 98, 101, 108, 111, 119, 32]⟩ : ByteArray)) ++ dirT dr from by
          rw [opText_yes' HOK.out (by simp [hasLine]) HDK.out (l := [(⟨#[115, 112, 108, 105, 116]⟩ : ByteArray), numText A, (⟨#[98, 101, 108, 111, 119]⟩ : ByteArray), dirT dr]) (by simp [headW, tailW, hasDir, hT]), joinT4]
          refine Go.WideShapes.bytes_inj ?_
          unfold bl
          simp [ByteArray.toList_data_append])
        clear hT
        go_enter Tryd.func30, Tryd.ntmps30
        go_wp2_with fail
        refine (spec_l18Dir _ dr (by omega)).mono ?_
        rintro e W1 ⟨_, rfl, rfl, hb⟩
        rw [HDK.out]
        have HB1 := Lib.hid (bel_next (show Below w.heap.size w _ from (by repeat (first | (with_reducible exact Below.refl _ _) | (with_reducible assumption) | (with_reducible refine bel_alloc ?_ _) | ((with_reducible refine bel_set ?_ ?_ _); rotate_left; (focus first | (simp; done) | (simp; omega)))))) hb)
        have f0 : W1.cell? ⟨w.heap.size, 0, none⟩ = some (.int .i64 3) := (hb.cell (p := ⟨w.heap.size, 0, none⟩) (by simp)).trans (by simp)
        have f1 : W1.cell? ⟨w.heap.size, 1, none⟩ = some (.int .i64 A) := (hb.cell (p := ⟨w.heap.size, 1, none⟩) (by simp)).trans (by simp)
        have f2 : W1.cell? ⟨w.heap.size, 2, none⟩ = some (.int .i64 1) := (hb.cell (p := ⟨w.heap.size, 2, none⟩) (by simp)).trans (by simp)
        have f3 : W1.cell? ⟨w.heap.size, 3, none⟩ = some (.int .i64 C) := (hb.cell (p := ⟨w.heap.size, 3, none⟩) (by simp)).trans (by simp)
        have f4 : W1.cell? ⟨w.heap.size, 4, none⟩ = some (.string nm) := (hb.cell (p := ⟨w.heap.size, 4, none⟩) (by simp)).trans (by simp)
        have f5 : W1.cell? ⟨w.heap.size, 5, none⟩ = some (.string tx) := (hb.cell (p := ⟨w.heap.size, 5, none⟩) (by simp)).trans (by simp)
        have f6 : W1.cell? ⟨w.heap.size, 6, none⟩ = some (.string dr) := (hb.cell (p := ⟨w.heap.size, 6, none⟩) (by simp)).trans (by simp)
        have f7 : W1.cell? ⟨w.heap.size, 7, none⟩ = some (.slice a0 da.length p0) := (hb.cell (p := ⟨w.heap.size, 7, none⟩) (by simp)).trans (by simp)
        clear hb
        simp only [cond_true, cond_false]
        go_wp2_with fail
        refine (spec_OpOk _ [_, _, _, _, _, _, _, _] ⟨3, A, 1, C, nm, tx, dr, da⟩ (Rep.mono HR.out HB1.out)).mono ?_
        rintro e W2 ⟨_, rfl, rfl, hb⟩
        rw [HOK.out]
        have HB2 := Lib.hid (bel_next HB1.out hb)
        have g0 : W2.cell? ⟨w.heap.size, 0, none⟩ = some (.int .i64 3) := (hb.cell (p := ⟨w.heap.size, 0, none⟩) (World.block_lt_of_cell? _ _ f0)).trans f0
        have g1 : W2.cell? ⟨w.heap.size, 1, none⟩ = some (.int .i64 A) := (hb.cell (p := ⟨w.heap.size, 1, none⟩) (World.block_lt_of_cell? _ _ f1)).trans f1
        have g2 : W2.cell? ⟨w.heap.size, 2, none⟩ = some (.int .i64 1) := (hb.cell (p := ⟨w.heap.size, 2, none⟩) (World.block_lt_of_cell? _ _ f2)).trans f2
        have g3 : W2.cell? ⟨w.heap.size, 3, none⟩ = some (.int .i64 C) := (hb.cell (p := ⟨w.heap.size, 3, none⟩) (World.block_lt_of_cell? _ _ f3)).trans f3
        have g4 : W2.cell? ⟨w.heap.size, 4, none⟩ = some (.string nm) := (hb.cell (p := ⟨w.heap.size, 4, none⟩) (World.block_lt_of_cell? _ _ f4)).trans f4
        have g5 : W2.cell? ⟨w.heap.size, 5, none⟩ = some (.string tx) := (hb.cell (p := ⟨w.heap.size, 5, none⟩) (World.block_lt_of_cell? _ _ f5)).trans f5
        have g6 : W2.cell? ⟨w.heap.size, 6, none⟩ = some (.string dr) := (hb.cell (p := ⟨w.heap.size, 6, none⟩) (World.block_lt_of_cell? _ _ f6)).trans f6
        have g7 : W2.cell? ⟨w.heap.size, 7, none⟩ = some (.slice a0 da.length p0) := (hb.cell (p := ⟨w.heap.size, 7, none⟩) (World.block_lt_of_cell? _ _ f7)).trans f7
        clear hb f0 f1 f2 f3 f4 f5 f6 f7
        go_wp2_with fail
        refine (spec_NumText _ _).mono ?_
        rintro e W3 ⟨_, rfl, rfl, hb⟩
        have HB3 := Lib.hid (bel_next HB2.out hb)
        have fu0 : W3.cell? ⟨w.heap.size, 0, none⟩ = some (.int .i64 3) := (hb.cell (p := ⟨w.heap.size, 0, none⟩) (World.block_lt_of_cell? _ _ g0)).trans g0
        have fu1 : W3.cell? ⟨w.heap.size, 1, none⟩ = some (.int .i64 A) := (hb.cell (p := ⟨w.heap.size, 1, none⟩) (World.block_lt_of_cell? _ _ g1)).trans g1
        have fu2 : W3.cell? ⟨w.heap.size, 2, none⟩ = some (.int .i64 1) := (hb.cell (p := ⟨w.heap.size, 2, none⟩) (World.block_lt_of_cell? _ _ g2)).trans g2
        have fu3 : W3.cell? ⟨w.heap.size, 3, none⟩ = some (.int .i64 C) := (hb.cell (p := ⟨w.heap.size, 3, none⟩) (World.block_lt_of_cell? _ _ g3)).trans g3
        have fu4 : W3.cell? ⟨w.heap.size, 4, none⟩ = some (.string nm) := (hb.cell (p := ⟨w.heap.size, 4, none⟩) (World.block_lt_of_cell? _ _ g4)).trans g4
        have fu5 : W3.cell? ⟨w.heap.size, 5, none⟩ = some (.string tx) := (hb.cell (p := ⟨w.heap.size, 5, none⟩) (World.block_lt_of_cell? _ _ g5)).trans g5
        have fu6 : W3.cell? ⟨w.heap.size, 6, none⟩ = some (.string dr) := (hb.cell (p := ⟨w.heap.size, 6, none⟩) (World.block_lt_of_cell? _ _ g6)).trans g6
        have fu7 : W3.cell? ⟨w.heap.size, 7, none⟩ = some (.slice a0 da.length p0) := (hb.cell (p := ⟨w.heap.size, 7, none⟩) (World.block_lt_of_cell? _ _ g7)).trans g7
        clear hb g0 g1 g2 g3 g4 g5 g6 g7
        go_wp2_with fail
        refine (spec_NumText _ _).mono ?_
        rintro e W4 ⟨_, rfl, rfl, hb⟩
        have HB4 := Lib.hid (bel_next HB3.out hb)
        have fk0 : W4.cell? ⟨w.heap.size, 0, none⟩ = some (.int .i64 3) := (hb.cell (p := ⟨w.heap.size, 0, none⟩) (World.block_lt_of_cell? _ _ fu0)).trans fu0
        have fk1 : W4.cell? ⟨w.heap.size, 1, none⟩ = some (.int .i64 A) := (hb.cell (p := ⟨w.heap.size, 1, none⟩) (World.block_lt_of_cell? _ _ fu1)).trans fu1
        have fk2 : W4.cell? ⟨w.heap.size, 2, none⟩ = some (.int .i64 1) := (hb.cell (p := ⟨w.heap.size, 2, none⟩) (World.block_lt_of_cell? _ _ fu2)).trans fu2
        have fk3 : W4.cell? ⟨w.heap.size, 3, none⟩ = some (.int .i64 C) := (hb.cell (p := ⟨w.heap.size, 3, none⟩) (World.block_lt_of_cell? _ _ fu3)).trans fu3
        have fk4 : W4.cell? ⟨w.heap.size, 4, none⟩ = some (.string nm) := (hb.cell (p := ⟨w.heap.size, 4, none⟩) (World.block_lt_of_cell? _ _ fu4)).trans fu4
        have fk5 : W4.cell? ⟨w.heap.size, 5, none⟩ = some (.string tx) := (hb.cell (p := ⟨w.heap.size, 5, none⟩) (World.block_lt_of_cell? _ _ fu5)).trans fu5
        have fk6 : W4.cell? ⟨w.heap.size, 6, none⟩ = some (.string dr) := (hb.cell (p := ⟨w.heap.size, 6, none⟩) (World.block_lt_of_cell? _ _ fu6)).trans fu6
        have fk7 : W4.cell? ⟨w.heap.size, 7, none⟩ = some (.slice a0 da.length p0) := (hb.cell (p := ⟨w.heap.size, 7, none⟩) (World.block_lt_of_cell? _ _ fu7)).trans fu7
        clear hb fu0 fu1 fu2 fu3 fu4 fu5 fu6 fu7
        go_wp2_with fail
        go_ret
        exact ⟨_, rfl, by show _ = Value.string _; rw [HN.out] <;> rfl, HB4.out⟩
      · have dT : decide (tx.toList = []) = false := decide_eq_false hT
        have eT : (tx.toList == []) = false := by simpa using hT
        have nT : (tx.toList != []) = true := by simpa using hT
        have HN := Lib.hid (show opText ⟨3, A, 1, C, nm, tx, dr, da⟩ = (((⟨#[115, 112, 108, 105, 116, 32]⟩ : ByteArray) ++ numText A) ++ (⟨#[32, 98, 101, 108, 111, 119, 32]⟩ : ByteArray)) ++ ((dirT dr ++ (⟨#[32]⟩ : ByteArray)) ++ tx) from by
          rw [opText_yes' HOK.out (by simp [hasLine]) HDK.out (l := [(⟨#[115, 112, 108, 105, 116]⟩ : ByteArray), numText A, (⟨#[98, 101, 108, 111, 119]⟩ : ByteArray), dirT dr, tx]) (by simp [headW, tailW, hasDir, hT]), joinT5]
          refine Go.WideShapes.bytes_inj ?_
          unfold bl
          simp [ByteArray.toList_data_append])
        clear hT
        go_enter Tryd.func30, Tryd.ntmps30
        go_wp2_with fail
        refine (spec_l18Dir _ dr (by omega)).mono ?_
        rintro e W1 ⟨_, rfl, rfl, hb⟩
        rw [HDK.out]
        have HB1 := Lib.hid (bel_next (show Below w.heap.size w _ from (by repeat (first | (with_reducible exact Below.refl _ _) | (with_reducible assumption) | (with_reducible refine bel_alloc ?_ _) | ((with_reducible refine bel_set ?_ ?_ _); rotate_left; (focus first | (simp; done) | (simp; omega)))))) hb)
        have f0 : W1.cell? ⟨w.heap.size, 0, none⟩ = some (.int .i64 3) := (hb.cell (p := ⟨w.heap.size, 0, none⟩) (by simp)).trans (by simp)
        have f1 : W1.cell? ⟨w.heap.size, 1, none⟩ = some (.int .i64 A) := (hb.cell (p := ⟨w.heap.size, 1, none⟩) (by simp)).trans (by simp)
        have f2 : W1.cell? ⟨w.heap.size, 2, none⟩ = some (.int .i64 1) := (hb.cell (p := ⟨w.heap.size, 2, none⟩) (by simp)).trans (by simp)
        have f3 : W1.cell? ⟨w.heap.size, 3, none⟩ = some (.int .i64 C) := (hb.cell (p := ⟨w.heap.size, 3, none⟩) (by simp)).trans (by simp)
        have f4 : W1.cell? ⟨w.heap.size, 4, none⟩ = some (.string nm) := (hb.cell (p := ⟨w.heap.size, 4, none⟩) (by simp)).trans (by simp)
        have f5 : W1.cell? ⟨w.heap.size, 5, none⟩ = some (.string tx) := (hb.cell (p := ⟨w.heap.size, 5, none⟩) (by simp)).trans (by simp)
        have f6 : W1.cell? ⟨w.heap.size, 6, none⟩ = some (.string dr) := (hb.cell (p := ⟨w.heap.size, 6, none⟩) (by simp)).trans (by simp)
        have f7 : W1.cell? ⟨w.heap.size, 7, none⟩ = some (.slice a0 da.length p0) := (hb.cell (p := ⟨w.heap.size, 7, none⟩) (by simp)).trans (by simp)
        clear hb
        simp only [cond_true, cond_false]
        go_wp2_with fail
        refine (spec_OpOk _ [_, _, _, _, _, _, _, _] ⟨3, A, 1, C, nm, tx, dr, da⟩ (Rep.mono HR.out HB1.out)).mono ?_
        rintro e W2 ⟨_, rfl, rfl, hb⟩
        rw [HOK.out]
        have HB2 := Lib.hid (bel_next HB1.out hb)
        have g0 : W2.cell? ⟨w.heap.size, 0, none⟩ = some (.int .i64 3) := (hb.cell (p := ⟨w.heap.size, 0, none⟩) (World.block_lt_of_cell? _ _ f0)).trans f0
        have g1 : W2.cell? ⟨w.heap.size, 1, none⟩ = some (.int .i64 A) := (hb.cell (p := ⟨w.heap.size, 1, none⟩) (World.block_lt_of_cell? _ _ f1)).trans f1
        have g2 : W2.cell? ⟨w.heap.size, 2, none⟩ = some (.int .i64 1) := (hb.cell (p := ⟨w.heap.size, 2, none⟩) (World.block_lt_of_cell? _ _ f2)).trans f2
        have g3 : W2.cell? ⟨w.heap.size, 3, none⟩ = some (.int .i64 C) := (hb.cell (p := ⟨w.heap.size, 3, none⟩) (World.block_lt_of_cell? _ _ f3)).trans f3
        have g4 : W2.cell? ⟨w.heap.size, 4, none⟩ = some (.string nm) := (hb.cell (p := ⟨w.heap.size, 4, none⟩) (World.block_lt_of_cell? _ _ f4)).trans f4
        have g5 : W2.cell? ⟨w.heap.size, 5, none⟩ = some (.string tx) := (hb.cell (p := ⟨w.heap.size, 5, none⟩) (World.block_lt_of_cell? _ _ f5)).trans f5
        have g6 : W2.cell? ⟨w.heap.size, 6, none⟩ = some (.string dr) := (hb.cell (p := ⟨w.heap.size, 6, none⟩) (World.block_lt_of_cell? _ _ f6)).trans f6
        have g7 : W2.cell? ⟨w.heap.size, 7, none⟩ = some (.slice a0 da.length p0) := (hb.cell (p := ⟨w.heap.size, 7, none⟩) (World.block_lt_of_cell? _ _ f7)).trans f7
        clear hb f0 f1 f2 f3 f4 f5 f6 f7
        go_wp2_with fail
        refine (spec_NumText _ _).mono ?_
        rintro e W3 ⟨_, rfl, rfl, hb⟩
        have HB3 := Lib.hid (bel_next HB2.out hb)
        have fu0 : W3.cell? ⟨w.heap.size, 0, none⟩ = some (.int .i64 3) := (hb.cell (p := ⟨w.heap.size, 0, none⟩) (World.block_lt_of_cell? _ _ g0)).trans g0
        have fu1 : W3.cell? ⟨w.heap.size, 1, none⟩ = some (.int .i64 A) := (hb.cell (p := ⟨w.heap.size, 1, none⟩) (World.block_lt_of_cell? _ _ g1)).trans g1
        have fu2 : W3.cell? ⟨w.heap.size, 2, none⟩ = some (.int .i64 1) := (hb.cell (p := ⟨w.heap.size, 2, none⟩) (World.block_lt_of_cell? _ _ g2)).trans g2
        have fu3 : W3.cell? ⟨w.heap.size, 3, none⟩ = some (.int .i64 C) := (hb.cell (p := ⟨w.heap.size, 3, none⟩) (World.block_lt_of_cell? _ _ g3)).trans g3
        have fu4 : W3.cell? ⟨w.heap.size, 4, none⟩ = some (.string nm) := (hb.cell (p := ⟨w.heap.size, 4, none⟩) (World.block_lt_of_cell? _ _ g4)).trans g4
        have fu5 : W3.cell? ⟨w.heap.size, 5, none⟩ = some (.string tx) := (hb.cell (p := ⟨w.heap.size, 5, none⟩) (World.block_lt_of_cell? _ _ g5)).trans g5
        have fu6 : W3.cell? ⟨w.heap.size, 6, none⟩ = some (.string dr) := (hb.cell (p := ⟨w.heap.size, 6, none⟩) (World.block_lt_of_cell? _ _ g6)).trans g6
        have fu7 : W3.cell? ⟨w.heap.size, 7, none⟩ = some (.slice a0 da.length p0) := (hb.cell (p := ⟨w.heap.size, 7, none⟩) (World.block_lt_of_cell? _ _ g7)).trans g7
        clear hb g0 g1 g2 g3 g4 g5 g6 g7
        go_wp2_with fail
        refine (spec_NumText _ _).mono ?_
        rintro e W4 ⟨_, rfl, rfl, hb⟩
        have HB4 := Lib.hid (bel_next HB3.out hb)
        have fk0 : W4.cell? ⟨w.heap.size, 0, none⟩ = some (.int .i64 3) := (hb.cell (p := ⟨w.heap.size, 0, none⟩) (World.block_lt_of_cell? _ _ fu0)).trans fu0
        have fk1 : W4.cell? ⟨w.heap.size, 1, none⟩ = some (.int .i64 A) := (hb.cell (p := ⟨w.heap.size, 1, none⟩) (World.block_lt_of_cell? _ _ fu1)).trans fu1
        have fk2 : W4.cell? ⟨w.heap.size, 2, none⟩ = some (.int .i64 1) := (hb.cell (p := ⟨w.heap.size, 2, none⟩) (World.block_lt_of_cell? _ _ fu2)).trans fu2
        have fk3 : W4.cell? ⟨w.heap.size, 3, none⟩ = some (.int .i64 C) := (hb.cell (p := ⟨w.heap.size, 3, none⟩) (World.block_lt_of_cell? _ _ fu3)).trans fu3
        have fk4 : W4.cell? ⟨w.heap.size, 4, none⟩ = some (.string nm) := (hb.cell (p := ⟨w.heap.size, 4, none⟩) (World.block_lt_of_cell? _ _ fu4)).trans fu4
        have fk5 : W4.cell? ⟨w.heap.size, 5, none⟩ = some (.string tx) := (hb.cell (p := ⟨w.heap.size, 5, none⟩) (World.block_lt_of_cell? _ _ fu5)).trans fu5
        have fk6 : W4.cell? ⟨w.heap.size, 6, none⟩ = some (.string dr) := (hb.cell (p := ⟨w.heap.size, 6, none⟩) (World.block_lt_of_cell? _ _ fu6)).trans fu6
        have fk7 : W4.cell? ⟨w.heap.size, 7, none⟩ = some (.slice a0 da.length p0) := (hb.cell (p := ⟨w.heap.size, 7, none⟩) (World.block_lt_of_cell? _ _ fu7)).trans fu7
        clear hb fu0 fu1 fu2 fu3 fu4 fu5 fu6 fu7
        go_wp2_with fail
        go_ret
        exact ⟨_, rfl, by show _ = Value.string _; rw [HN.out] <;> rfl, HB4.out⟩
    · have dB : decide (B = 1) = false := decide_eq_false hB
      have eB : (B == 1) = false := by simpa using hB
      by_cases hT : tx.toList = []
      · have dT : decide (tx.toList = []) = true := decide_eq_true hT
        have eT : (tx.toList == []) = true := by simpa using hT
        have nT : (tx.toList != []) = false := by simpa using hT
        have HN := Lib.hid (show opText ⟨3, A, B, C, nm, tx, dr, da⟩ = (((⟨#[115, 112, 108, 105, 116, 32]⟩ : ByteArray) ++ numText A) ++ (⟨#[32, 98, 101, 115, 105, 100, 101, 32]⟩ : ByteArray)) ++ dirT dr from by
          rw [opText_yes' HOK.out (by simp [hasLine]) HDK.out (l := [(⟨#[115, 112, 108, 105, 116]⟩ : ByteArray), numText A, (⟨#[98, 101, 115, 105, 100, 101]⟩ : ByteArray), dirT dr]) (by simp [headW, tailW, hasDir, hT, hB]), joinT4]
          refine Go.WideShapes.bytes_inj ?_
          unfold bl
          simp [ByteArray.toList_data_append])
        clear hT
        go_enter Tryd.func30, Tryd.ntmps30
        go_wp2_with fail
        refine (spec_l18Dir _ dr (by omega)).mono ?_
        rintro e W1 ⟨_, rfl, rfl, hb⟩
        rw [HDK.out]
        have HB1 := Lib.hid (bel_next (show Below w.heap.size w _ from (by repeat (first | (with_reducible exact Below.refl _ _) | (with_reducible assumption) | (with_reducible refine bel_alloc ?_ _) | ((with_reducible refine bel_set ?_ ?_ _); rotate_left; (focus first | (simp; done) | (simp; omega)))))) hb)
        have f0 : W1.cell? ⟨w.heap.size, 0, none⟩ = some (.int .i64 3) := (hb.cell (p := ⟨w.heap.size, 0, none⟩) (by simp)).trans (by simp)
        have f1 : W1.cell? ⟨w.heap.size, 1, none⟩ = some (.int .i64 A) := (hb.cell (p := ⟨w.heap.size, 1, none⟩) (by simp)).trans (by simp)
        have f2 : W1.cell? ⟨w.heap.size, 2, none⟩ = some (.int .i64 B) := (hb.cell (p := ⟨w.heap.size, 2, none⟩) (by simp)).trans (by simp)
        have f3 : W1.cell? ⟨w.heap.size, 3, none⟩ = some (.int .i64 C) := (hb.cell (p := ⟨w.heap.size, 3, none⟩) (by simp)).trans (by simp)
        have f4 : W1.cell? ⟨w.heap.size, 4, none⟩ = some (.string nm) := (hb.cell (p := ⟨w.heap.size, 4, none⟩) (by simp)).trans (by simp)
        have f5 : W1.cell? ⟨w.heap.size, 5, none⟩ = some (.string tx) := (hb.cell (p := ⟨w.heap.size, 5, none⟩) (by simp)).trans (by simp)
        have f6 : W1.cell? ⟨w.heap.size, 6, none⟩ = some (.string dr) := (hb.cell (p := ⟨w.heap.size, 6, none⟩) (by simp)).trans (by simp)
        have f7 : W1.cell? ⟨w.heap.size, 7, none⟩ = some (.slice a0 da.length p0) := (hb.cell (p := ⟨w.heap.size, 7, none⟩) (by simp)).trans (by simp)
        clear hb
        simp only [cond_true, cond_false]
        go_wp2_with fail
        refine (spec_OpOk _ [_, _, _, _, _, _, _, _] ⟨3, A, B, C, nm, tx, dr, da⟩ (Rep.mono HR.out HB1.out)).mono ?_
        rintro e W2 ⟨_, rfl, rfl, hb⟩
        rw [HOK.out]
        have HB2 := Lib.hid (bel_next HB1.out hb)
        have g0 : W2.cell? ⟨w.heap.size, 0, none⟩ = some (.int .i64 3) := (hb.cell (p := ⟨w.heap.size, 0, none⟩) (World.block_lt_of_cell? _ _ f0)).trans f0
        have g1 : W2.cell? ⟨w.heap.size, 1, none⟩ = some (.int .i64 A) := (hb.cell (p := ⟨w.heap.size, 1, none⟩) (World.block_lt_of_cell? _ _ f1)).trans f1
        have g2 : W2.cell? ⟨w.heap.size, 2, none⟩ = some (.int .i64 B) := (hb.cell (p := ⟨w.heap.size, 2, none⟩) (World.block_lt_of_cell? _ _ f2)).trans f2
        have g3 : W2.cell? ⟨w.heap.size, 3, none⟩ = some (.int .i64 C) := (hb.cell (p := ⟨w.heap.size, 3, none⟩) (World.block_lt_of_cell? _ _ f3)).trans f3
        have g4 : W2.cell? ⟨w.heap.size, 4, none⟩ = some (.string nm) := (hb.cell (p := ⟨w.heap.size, 4, none⟩) (World.block_lt_of_cell? _ _ f4)).trans f4
        have g5 : W2.cell? ⟨w.heap.size, 5, none⟩ = some (.string tx) := (hb.cell (p := ⟨w.heap.size, 5, none⟩) (World.block_lt_of_cell? _ _ f5)).trans f5
        have g6 : W2.cell? ⟨w.heap.size, 6, none⟩ = some (.string dr) := (hb.cell (p := ⟨w.heap.size, 6, none⟩) (World.block_lt_of_cell? _ _ f6)).trans f6
        have g7 : W2.cell? ⟨w.heap.size, 7, none⟩ = some (.slice a0 da.length p0) := (hb.cell (p := ⟨w.heap.size, 7, none⟩) (World.block_lt_of_cell? _ _ f7)).trans f7
        clear hb f0 f1 f2 f3 f4 f5 f6 f7
        go_wp2_with fail
        refine (spec_NumText _ _).mono ?_
        rintro e W3 ⟨_, rfl, rfl, hb⟩
        have HB3 := Lib.hid (bel_next HB2.out hb)
        have fu0 : W3.cell? ⟨w.heap.size, 0, none⟩ = some (.int .i64 3) := (hb.cell (p := ⟨w.heap.size, 0, none⟩) (World.block_lt_of_cell? _ _ g0)).trans g0
        have fu1 : W3.cell? ⟨w.heap.size, 1, none⟩ = some (.int .i64 A) := (hb.cell (p := ⟨w.heap.size, 1, none⟩) (World.block_lt_of_cell? _ _ g1)).trans g1
        have fu2 : W3.cell? ⟨w.heap.size, 2, none⟩ = some (.int .i64 B) := (hb.cell (p := ⟨w.heap.size, 2, none⟩) (World.block_lt_of_cell? _ _ g2)).trans g2
        have fu3 : W3.cell? ⟨w.heap.size, 3, none⟩ = some (.int .i64 C) := (hb.cell (p := ⟨w.heap.size, 3, none⟩) (World.block_lt_of_cell? _ _ g3)).trans g3
        have fu4 : W3.cell? ⟨w.heap.size, 4, none⟩ = some (.string nm) := (hb.cell (p := ⟨w.heap.size, 4, none⟩) (World.block_lt_of_cell? _ _ g4)).trans g4
        have fu5 : W3.cell? ⟨w.heap.size, 5, none⟩ = some (.string tx) := (hb.cell (p := ⟨w.heap.size, 5, none⟩) (World.block_lt_of_cell? _ _ g5)).trans g5
        have fu6 : W3.cell? ⟨w.heap.size, 6, none⟩ = some (.string dr) := (hb.cell (p := ⟨w.heap.size, 6, none⟩) (World.block_lt_of_cell? _ _ g6)).trans g6
        have fu7 : W3.cell? ⟨w.heap.size, 7, none⟩ = some (.slice a0 da.length p0) := (hb.cell (p := ⟨w.heap.size, 7, none⟩) (World.block_lt_of_cell? _ _ g7)).trans g7
        clear hb g0 g1 g2 g3 g4 g5 g6 g7
        go_wp2_with fail
        refine (spec_NumText _ _).mono ?_
        rintro e W4 ⟨_, rfl, rfl, hb⟩
        have HB4 := Lib.hid (bel_next HB3.out hb)
        have fk0 : W4.cell? ⟨w.heap.size, 0, none⟩ = some (.int .i64 3) := (hb.cell (p := ⟨w.heap.size, 0, none⟩) (World.block_lt_of_cell? _ _ fu0)).trans fu0
        have fk1 : W4.cell? ⟨w.heap.size, 1, none⟩ = some (.int .i64 A) := (hb.cell (p := ⟨w.heap.size, 1, none⟩) (World.block_lt_of_cell? _ _ fu1)).trans fu1
        have fk2 : W4.cell? ⟨w.heap.size, 2, none⟩ = some (.int .i64 B) := (hb.cell (p := ⟨w.heap.size, 2, none⟩) (World.block_lt_of_cell? _ _ fu2)).trans fu2
        have fk3 : W4.cell? ⟨w.heap.size, 3, none⟩ = some (.int .i64 C) := (hb.cell (p := ⟨w.heap.size, 3, none⟩) (World.block_lt_of_cell? _ _ fu3)).trans fu3
        have fk4 : W4.cell? ⟨w.heap.size, 4, none⟩ = some (.string nm) := (hb.cell (p := ⟨w.heap.size, 4, none⟩) (World.block_lt_of_cell? _ _ fu4)).trans fu4
        have fk5 : W4.cell? ⟨w.heap.size, 5, none⟩ = some (.string tx) := (hb.cell (p := ⟨w.heap.size, 5, none⟩) (World.block_lt_of_cell? _ _ fu5)).trans fu5
        have fk6 : W4.cell? ⟨w.heap.size, 6, none⟩ = some (.string dr) := (hb.cell (p := ⟨w.heap.size, 6, none⟩) (World.block_lt_of_cell? _ _ fu6)).trans fu6
        have fk7 : W4.cell? ⟨w.heap.size, 7, none⟩ = some (.slice a0 da.length p0) := (hb.cell (p := ⟨w.heap.size, 7, none⟩) (World.block_lt_of_cell? _ _ fu7)).trans fu7
        clear hb fu0 fu1 fu2 fu3 fu4 fu5 fu6 fu7
        go_wp2_with fail
        go_ret
        exact ⟨_, rfl, by show _ = Value.string _; rw [HN.out] <;> rfl, HB4.out⟩
      · have dT : decide (tx.toList = []) = false := decide_eq_false hT
        have eT : (tx.toList == []) = false := by simpa using hT
        have nT : (tx.toList != []) = true := by simpa using hT
        have HN := Lib.hid (show opText ⟨3, A, B, C, nm, tx, dr, da⟩ = (((⟨#[115, 112, 108, 105, 116, 32]⟩ : ByteArray) ++ numText A) ++ (⟨#[32, 98, 101, 115, 105, 100, 101, 32]⟩ : ByteArray)) ++ ((dirT dr ++ (⟨#[32]⟩ : ByteArray)) ++ tx) from by
          rw [opText_yes' HOK.out (by simp [hasLine]) HDK.out (l := [(⟨#[115, 112, 108, 105, 116]⟩ : ByteArray), numText A, (⟨#[98, 101, 115, 105, 100, 101]⟩ : ByteArray), dirT dr, tx]) (by simp [headW, tailW, hasDir, hT, hB]), joinT5]
          refine Go.WideShapes.bytes_inj ?_
          unfold bl
          simp [ByteArray.toList_data_append])
        clear hT
        go_enter Tryd.func30, Tryd.ntmps30
        go_wp2_with fail
        refine (spec_l18Dir _ dr (by omega)).mono ?_
        rintro e W1 ⟨_, rfl, rfl, hb⟩
        rw [HDK.out]
        have HB1 := Lib.hid (bel_next (show Below w.heap.size w _ from (by repeat (first | (with_reducible exact Below.refl _ _) | (with_reducible assumption) | (with_reducible refine bel_alloc ?_ _) | ((with_reducible refine bel_set ?_ ?_ _); rotate_left; (focus first | (simp; done) | (simp; omega)))))) hb)
        have f0 : W1.cell? ⟨w.heap.size, 0, none⟩ = some (.int .i64 3) := (hb.cell (p := ⟨w.heap.size, 0, none⟩) (by simp)).trans (by simp)
        have f1 : W1.cell? ⟨w.heap.size, 1, none⟩ = some (.int .i64 A) := (hb.cell (p := ⟨w.heap.size, 1, none⟩) (by simp)).trans (by simp)
        have f2 : W1.cell? ⟨w.heap.size, 2, none⟩ = some (.int .i64 B) := (hb.cell (p := ⟨w.heap.size, 2, none⟩) (by simp)).trans (by simp)
        have f3 : W1.cell? ⟨w.heap.size, 3, none⟩ = some (.int .i64 C) := (hb.cell (p := ⟨w.heap.size, 3, none⟩) (by simp)).trans (by simp)
        have f4 : W1.cell? ⟨w.heap.size, 4, none⟩ = some (.string nm) := (hb.cell (p := ⟨w.heap.size, 4, none⟩) (by simp)).trans (by simp)
        have f5 : W1.cell? ⟨w.heap.size, 5, none⟩ = some (.string tx) := (hb.cell (p := ⟨w.heap.size, 5, none⟩) (by simp)).trans (by simp)
        have f6 : W1.cell? ⟨w.heap.size, 6, none⟩ = some (.string dr) := (hb.cell (p := ⟨w.heap.size, 6, none⟩) (by simp)).trans (by simp)
        have f7 : W1.cell? ⟨w.heap.size, 7, none⟩ = some (.slice a0 da.length p0) := (hb.cell (p := ⟨w.heap.size, 7, none⟩) (by simp)).trans (by simp)
        clear hb
        simp only [cond_true, cond_false]
        go_wp2_with fail
        refine (spec_OpOk _ [_, _, _, _, _, _, _, _] ⟨3, A, B, C, nm, tx, dr, da⟩ (Rep.mono HR.out HB1.out)).mono ?_
        rintro e W2 ⟨_, rfl, rfl, hb⟩
        rw [HOK.out]
        have HB2 := Lib.hid (bel_next HB1.out hb)
        have g0 : W2.cell? ⟨w.heap.size, 0, none⟩ = some (.int .i64 3) := (hb.cell (p := ⟨w.heap.size, 0, none⟩) (World.block_lt_of_cell? _ _ f0)).trans f0
        have g1 : W2.cell? ⟨w.heap.size, 1, none⟩ = some (.int .i64 A) := (hb.cell (p := ⟨w.heap.size, 1, none⟩) (World.block_lt_of_cell? _ _ f1)).trans f1
        have g2 : W2.cell? ⟨w.heap.size, 2, none⟩ = some (.int .i64 B) := (hb.cell (p := ⟨w.heap.size, 2, none⟩) (World.block_lt_of_cell? _ _ f2)).trans f2
        have g3 : W2.cell? ⟨w.heap.size, 3, none⟩ = some (.int .i64 C) := (hb.cell (p := ⟨w.heap.size, 3, none⟩) (World.block_lt_of_cell? _ _ f3)).trans f3
        have g4 : W2.cell? ⟨w.heap.size, 4, none⟩ = some (.string nm) := (hb.cell (p := ⟨w.heap.size, 4, none⟩) (World.block_lt_of_cell? _ _ f4)).trans f4
        have g5 : W2.cell? ⟨w.heap.size, 5, none⟩ = some (.string tx) := (hb.cell (p := ⟨w.heap.size, 5, none⟩) (World.block_lt_of_cell? _ _ f5)).trans f5
        have g6 : W2.cell? ⟨w.heap.size, 6, none⟩ = some (.string dr) := (hb.cell (p := ⟨w.heap.size, 6, none⟩) (World.block_lt_of_cell? _ _ f6)).trans f6
        have g7 : W2.cell? ⟨w.heap.size, 7, none⟩ = some (.slice a0 da.length p0) := (hb.cell (p := ⟨w.heap.size, 7, none⟩) (World.block_lt_of_cell? _ _ f7)).trans f7
        clear hb f0 f1 f2 f3 f4 f5 f6 f7
        go_wp2_with fail
        refine (spec_NumText _ _).mono ?_
        rintro e W3 ⟨_, rfl, rfl, hb⟩
        have HB3 := Lib.hid (bel_next HB2.out hb)
        have fu0 : W3.cell? ⟨w.heap.size, 0, none⟩ = some (.int .i64 3) := (hb.cell (p := ⟨w.heap.size, 0, none⟩) (World.block_lt_of_cell? _ _ g0)).trans g0
        have fu1 : W3.cell? ⟨w.heap.size, 1, none⟩ = some (.int .i64 A) := (hb.cell (p := ⟨w.heap.size, 1, none⟩) (World.block_lt_of_cell? _ _ g1)).trans g1
        have fu2 : W3.cell? ⟨w.heap.size, 2, none⟩ = some (.int .i64 B) := (hb.cell (p := ⟨w.heap.size, 2, none⟩) (World.block_lt_of_cell? _ _ g2)).trans g2
        have fu3 : W3.cell? ⟨w.heap.size, 3, none⟩ = some (.int .i64 C) := (hb.cell (p := ⟨w.heap.size, 3, none⟩) (World.block_lt_of_cell? _ _ g3)).trans g3
        have fu4 : W3.cell? ⟨w.heap.size, 4, none⟩ = some (.string nm) := (hb.cell (p := ⟨w.heap.size, 4, none⟩) (World.block_lt_of_cell? _ _ g4)).trans g4
        have fu5 : W3.cell? ⟨w.heap.size, 5, none⟩ = some (.string tx) := (hb.cell (p := ⟨w.heap.size, 5, none⟩) (World.block_lt_of_cell? _ _ g5)).trans g5
        have fu6 : W3.cell? ⟨w.heap.size, 6, none⟩ = some (.string dr) := (hb.cell (p := ⟨w.heap.size, 6, none⟩) (World.block_lt_of_cell? _ _ g6)).trans g6
        have fu7 : W3.cell? ⟨w.heap.size, 7, none⟩ = some (.slice a0 da.length p0) := (hb.cell (p := ⟨w.heap.size, 7, none⟩) (World.block_lt_of_cell? _ _ g7)).trans g7
        clear hb g0 g1 g2 g3 g4 g5 g6 g7
        go_wp2_with fail
        refine (spec_NumText _ _).mono ?_
        rintro e W4 ⟨_, rfl, rfl, hb⟩
        have HB4 := Lib.hid (bel_next HB3.out hb)
        have fk0 : W4.cell? ⟨w.heap.size, 0, none⟩ = some (.int .i64 3) := (hb.cell (p := ⟨w.heap.size, 0, none⟩) (World.block_lt_of_cell? _ _ fu0)).trans fu0
        have fk1 : W4.cell? ⟨w.heap.size, 1, none⟩ = some (.int .i64 A) := (hb.cell (p := ⟨w.heap.size, 1, none⟩) (World.block_lt_of_cell? _ _ fu1)).trans fu1
        have fk2 : W4.cell? ⟨w.heap.size, 2, none⟩ = some (.int .i64 B) := (hb.cell (p := ⟨w.heap.size, 2, none⟩) (World.block_lt_of_cell? _ _ fu2)).trans fu2
        have fk3 : W4.cell? ⟨w.heap.size, 3, none⟩ = some (.int .i64 C) := (hb.cell (p := ⟨w.heap.size, 3, none⟩) (World.block_lt_of_cell? _ _ fu3)).trans fu3
        have fk4 : W4.cell? ⟨w.heap.size, 4, none⟩ = some (.string nm) := (hb.cell (p := ⟨w.heap.size, 4, none⟩) (World.block_lt_of_cell? _ _ fu4)).trans fu4
        have fk5 : W4.cell? ⟨w.heap.size, 5, none⟩ = some (.string tx) := (hb.cell (p := ⟨w.heap.size, 5, none⟩) (World.block_lt_of_cell? _ _ fu5)).trans fu5
        have fk6 : W4.cell? ⟨w.heap.size, 6, none⟩ = some (.string dr) := (hb.cell (p := ⟨w.heap.size, 6, none⟩) (World.block_lt_of_cell? _ _ fu6)).trans fu6
        have fk7 : W4.cell? ⟨w.heap.size, 7, none⟩ = some (.slice a0 da.length p0) := (hb.cell (p := ⟨w.heap.size, 7, none⟩) (World.block_lt_of_cell? _ _ fu7)).trans fu7
        clear hb fu0 fu1 fu2 fu3 fu4 fu5 fu6 fu7
        go_wp2_with fail
        go_ret
        exact ⟨_, rfl, by show _ = Value.string _; rw [HN.out] <;> rfl, HB4.out⟩
  by_cases hk4 : kd = 4
  · subst hk4
    clear hk1 hk2 hk3
    have hT := (opOkB_nodir HOK.out (by simp [hasDir])).1
    dsimp only at hT
    have dT : decide (tx.toList = []) = true := decide_eq_true hT
    have eT : (tx.toList == []) = true := by simpa using hT
    have nT : (tx.toList != []) = false := by simpa using hT
    have HN := Lib.hid (show opText ⟨4, A, B, C, nm, tx, dr, da⟩ = (⟨#[107, 105, 108, 108, 32]⟩ : ByteArray) ++ numText A from by
      rw [opText_yes' HOK.out (by simp [hasLine]) HDK.out (l := [(⟨#[107, 105, 108, 108]⟩ : ByteArray), numText A]) (by simp [headW, tailW, hasDir]), joinT2]
      refine Go.WideShapes.bytes_inj ?_
      unfold bl
      simp [ByteArray.toList_data_append])
    clear hT
    go_enter Tryd.func30, Tryd.ntmps30
    go_wp2_with fail
    refine (spec_l18Dir _ dr (by omega)).mono ?_
    rintro e W1 ⟨_, rfl, rfl, hb⟩
    rw [HDK.out]
    have HB1 := Lib.hid (bel_next (show Below w.heap.size w _ from (by repeat (first | (with_reducible exact Below.refl _ _) | (with_reducible assumption) | (with_reducible refine bel_alloc ?_ _) | ((with_reducible refine bel_set ?_ ?_ _); rotate_left; (focus first | (simp; done) | (simp; omega)))))) hb)
    have f0 : W1.cell? ⟨w.heap.size, 0, none⟩ = some (.int .i64 4) := (hb.cell (p := ⟨w.heap.size, 0, none⟩) (by simp)).trans (by simp)
    have f1 : W1.cell? ⟨w.heap.size, 1, none⟩ = some (.int .i64 A) := (hb.cell (p := ⟨w.heap.size, 1, none⟩) (by simp)).trans (by simp)
    have f2 : W1.cell? ⟨w.heap.size, 2, none⟩ = some (.int .i64 B) := (hb.cell (p := ⟨w.heap.size, 2, none⟩) (by simp)).trans (by simp)
    have f3 : W1.cell? ⟨w.heap.size, 3, none⟩ = some (.int .i64 C) := (hb.cell (p := ⟨w.heap.size, 3, none⟩) (by simp)).trans (by simp)
    have f4 : W1.cell? ⟨w.heap.size, 4, none⟩ = some (.string nm) := (hb.cell (p := ⟨w.heap.size, 4, none⟩) (by simp)).trans (by simp)
    have f5 : W1.cell? ⟨w.heap.size, 5, none⟩ = some (.string tx) := (hb.cell (p := ⟨w.heap.size, 5, none⟩) (by simp)).trans (by simp)
    have f6 : W1.cell? ⟨w.heap.size, 6, none⟩ = some (.string dr) := (hb.cell (p := ⟨w.heap.size, 6, none⟩) (by simp)).trans (by simp)
    have f7 : W1.cell? ⟨w.heap.size, 7, none⟩ = some (.slice a0 da.length p0) := (hb.cell (p := ⟨w.heap.size, 7, none⟩) (by simp)).trans (by simp)
    clear hb
    simp only [cond_true, cond_false]
    go_wp2_with fail
    refine (spec_OpOk _ [_, _, _, _, _, _, _, _] ⟨4, A, B, C, nm, tx, dr, da⟩ (Rep.mono HR.out HB1.out)).mono ?_
    rintro e W2 ⟨_, rfl, rfl, hb⟩
    rw [HOK.out]
    have HB2 := Lib.hid (bel_next HB1.out hb)
    have g0 : W2.cell? ⟨w.heap.size, 0, none⟩ = some (.int .i64 4) := (hb.cell (p := ⟨w.heap.size, 0, none⟩) (World.block_lt_of_cell? _ _ f0)).trans f0
    have g1 : W2.cell? ⟨w.heap.size, 1, none⟩ = some (.int .i64 A) := (hb.cell (p := ⟨w.heap.size, 1, none⟩) (World.block_lt_of_cell? _ _ f1)).trans f1
    have g2 : W2.cell? ⟨w.heap.size, 2, none⟩ = some (.int .i64 B) := (hb.cell (p := ⟨w.heap.size, 2, none⟩) (World.block_lt_of_cell? _ _ f2)).trans f2
    have g3 : W2.cell? ⟨w.heap.size, 3, none⟩ = some (.int .i64 C) := (hb.cell (p := ⟨w.heap.size, 3, none⟩) (World.block_lt_of_cell? _ _ f3)).trans f3
    have g4 : W2.cell? ⟨w.heap.size, 4, none⟩ = some (.string nm) := (hb.cell (p := ⟨w.heap.size, 4, none⟩) (World.block_lt_of_cell? _ _ f4)).trans f4
    have g5 : W2.cell? ⟨w.heap.size, 5, none⟩ = some (.string tx) := (hb.cell (p := ⟨w.heap.size, 5, none⟩) (World.block_lt_of_cell? _ _ f5)).trans f5
    have g6 : W2.cell? ⟨w.heap.size, 6, none⟩ = some (.string dr) := (hb.cell (p := ⟨w.heap.size, 6, none⟩) (World.block_lt_of_cell? _ _ f6)).trans f6
    have g7 : W2.cell? ⟨w.heap.size, 7, none⟩ = some (.slice a0 da.length p0) := (hb.cell (p := ⟨w.heap.size, 7, none⟩) (World.block_lt_of_cell? _ _ f7)).trans f7
    clear hb f0 f1 f2 f3 f4 f5 f6 f7
    go_wp2_with fail
    refine (spec_NumText _ _).mono ?_
    rintro e W3 ⟨_, rfl, rfl, hb⟩
    have HB3 := Lib.hid (bel_next HB2.out hb)
    have fu0 : W3.cell? ⟨w.heap.size, 0, none⟩ = some (.int .i64 4) := (hb.cell (p := ⟨w.heap.size, 0, none⟩) (World.block_lt_of_cell? _ _ g0)).trans g0
    have fu1 : W3.cell? ⟨w.heap.size, 1, none⟩ = some (.int .i64 A) := (hb.cell (p := ⟨w.heap.size, 1, none⟩) (World.block_lt_of_cell? _ _ g1)).trans g1
    have fu2 : W3.cell? ⟨w.heap.size, 2, none⟩ = some (.int .i64 B) := (hb.cell (p := ⟨w.heap.size, 2, none⟩) (World.block_lt_of_cell? _ _ g2)).trans g2
    have fu3 : W3.cell? ⟨w.heap.size, 3, none⟩ = some (.int .i64 C) := (hb.cell (p := ⟨w.heap.size, 3, none⟩) (World.block_lt_of_cell? _ _ g3)).trans g3
    have fu4 : W3.cell? ⟨w.heap.size, 4, none⟩ = some (.string nm) := (hb.cell (p := ⟨w.heap.size, 4, none⟩) (World.block_lt_of_cell? _ _ g4)).trans g4
    have fu5 : W3.cell? ⟨w.heap.size, 5, none⟩ = some (.string tx) := (hb.cell (p := ⟨w.heap.size, 5, none⟩) (World.block_lt_of_cell? _ _ g5)).trans g5
    have fu6 : W3.cell? ⟨w.heap.size, 6, none⟩ = some (.string dr) := (hb.cell (p := ⟨w.heap.size, 6, none⟩) (World.block_lt_of_cell? _ _ g6)).trans g6
    have fu7 : W3.cell? ⟨w.heap.size, 7, none⟩ = some (.slice a0 da.length p0) := (hb.cell (p := ⟨w.heap.size, 7, none⟩) (World.block_lt_of_cell? _ _ g7)).trans g7
    clear hb g0 g1 g2 g3 g4 g5 g6 g7
    go_wp2_with fail
    refine (spec_NumText _ _).mono ?_
    rintro e W4 ⟨_, rfl, rfl, hb⟩
    have HB4 := Lib.hid (bel_next HB3.out hb)
    have fk0 : W4.cell? ⟨w.heap.size, 0, none⟩ = some (.int .i64 4) := (hb.cell (p := ⟨w.heap.size, 0, none⟩) (World.block_lt_of_cell? _ _ fu0)).trans fu0
    have fk1 : W4.cell? ⟨w.heap.size, 1, none⟩ = some (.int .i64 A) := (hb.cell (p := ⟨w.heap.size, 1, none⟩) (World.block_lt_of_cell? _ _ fu1)).trans fu1
    have fk2 : W4.cell? ⟨w.heap.size, 2, none⟩ = some (.int .i64 B) := (hb.cell (p := ⟨w.heap.size, 2, none⟩) (World.block_lt_of_cell? _ _ fu2)).trans fu2
    have fk3 : W4.cell? ⟨w.heap.size, 3, none⟩ = some (.int .i64 C) := (hb.cell (p := ⟨w.heap.size, 3, none⟩) (World.block_lt_of_cell? _ _ fu3)).trans fu3
    have fk4 : W4.cell? ⟨w.heap.size, 4, none⟩ = some (.string nm) := (hb.cell (p := ⟨w.heap.size, 4, none⟩) (World.block_lt_of_cell? _ _ fu4)).trans fu4
    have fk5 : W4.cell? ⟨w.heap.size, 5, none⟩ = some (.string tx) := (hb.cell (p := ⟨w.heap.size, 5, none⟩) (World.block_lt_of_cell? _ _ fu5)).trans fu5
    have fk6 : W4.cell? ⟨w.heap.size, 6, none⟩ = some (.string dr) := (hb.cell (p := ⟨w.heap.size, 6, none⟩) (World.block_lt_of_cell? _ _ fu6)).trans fu6
    have fk7 : W4.cell? ⟨w.heap.size, 7, none⟩ = some (.slice a0 da.length p0) := (hb.cell (p := ⟨w.heap.size, 7, none⟩) (World.block_lt_of_cell? _ _ fu7)).trans fu7
    clear hb fu0 fu1 fu2 fu3 fu4 fu5 fu6 fu7
    go_wp2_with fail
    go_ret
    exact ⟨_, rfl, by show _ = Value.string _; rw [HN.out] <;> rfl, HB4.out⟩
  by_cases hk5 : kd = 5
  · subst hk5
    clear hk1 hk2 hk3 hk4
    have HN := Lib.hid (opText_noline (x := ⟨5, A, B, C, nm, tx, dr, da⟩) (by simp [hasLine]))
    have hT := (opOkB_nodir HOK.out (by simp [hasDir])).1
    dsimp only at hT
    have dT : decide (tx.toList = []) = true := decide_eq_true hT
    have eT : (tx.toList == []) = true := by simpa using hT
    have nT : (tx.toList != []) = false := by simpa using hT
    clear hT
    go_enter Tryd.func30, Tryd.ntmps30
    go_wp2_with fail
    refine (spec_l18Dir _ dr (by omega)).mono ?_
    rintro e W1 ⟨_, rfl, rfl, hb⟩
    rw [HDK.out]
    have HB1 := Lib.hid (bel_next (show Below w.heap.size w _ from (by repeat (first | (with_reducible exact Below.refl _ _) | (with_reducible assumption) | (with_reducible refine bel_alloc ?_ _) | ((with_reducible refine bel_set ?_ ?_ _); rotate_left; (focus first | (simp; done) | (simp; omega)))))) hb)
    have f0 : W1.cell? ⟨w.heap.size, 0, none⟩ = some (.int .i64 5) := (hb.cell (p := ⟨w.heap.size, 0, none⟩) (by simp)).trans (by simp)
    have f1 : W1.cell? ⟨w.heap.size, 1, none⟩ = some (.int .i64 A) := (hb.cell (p := ⟨w.heap.size, 1, none⟩) (by simp)).trans (by simp)
    have f2 : W1.cell? ⟨w.heap.size, 2, none⟩ = some (.int .i64 B) := (hb.cell (p := ⟨w.heap.size, 2, none⟩) (by simp)).trans (by simp)
    have f3 : W1.cell? ⟨w.heap.size, 3, none⟩ = some (.int .i64 C) := (hb.cell (p := ⟨w.heap.size, 3, none⟩) (by simp)).trans (by simp)
    have f4 : W1.cell? ⟨w.heap.size, 4, none⟩ = some (.string nm) := (hb.cell (p := ⟨w.heap.size, 4, none⟩) (by simp)).trans (by simp)
    have f5 : W1.cell? ⟨w.heap.size, 5, none⟩ = some (.string tx) := (hb.cell (p := ⟨w.heap.size, 5, none⟩) (by simp)).trans (by simp)
    have f6 : W1.cell? ⟨w.heap.size, 6, none⟩ = some (.string dr) := (hb.cell (p := ⟨w.heap.size, 6, none⟩) (by simp)).trans (by simp)
    have f7 : W1.cell? ⟨w.heap.size, 7, none⟩ = some (.slice a0 da.length p0) := (hb.cell (p := ⟨w.heap.size, 7, none⟩) (by simp)).trans (by simp)
    clear hb
    simp only [cond_true, cond_false]
    go_wp2_with fail
    refine (spec_OpOk _ [_, _, _, _, _, _, _, _] ⟨5, A, B, C, nm, tx, dr, da⟩ (Rep.mono HR.out HB1.out)).mono ?_
    rintro e W2 ⟨_, rfl, rfl, hb⟩
    rw [HOK.out]
    have HB2 := Lib.hid (bel_next HB1.out hb)
    have g0 : W2.cell? ⟨w.heap.size, 0, none⟩ = some (.int .i64 5) := (hb.cell (p := ⟨w.heap.size, 0, none⟩) (World.block_lt_of_cell? _ _ f0)).trans f0
    have g1 : W2.cell? ⟨w.heap.size, 1, none⟩ = some (.int .i64 A) := (hb.cell (p := ⟨w.heap.size, 1, none⟩) (World.block_lt_of_cell? _ _ f1)).trans f1
    have g2 : W2.cell? ⟨w.heap.size, 2, none⟩ = some (.int .i64 B) := (hb.cell (p := ⟨w.heap.size, 2, none⟩) (World.block_lt_of_cell? _ _ f2)).trans f2
    have g3 : W2.cell? ⟨w.heap.size, 3, none⟩ = some (.int .i64 C) := (hb.cell (p := ⟨w.heap.size, 3, none⟩) (World.block_lt_of_cell? _ _ f3)).trans f3
    have g4 : W2.cell? ⟨w.heap.size, 4, none⟩ = some (.string nm) := (hb.cell (p := ⟨w.heap.size, 4, none⟩) (World.block_lt_of_cell? _ _ f4)).trans f4
    have g5 : W2.cell? ⟨w.heap.size, 5, none⟩ = some (.string tx) := (hb.cell (p := ⟨w.heap.size, 5, none⟩) (World.block_lt_of_cell? _ _ f5)).trans f5
    have g6 : W2.cell? ⟨w.heap.size, 6, none⟩ = some (.string dr) := (hb.cell (p := ⟨w.heap.size, 6, none⟩) (World.block_lt_of_cell? _ _ f6)).trans f6
    have g7 : W2.cell? ⟨w.heap.size, 7, none⟩ = some (.slice a0 da.length p0) := (hb.cell (p := ⟨w.heap.size, 7, none⟩) (World.block_lt_of_cell? _ _ f7)).trans f7
    clear hb f0 f1 f2 f3 f4 f5 f6 f7
    go_wp2_with fail
    refine (spec_NumText _ _).mono ?_
    rintro e W3 ⟨_, rfl, rfl, hb⟩
    have HB3 := Lib.hid (bel_next HB2.out hb)
    have fu0 : W3.cell? ⟨w.heap.size, 0, none⟩ = some (.int .i64 5) := (hb.cell (p := ⟨w.heap.size, 0, none⟩) (World.block_lt_of_cell? _ _ g0)).trans g0
    have fu1 : W3.cell? ⟨w.heap.size, 1, none⟩ = some (.int .i64 A) := (hb.cell (p := ⟨w.heap.size, 1, none⟩) (World.block_lt_of_cell? _ _ g1)).trans g1
    have fu2 : W3.cell? ⟨w.heap.size, 2, none⟩ = some (.int .i64 B) := (hb.cell (p := ⟨w.heap.size, 2, none⟩) (World.block_lt_of_cell? _ _ g2)).trans g2
    have fu3 : W3.cell? ⟨w.heap.size, 3, none⟩ = some (.int .i64 C) := (hb.cell (p := ⟨w.heap.size, 3, none⟩) (World.block_lt_of_cell? _ _ g3)).trans g3
    have fu4 : W3.cell? ⟨w.heap.size, 4, none⟩ = some (.string nm) := (hb.cell (p := ⟨w.heap.size, 4, none⟩) (World.block_lt_of_cell? _ _ g4)).trans g4
    have fu5 : W3.cell? ⟨w.heap.size, 5, none⟩ = some (.string tx) := (hb.cell (p := ⟨w.heap.size, 5, none⟩) (World.block_lt_of_cell? _ _ g5)).trans g5
    have fu6 : W3.cell? ⟨w.heap.size, 6, none⟩ = some (.string dr) := (hb.cell (p := ⟨w.heap.size, 6, none⟩) (World.block_lt_of_cell? _ _ g6)).trans g6
    have fu7 : W3.cell? ⟨w.heap.size, 7, none⟩ = some (.slice a0 da.length p0) := (hb.cell (p := ⟨w.heap.size, 7, none⟩) (World.block_lt_of_cell? _ _ g7)).trans g7
    clear hb g0 g1 g2 g3 g4 g5 g6 g7
    go_wp2_with fail
    refine (spec_NumText _ _).mono ?_
    rintro e W4 ⟨_, rfl, rfl, hb⟩
    have HB4 := Lib.hid (bel_next HB3.out hb)
    have fk0 : W4.cell? ⟨w.heap.size, 0, none⟩ = some (.int .i64 5) := (hb.cell (p := ⟨w.heap.size, 0, none⟩) (World.block_lt_of_cell? _ _ fu0)).trans fu0
    have fk1 : W4.cell? ⟨w.heap.size, 1, none⟩ = some (.int .i64 A) := (hb.cell (p := ⟨w.heap.size, 1, none⟩) (World.block_lt_of_cell? _ _ fu1)).trans fu1
    have fk2 : W4.cell? ⟨w.heap.size, 2, none⟩ = some (.int .i64 B) := (hb.cell (p := ⟨w.heap.size, 2, none⟩) (World.block_lt_of_cell? _ _ fu2)).trans fu2
    have fk3 : W4.cell? ⟨w.heap.size, 3, none⟩ = some (.int .i64 C) := (hb.cell (p := ⟨w.heap.size, 3, none⟩) (World.block_lt_of_cell? _ _ fu3)).trans fu3
    have fk4 : W4.cell? ⟨w.heap.size, 4, none⟩ = some (.string nm) := (hb.cell (p := ⟨w.heap.size, 4, none⟩) (World.block_lt_of_cell? _ _ fu4)).trans fu4
    have fk5 : W4.cell? ⟨w.heap.size, 5, none⟩ = some (.string tx) := (hb.cell (p := ⟨w.heap.size, 5, none⟩) (World.block_lt_of_cell? _ _ fu5)).trans fu5
    have fk6 : W4.cell? ⟨w.heap.size, 6, none⟩ = some (.string dr) := (hb.cell (p := ⟨w.heap.size, 6, none⟩) (World.block_lt_of_cell? _ _ fu6)).trans fu6
    have fk7 : W4.cell? ⟨w.heap.size, 7, none⟩ = some (.slice a0 da.length p0) := (hb.cell (p := ⟨w.heap.size, 7, none⟩) (World.block_lt_of_cell? _ _ fu7)).trans fu7
    clear hb fu0 fu1 fu2 fu3 fu4 fu5 fu6 fu7
    go_wp2_with fail
    go_ret
    exact ⟨_, rfl, by show _ = Value.string _; rw [HN.out] <;> rfl, HB4.out⟩
  by_cases hk6 : kd = 6
  · subst hk6
    clear hk1 hk2 hk3 hk4 hk5
    have HN := Lib.hid (opText_noline (x := ⟨6, A, B, C, nm, tx, dr, da⟩) (by simp [hasLine]))
    have hT := (opOkB_nodir HOK.out (by simp [hasDir])).1
    dsimp only at hT
    have dT : decide (tx.toList = []) = true := decide_eq_true hT
    have eT : (tx.toList == []) = true := by simpa using hT
    have nT : (tx.toList != []) = false := by simpa using hT
    clear hT
    go_enter Tryd.func30, Tryd.ntmps30
    go_wp2_with fail
    refine (spec_l18Dir _ dr (by omega)).mono ?_
    rintro e W1 ⟨_, rfl, rfl, hb⟩
    rw [HDK.out]
    have HB1 := Lib.hid (bel_next (show Below w.heap.size w _ from (by repeat (first | (with_reducible exact Below.refl _ _) | (with_reducible assumption) | (with_reducible refine bel_alloc ?_ _) | ((with_reducible refine bel_set ?_ ?_ _); rotate_left; (focus first | (simp; done) | (simp; omega)))))) hb)
    have f0 : W1.cell? ⟨w.heap.size, 0, none⟩ = some (.int .i64 6) := (hb.cell (p := ⟨w.heap.size, 0, none⟩) (by simp)).trans (by simp)
    have f1 : W1.cell? ⟨w.heap.size, 1, none⟩ = some (.int .i64 A) := (hb.cell (p := ⟨w.heap.size, 1, none⟩) (by simp)).trans (by simp)
    have f2 : W1.cell? ⟨w.heap.size, 2, none⟩ = some (.int .i64 B) := (hb.cell (p := ⟨w.heap.size, 2, none⟩) (by simp)).trans (by simp)
    have f3 : W1.cell? ⟨w.heap.size, 3, none⟩ = some (.int .i64 C) := (hb.cell (p := ⟨w.heap.size, 3, none⟩) (by simp)).trans (by simp)
    have f4 : W1.cell? ⟨w.heap.size, 4, none⟩ = some (.string nm) := (hb.cell (p := ⟨w.heap.size, 4, none⟩) (by simp)).trans (by simp)
    have f5 : W1.cell? ⟨w.heap.size, 5, none⟩ = some (.string tx) := (hb.cell (p := ⟨w.heap.size, 5, none⟩) (by simp)).trans (by simp)
    have f6 : W1.cell? ⟨w.heap.size, 6, none⟩ = some (.string dr) := (hb.cell (p := ⟨w.heap.size, 6, none⟩) (by simp)).trans (by simp)
    have f7 : W1.cell? ⟨w.heap.size, 7, none⟩ = some (.slice a0 da.length p0) := (hb.cell (p := ⟨w.heap.size, 7, none⟩) (by simp)).trans (by simp)
    clear hb
    simp only [cond_true, cond_false]
    go_wp2_with fail
    refine (spec_OpOk _ [_, _, _, _, _, _, _, _] ⟨6, A, B, C, nm, tx, dr, da⟩ (Rep.mono HR.out HB1.out)).mono ?_
    rintro e W2 ⟨_, rfl, rfl, hb⟩
    rw [HOK.out]
    have HB2 := Lib.hid (bel_next HB1.out hb)
    have g0 : W2.cell? ⟨w.heap.size, 0, none⟩ = some (.int .i64 6) := (hb.cell (p := ⟨w.heap.size, 0, none⟩) (World.block_lt_of_cell? _ _ f0)).trans f0
    have g1 : W2.cell? ⟨w.heap.size, 1, none⟩ = some (.int .i64 A) := (hb.cell (p := ⟨w.heap.size, 1, none⟩) (World.block_lt_of_cell? _ _ f1)).trans f1
    have g2 : W2.cell? ⟨w.heap.size, 2, none⟩ = some (.int .i64 B) := (hb.cell (p := ⟨w.heap.size, 2, none⟩) (World.block_lt_of_cell? _ _ f2)).trans f2
    have g3 : W2.cell? ⟨w.heap.size, 3, none⟩ = some (.int .i64 C) := (hb.cell (p := ⟨w.heap.size, 3, none⟩) (World.block_lt_of_cell? _ _ f3)).trans f3
    have g4 : W2.cell? ⟨w.heap.size, 4, none⟩ = some (.string nm) := (hb.cell (p := ⟨w.heap.size, 4, none⟩) (World.block_lt_of_cell? _ _ f4)).trans f4
    have g5 : W2.cell? ⟨w.heap.size, 5, none⟩ = some (.string tx) := (hb.cell (p := ⟨w.heap.size, 5, none⟩) (World.block_lt_of_cell? _ _ f5)).trans f5
    have g6 : W2.cell? ⟨w.heap.size, 6, none⟩ = some (.string dr) := (hb.cell (p := ⟨w.heap.size, 6, none⟩) (World.block_lt_of_cell? _ _ f6)).trans f6
    have g7 : W2.cell? ⟨w.heap.size, 7, none⟩ = some (.slice a0 da.length p0) := (hb.cell (p := ⟨w.heap.size, 7, none⟩) (World.block_lt_of_cell? _ _ f7)).trans f7
    clear hb f0 f1 f2 f3 f4 f5 f6 f7
    go_wp2_with fail
    refine (spec_NumText _ _).mono ?_
    rintro e W3 ⟨_, rfl, rfl, hb⟩
    have HB3 := Lib.hid (bel_next HB2.out hb)
    have fu0 : W3.cell? ⟨w.heap.size, 0, none⟩ = some (.int .i64 6) := (hb.cell (p := ⟨w.heap.size, 0, none⟩) (World.block_lt_of_cell? _ _ g0)).trans g0
    have fu1 : W3.cell? ⟨w.heap.size, 1, none⟩ = some (.int .i64 A) := (hb.cell (p := ⟨w.heap.size, 1, none⟩) (World.block_lt_of_cell? _ _ g1)).trans g1
    have fu2 : W3.cell? ⟨w.heap.size, 2, none⟩ = some (.int .i64 B) := (hb.cell (p := ⟨w.heap.size, 2, none⟩) (World.block_lt_of_cell? _ _ g2)).trans g2
    have fu3 : W3.cell? ⟨w.heap.size, 3, none⟩ = some (.int .i64 C) := (hb.cell (p := ⟨w.heap.size, 3, none⟩) (World.block_lt_of_cell? _ _ g3)).trans g3
    have fu4 : W3.cell? ⟨w.heap.size, 4, none⟩ = some (.string nm) := (hb.cell (p := ⟨w.heap.size, 4, none⟩) (World.block_lt_of_cell? _ _ g4)).trans g4
    have fu5 : W3.cell? ⟨w.heap.size, 5, none⟩ = some (.string tx) := (hb.cell (p := ⟨w.heap.size, 5, none⟩) (World.block_lt_of_cell? _ _ g5)).trans g5
    have fu6 : W3.cell? ⟨w.heap.size, 6, none⟩ = some (.string dr) := (hb.cell (p := ⟨w.heap.size, 6, none⟩) (World.block_lt_of_cell? _ _ g6)).trans g6
    have fu7 : W3.cell? ⟨w.heap.size, 7, none⟩ = some (.slice a0 da.length p0) := (hb.cell (p := ⟨w.heap.size, 7, none⟩) (World.block_lt_of_cell? _ _ g7)).trans g7
    clear hb g0 g1 g2 g3 g4 g5 g6 g7
    go_wp2_with fail
    refine (spec_NumText _ _).mono ?_
    rintro e W4 ⟨_, rfl, rfl, hb⟩
    have HB4 := Lib.hid (bel_next HB3.out hb)
    have fk0 : W4.cell? ⟨w.heap.size, 0, none⟩ = some (.int .i64 6) := (hb.cell (p := ⟨w.heap.size, 0, none⟩) (World.block_lt_of_cell? _ _ fu0)).trans fu0
    have fk1 : W4.cell? ⟨w.heap.size, 1, none⟩ = some (.int .i64 A) := (hb.cell (p := ⟨w.heap.size, 1, none⟩) (World.block_lt_of_cell? _ _ fu1)).trans fu1
    have fk2 : W4.cell? ⟨w.heap.size, 2, none⟩ = some (.int .i64 B) := (hb.cell (p := ⟨w.heap.size, 2, none⟩) (World.block_lt_of_cell? _ _ fu2)).trans fu2
    have fk3 : W4.cell? ⟨w.heap.size, 3, none⟩ = some (.int .i64 C) := (hb.cell (p := ⟨w.heap.size, 3, none⟩) (World.block_lt_of_cell? _ _ fu3)).trans fu3
    have fk4 : W4.cell? ⟨w.heap.size, 4, none⟩ = some (.string nm) := (hb.cell (p := ⟨w.heap.size, 4, none⟩) (World.block_lt_of_cell? _ _ fu4)).trans fu4
    have fk5 : W4.cell? ⟨w.heap.size, 5, none⟩ = some (.string tx) := (hb.cell (p := ⟨w.heap.size, 5, none⟩) (World.block_lt_of_cell? _ _ fu5)).trans fu5
    have fk6 : W4.cell? ⟨w.heap.size, 6, none⟩ = some (.string dr) := (hb.cell (p := ⟨w.heap.size, 6, none⟩) (World.block_lt_of_cell? _ _ fu6)).trans fu6
    have fk7 : W4.cell? ⟨w.heap.size, 7, none⟩ = some (.slice a0 da.length p0) := (hb.cell (p := ⟨w.heap.size, 7, none⟩) (World.block_lt_of_cell? _ _ fu7)).trans fu7
    clear hb fu0 fu1 fu2 fu3 fu4 fu5 fu6 fu7
    go_wp2_with fail
    go_ret
    exact ⟨_, rfl, by show _ = Value.string _; rw [HN.out] <;> rfl, HB4.out⟩
  by_cases hk7 : kd = 7
  · subst hk7
    clear hk1 hk2 hk3 hk4 hk5 hk6
    have hT := (opOkB_nodir HOK.out (by simp [hasDir])).1
    dsimp only at hT
    have dT : decide (tx.toList = []) = true := decide_eq_true hT
    have eT : (tx.toList == []) = true := by simpa using hT
    have nT : (tx.toList != []) = false := by simpa using hT
    have HN := Lib.hid (show opText ⟨7, A, B, C, nm, tx, dr, da⟩ = (⟨#[115, 101, 108, 101, 99, 116, 32]⟩ : ByteArray) ++ numText A from by
      rw [opText_yes' HOK.out (by simp [hasLine]) HDK.out (l := [(⟨#[115, 101, 108, 101, 99, 116]⟩ : ByteArray), numText A]) (by simp [headW, tailW, hasDir]), joinT2]
      refine Go.WideShapes.bytes_inj ?_
      unfold bl
      simp [ByteArray.toList_data_append])
    clear hT
    go_enter Tryd.func30, Tryd.ntmps30
    go_wp2_with fail
    refine (spec_l18Dir _ dr (by omega)).mono ?_
    rintro e W1 ⟨_, rfl, rfl, hb⟩
    rw [HDK.out]
    have HB1 := Lib.hid (bel_next (show Below w.heap.size w _ from (by repeat (first | (with_reducible exact Below.refl _ _) | (with_reducible assumption) | (with_reducible refine bel_alloc ?_ _) | ((with_reducible refine bel_set ?_ ?_ _); rotate_left; (focus first | (simp; done) | (simp; omega)))))) hb)
    have f0 : W1.cell? ⟨w.heap.size, 0, none⟩ = some (.int .i64 7) := (hb.cell (p := ⟨w.heap.size, 0, none⟩) (by simp)).trans (by simp)
    have f1 : W1.cell? ⟨w.heap.size, 1, none⟩ = some (.int .i64 A) := (hb.cell (p := ⟨w.heap.size, 1, none⟩) (by simp)).trans (by simp)
    have f2 : W1.cell? ⟨w.heap.size, 2, none⟩ = some (.int .i64 B) := (hb.cell (p := ⟨w.heap.size, 2, none⟩) (by simp)).trans (by simp)
    have f3 : W1.cell? ⟨w.heap.size, 3, none⟩ = some (.int .i64 C) := (hb.cell (p := ⟨w.heap.size, 3, none⟩) (by simp)).trans (by simp)
    have f4 : W1.cell? ⟨w.heap.size, 4, none⟩ = some (.string nm) := (hb.cell (p := ⟨w.heap.size, 4, none⟩) (by simp)).trans (by simp)
    have f5 : W1.cell? ⟨w.heap.size, 5, none⟩ = some (.string tx) := (hb.cell (p := ⟨w.heap.size, 5, none⟩) (by simp)).trans (by simp)
    have f6 : W1.cell? ⟨w.heap.size, 6, none⟩ = some (.string dr) := (hb.cell (p := ⟨w.heap.size, 6, none⟩) (by simp)).trans (by simp)
    have f7 : W1.cell? ⟨w.heap.size, 7, none⟩ = some (.slice a0 da.length p0) := (hb.cell (p := ⟨w.heap.size, 7, none⟩) (by simp)).trans (by simp)
    clear hb
    simp only [cond_true, cond_false]
    go_wp2_with fail
    refine (spec_OpOk _ [_, _, _, _, _, _, _, _] ⟨7, A, B, C, nm, tx, dr, da⟩ (Rep.mono HR.out HB1.out)).mono ?_
    rintro e W2 ⟨_, rfl, rfl, hb⟩
    rw [HOK.out]
    have HB2 := Lib.hid (bel_next HB1.out hb)
    have g0 : W2.cell? ⟨w.heap.size, 0, none⟩ = some (.int .i64 7) := (hb.cell (p := ⟨w.heap.size, 0, none⟩) (World.block_lt_of_cell? _ _ f0)).trans f0
    have g1 : W2.cell? ⟨w.heap.size, 1, none⟩ = some (.int .i64 A) := (hb.cell (p := ⟨w.heap.size, 1, none⟩) (World.block_lt_of_cell? _ _ f1)).trans f1
    have g2 : W2.cell? ⟨w.heap.size, 2, none⟩ = some (.int .i64 B) := (hb.cell (p := ⟨w.heap.size, 2, none⟩) (World.block_lt_of_cell? _ _ f2)).trans f2
    have g3 : W2.cell? ⟨w.heap.size, 3, none⟩ = some (.int .i64 C) := (hb.cell (p := ⟨w.heap.size, 3, none⟩) (World.block_lt_of_cell? _ _ f3)).trans f3
    have g4 : W2.cell? ⟨w.heap.size, 4, none⟩ = some (.string nm) := (hb.cell (p := ⟨w.heap.size, 4, none⟩) (World.block_lt_of_cell? _ _ f4)).trans f4
    have g5 : W2.cell? ⟨w.heap.size, 5, none⟩ = some (.string tx) := (hb.cell (p := ⟨w.heap.size, 5, none⟩) (World.block_lt_of_cell? _ _ f5)).trans f5
    have g6 : W2.cell? ⟨w.heap.size, 6, none⟩ = some (.string dr) := (hb.cell (p := ⟨w.heap.size, 6, none⟩) (World.block_lt_of_cell? _ _ f6)).trans f6
    have g7 : W2.cell? ⟨w.heap.size, 7, none⟩ = some (.slice a0 da.length p0) := (hb.cell (p := ⟨w.heap.size, 7, none⟩) (World.block_lt_of_cell? _ _ f7)).trans f7
    clear hb f0 f1 f2 f3 f4 f5 f6 f7
    go_wp2_with fail
    refine (spec_NumText _ _).mono ?_
    rintro e W3 ⟨_, rfl, rfl, hb⟩
    have HB3 := Lib.hid (bel_next HB2.out hb)
    have fu0 : W3.cell? ⟨w.heap.size, 0, none⟩ = some (.int .i64 7) := (hb.cell (p := ⟨w.heap.size, 0, none⟩) (World.block_lt_of_cell? _ _ g0)).trans g0
    have fu1 : W3.cell? ⟨w.heap.size, 1, none⟩ = some (.int .i64 A) := (hb.cell (p := ⟨w.heap.size, 1, none⟩) (World.block_lt_of_cell? _ _ g1)).trans g1
    have fu2 : W3.cell? ⟨w.heap.size, 2, none⟩ = some (.int .i64 B) := (hb.cell (p := ⟨w.heap.size, 2, none⟩) (World.block_lt_of_cell? _ _ g2)).trans g2
    have fu3 : W3.cell? ⟨w.heap.size, 3, none⟩ = some (.int .i64 C) := (hb.cell (p := ⟨w.heap.size, 3, none⟩) (World.block_lt_of_cell? _ _ g3)).trans g3
    have fu4 : W3.cell? ⟨w.heap.size, 4, none⟩ = some (.string nm) := (hb.cell (p := ⟨w.heap.size, 4, none⟩) (World.block_lt_of_cell? _ _ g4)).trans g4
    have fu5 : W3.cell? ⟨w.heap.size, 5, none⟩ = some (.string tx) := (hb.cell (p := ⟨w.heap.size, 5, none⟩) (World.block_lt_of_cell? _ _ g5)).trans g5
    have fu6 : W3.cell? ⟨w.heap.size, 6, none⟩ = some (.string dr) := (hb.cell (p := ⟨w.heap.size, 6, none⟩) (World.block_lt_of_cell? _ _ g6)).trans g6
    have fu7 : W3.cell? ⟨w.heap.size, 7, none⟩ = some (.slice a0 da.length p0) := (hb.cell (p := ⟨w.heap.size, 7, none⟩) (World.block_lt_of_cell? _ _ g7)).trans g7
    clear hb g0 g1 g2 g3 g4 g5 g6 g7
    go_wp2_with fail
    refine (spec_NumText _ _).mono ?_
    rintro e W4 ⟨_, rfl, rfl, hb⟩
    have HB4 := Lib.hid (bel_next HB3.out hb)
    have fk0 : W4.cell? ⟨w.heap.size, 0, none⟩ = some (.int .i64 7) := (hb.cell (p := ⟨w.heap.size, 0, none⟩) (World.block_lt_of_cell? _ _ fu0)).trans fu0
    have fk1 : W4.cell? ⟨w.heap.size, 1, none⟩ = some (.int .i64 A) := (hb.cell (p := ⟨w.heap.size, 1, none⟩) (World.block_lt_of_cell? _ _ fu1)).trans fu1
    have fk2 : W4.cell? ⟨w.heap.size, 2, none⟩ = some (.int .i64 B) := (hb.cell (p := ⟨w.heap.size, 2, none⟩) (World.block_lt_of_cell? _ _ fu2)).trans fu2
    have fk3 : W4.cell? ⟨w.heap.size, 3, none⟩ = some (.int .i64 C) := (hb.cell (p := ⟨w.heap.size, 3, none⟩) (World.block_lt_of_cell? _ _ fu3)).trans fu3
    have fk4 : W4.cell? ⟨w.heap.size, 4, none⟩ = some (.string nm) := (hb.cell (p := ⟨w.heap.size, 4, none⟩) (World.block_lt_of_cell? _ _ fu4)).trans fu4
    have fk5 : W4.cell? ⟨w.heap.size, 5, none⟩ = some (.string tx) := (hb.cell (p := ⟨w.heap.size, 5, none⟩) (World.block_lt_of_cell? _ _ fu5)).trans fu5
    have fk6 : W4.cell? ⟨w.heap.size, 6, none⟩ = some (.string dr) := (hb.cell (p := ⟨w.heap.size, 6, none⟩) (World.block_lt_of_cell? _ _ fu6)).trans fu6
    have fk7 : W4.cell? ⟨w.heap.size, 7, none⟩ = some (.slice a0 da.length p0) := (hb.cell (p := ⟨w.heap.size, 7, none⟩) (World.block_lt_of_cell? _ _ fu7)).trans fu7
    clear hb fu0 fu1 fu2 fu3 fu4 fu5 fu6 fu7
    go_wp2_with fail
    go_ret
    exact ⟨_, rfl, by show _ = Value.string _; rw [HN.out] <;> rfl, HB4.out⟩
  by_cases hk8 : kd = 8
  · subst hk8
    clear hk1 hk2 hk3 hk4 hk5 hk6 hk7
    have hT := (opOkB_nodir HOK.out (by simp [hasDir])).1
    dsimp only at hT
    have dT : decide (tx.toList = []) = true := decide_eq_true hT
    have eT : (tx.toList == []) = true := by simpa using hT
    have nT : (tx.toList != []) = false := by simpa using hT
    have HN := Lib.hid (show opText ⟨8, A, B, C, nm, tx, dr, da⟩ = (⟨#[122, 111, 111, 109, 32]⟩ : ByteArray) ++ numText A from by
      rw [opText_yes' HOK.out (by simp [hasLine]) HDK.out (l := [(⟨#[122, 111, 111, 109]⟩ : ByteArray), numText A]) (by simp [headW, tailW, hasDir]), joinT2]
      refine Go.WideShapes.bytes_inj ?_
      unfold bl
      simp [ByteArray.toList_data_append])
    clear hT
    go_enter Tryd.func30, Tryd.ntmps30
    go_wp2_with fail
    refine (spec_l18Dir _ dr (by omega)).mono ?_
    rintro e W1 ⟨_, rfl, rfl, hb⟩
    rw [HDK.out]
    have HB1 := Lib.hid (bel_next (show Below w.heap.size w _ from (by repeat (first | (with_reducible exact Below.refl _ _) | (with_reducible assumption) | (with_reducible refine bel_alloc ?_ _) | ((with_reducible refine bel_set ?_ ?_ _); rotate_left; (focus first | (simp; done) | (simp; omega)))))) hb)
    have f0 : W1.cell? ⟨w.heap.size, 0, none⟩ = some (.int .i64 8) := (hb.cell (p := ⟨w.heap.size, 0, none⟩) (by simp)).trans (by simp)
    have f1 : W1.cell? ⟨w.heap.size, 1, none⟩ = some (.int .i64 A) := (hb.cell (p := ⟨w.heap.size, 1, none⟩) (by simp)).trans (by simp)
    have f2 : W1.cell? ⟨w.heap.size, 2, none⟩ = some (.int .i64 B) := (hb.cell (p := ⟨w.heap.size, 2, none⟩) (by simp)).trans (by simp)
    have f3 : W1.cell? ⟨w.heap.size, 3, none⟩ = some (.int .i64 C) := (hb.cell (p := ⟨w.heap.size, 3, none⟩) (by simp)).trans (by simp)
    have f4 : W1.cell? ⟨w.heap.size, 4, none⟩ = some (.string nm) := (hb.cell (p := ⟨w.heap.size, 4, none⟩) (by simp)).trans (by simp)
    have f5 : W1.cell? ⟨w.heap.size, 5, none⟩ = some (.string tx) := (hb.cell (p := ⟨w.heap.size, 5, none⟩) (by simp)).trans (by simp)
    have f6 : W1.cell? ⟨w.heap.size, 6, none⟩ = some (.string dr) := (hb.cell (p := ⟨w.heap.size, 6, none⟩) (by simp)).trans (by simp)
    have f7 : W1.cell? ⟨w.heap.size, 7, none⟩ = some (.slice a0 da.length p0) := (hb.cell (p := ⟨w.heap.size, 7, none⟩) (by simp)).trans (by simp)
    clear hb
    simp only [cond_true, cond_false]
    go_wp2_with fail
    refine (spec_OpOk _ [_, _, _, _, _, _, _, _] ⟨8, A, B, C, nm, tx, dr, da⟩ (Rep.mono HR.out HB1.out)).mono ?_
    rintro e W2 ⟨_, rfl, rfl, hb⟩
    rw [HOK.out]
    have HB2 := Lib.hid (bel_next HB1.out hb)
    have g0 : W2.cell? ⟨w.heap.size, 0, none⟩ = some (.int .i64 8) := (hb.cell (p := ⟨w.heap.size, 0, none⟩) (World.block_lt_of_cell? _ _ f0)).trans f0
    have g1 : W2.cell? ⟨w.heap.size, 1, none⟩ = some (.int .i64 A) := (hb.cell (p := ⟨w.heap.size, 1, none⟩) (World.block_lt_of_cell? _ _ f1)).trans f1
    have g2 : W2.cell? ⟨w.heap.size, 2, none⟩ = some (.int .i64 B) := (hb.cell (p := ⟨w.heap.size, 2, none⟩) (World.block_lt_of_cell? _ _ f2)).trans f2
    have g3 : W2.cell? ⟨w.heap.size, 3, none⟩ = some (.int .i64 C) := (hb.cell (p := ⟨w.heap.size, 3, none⟩) (World.block_lt_of_cell? _ _ f3)).trans f3
    have g4 : W2.cell? ⟨w.heap.size, 4, none⟩ = some (.string nm) := (hb.cell (p := ⟨w.heap.size, 4, none⟩) (World.block_lt_of_cell? _ _ f4)).trans f4
    have g5 : W2.cell? ⟨w.heap.size, 5, none⟩ = some (.string tx) := (hb.cell (p := ⟨w.heap.size, 5, none⟩) (World.block_lt_of_cell? _ _ f5)).trans f5
    have g6 : W2.cell? ⟨w.heap.size, 6, none⟩ = some (.string dr) := (hb.cell (p := ⟨w.heap.size, 6, none⟩) (World.block_lt_of_cell? _ _ f6)).trans f6
    have g7 : W2.cell? ⟨w.heap.size, 7, none⟩ = some (.slice a0 da.length p0) := (hb.cell (p := ⟨w.heap.size, 7, none⟩) (World.block_lt_of_cell? _ _ f7)).trans f7
    clear hb f0 f1 f2 f3 f4 f5 f6 f7
    go_wp2_with fail
    refine (spec_NumText _ _).mono ?_
    rintro e W3 ⟨_, rfl, rfl, hb⟩
    have HB3 := Lib.hid (bel_next HB2.out hb)
    have fu0 : W3.cell? ⟨w.heap.size, 0, none⟩ = some (.int .i64 8) := (hb.cell (p := ⟨w.heap.size, 0, none⟩) (World.block_lt_of_cell? _ _ g0)).trans g0
    have fu1 : W3.cell? ⟨w.heap.size, 1, none⟩ = some (.int .i64 A) := (hb.cell (p := ⟨w.heap.size, 1, none⟩) (World.block_lt_of_cell? _ _ g1)).trans g1
    have fu2 : W3.cell? ⟨w.heap.size, 2, none⟩ = some (.int .i64 B) := (hb.cell (p := ⟨w.heap.size, 2, none⟩) (World.block_lt_of_cell? _ _ g2)).trans g2
    have fu3 : W3.cell? ⟨w.heap.size, 3, none⟩ = some (.int .i64 C) := (hb.cell (p := ⟨w.heap.size, 3, none⟩) (World.block_lt_of_cell? _ _ g3)).trans g3
    have fu4 : W3.cell? ⟨w.heap.size, 4, none⟩ = some (.string nm) := (hb.cell (p := ⟨w.heap.size, 4, none⟩) (World.block_lt_of_cell? _ _ g4)).trans g4
    have fu5 : W3.cell? ⟨w.heap.size, 5, none⟩ = some (.string tx) := (hb.cell (p := ⟨w.heap.size, 5, none⟩) (World.block_lt_of_cell? _ _ g5)).trans g5
    have fu6 : W3.cell? ⟨w.heap.size, 6, none⟩ = some (.string dr) := (hb.cell (p := ⟨w.heap.size, 6, none⟩) (World.block_lt_of_cell? _ _ g6)).trans g6
    have fu7 : W3.cell? ⟨w.heap.size, 7, none⟩ = some (.slice a0 da.length p0) := (hb.cell (p := ⟨w.heap.size, 7, none⟩) (World.block_lt_of_cell? _ _ g7)).trans g7
    clear hb g0 g1 g2 g3 g4 g5 g6 g7
    go_wp2_with fail
    refine (spec_NumText _ _).mono ?_
    rintro e W4 ⟨_, rfl, rfl, hb⟩
    have HB4 := Lib.hid (bel_next HB3.out hb)
    have fk0 : W4.cell? ⟨w.heap.size, 0, none⟩ = some (.int .i64 8) := (hb.cell (p := ⟨w.heap.size, 0, none⟩) (World.block_lt_of_cell? _ _ fu0)).trans fu0
    have fk1 : W4.cell? ⟨w.heap.size, 1, none⟩ = some (.int .i64 A) := (hb.cell (p := ⟨w.heap.size, 1, none⟩) (World.block_lt_of_cell? _ _ fu1)).trans fu1
    have fk2 : W4.cell? ⟨w.heap.size, 2, none⟩ = some (.int .i64 B) := (hb.cell (p := ⟨w.heap.size, 2, none⟩) (World.block_lt_of_cell? _ _ fu2)).trans fu2
    have fk3 : W4.cell? ⟨w.heap.size, 3, none⟩ = some (.int .i64 C) := (hb.cell (p := ⟨w.heap.size, 3, none⟩) (World.block_lt_of_cell? _ _ fu3)).trans fu3
    have fk4 : W4.cell? ⟨w.heap.size, 4, none⟩ = some (.string nm) := (hb.cell (p := ⟨w.heap.size, 4, none⟩) (World.block_lt_of_cell? _ _ fu4)).trans fu4
    have fk5 : W4.cell? ⟨w.heap.size, 5, none⟩ = some (.string tx) := (hb.cell (p := ⟨w.heap.size, 5, none⟩) (World.block_lt_of_cell? _ _ fu5)).trans fu5
    have fk6 : W4.cell? ⟨w.heap.size, 6, none⟩ = some (.string dr) := (hb.cell (p := ⟨w.heap.size, 6, none⟩) (World.block_lt_of_cell? _ _ fu6)).trans fu6
    have fk7 : W4.cell? ⟨w.heap.size, 7, none⟩ = some (.slice a0 da.length p0) := (hb.cell (p := ⟨w.heap.size, 7, none⟩) (World.block_lt_of_cell? _ _ fu7)).trans fu7
    clear hb fu0 fu1 fu2 fu3 fu4 fu5 fu6 fu7
    go_wp2_with fail
    go_ret
    exact ⟨_, rfl, by show _ = Value.string _; rw [HN.out] <;> rfl, HB4.out⟩
  by_cases hk9 : kd = 9
  · subst hk9
    clear hk1 hk2 hk3 hk4 hk5 hk6 hk7 hk8
    have hT := (opOkB_nodir HOK.out (by simp [hasDir])).1
    dsimp only at hT
    have dT : decide (tx.toList = []) = true := decide_eq_true hT
    have eT : (tx.toList == []) = true := by simpa using hT
    have nT : (tx.toList != []) = false := by simpa using hT
    have HN := Lib.hid (show opText ⟨9, A, B, C, nm, tx, dr, da⟩ = (((⟨#[115, 119, 97, 112, 32]⟩ : ByteArray) ++ numText A) ++ (⟨#[32]⟩ : ByteArray)) ++ numText B from by
      rw [opText_yes' HOK.out (by simp [hasLine]) HDK.out (l := [(⟨#[115, 119, 97, 112]⟩ : ByteArray), numText A, numText B]) (by simp [headW, tailW, hasDir]), joinT3]
      refine Go.WideShapes.bytes_inj ?_
      unfold bl
      simp [ByteArray.toList_data_append])
    clear hT
    go_enter Tryd.func30, Tryd.ntmps30
    go_wp2_with fail
    refine (spec_l18Dir _ dr (by omega)).mono ?_
    rintro e W1 ⟨_, rfl, rfl, hb⟩
    rw [HDK.out]
    have HB1 := Lib.hid (bel_next (show Below w.heap.size w _ from (by repeat (first | (with_reducible exact Below.refl _ _) | (with_reducible assumption) | (with_reducible refine bel_alloc ?_ _) | ((with_reducible refine bel_set ?_ ?_ _); rotate_left; (focus first | (simp; done) | (simp; omega)))))) hb)
    have f0 : W1.cell? ⟨w.heap.size, 0, none⟩ = some (.int .i64 9) := (hb.cell (p := ⟨w.heap.size, 0, none⟩) (by simp)).trans (by simp)
    have f1 : W1.cell? ⟨w.heap.size, 1, none⟩ = some (.int .i64 A) := (hb.cell (p := ⟨w.heap.size, 1, none⟩) (by simp)).trans (by simp)
    have f2 : W1.cell? ⟨w.heap.size, 2, none⟩ = some (.int .i64 B) := (hb.cell (p := ⟨w.heap.size, 2, none⟩) (by simp)).trans (by simp)
    have f3 : W1.cell? ⟨w.heap.size, 3, none⟩ = some (.int .i64 C) := (hb.cell (p := ⟨w.heap.size, 3, none⟩) (by simp)).trans (by simp)
    have f4 : W1.cell? ⟨w.heap.size, 4, none⟩ = some (.string nm) := (hb.cell (p := ⟨w.heap.size, 4, none⟩) (by simp)).trans (by simp)
    have f5 : W1.cell? ⟨w.heap.size, 5, none⟩ = some (.string tx) := (hb.cell (p := ⟨w.heap.size, 5, none⟩) (by simp)).trans (by simp)
    have f6 : W1.cell? ⟨w.heap.size, 6, none⟩ = some (.string dr) := (hb.cell (p := ⟨w.heap.size, 6, none⟩) (by simp)).trans (by simp)
    have f7 : W1.cell? ⟨w.heap.size, 7, none⟩ = some (.slice a0 da.length p0) := (hb.cell (p := ⟨w.heap.size, 7, none⟩) (by simp)).trans (by simp)
    clear hb
    simp only [cond_true, cond_false]
    go_wp2_with fail
    refine (spec_OpOk _ [_, _, _, _, _, _, _, _] ⟨9, A, B, C, nm, tx, dr, da⟩ (Rep.mono HR.out HB1.out)).mono ?_
    rintro e W2 ⟨_, rfl, rfl, hb⟩
    rw [HOK.out]
    have HB2 := Lib.hid (bel_next HB1.out hb)
    have g0 : W2.cell? ⟨w.heap.size, 0, none⟩ = some (.int .i64 9) := (hb.cell (p := ⟨w.heap.size, 0, none⟩) (World.block_lt_of_cell? _ _ f0)).trans f0
    have g1 : W2.cell? ⟨w.heap.size, 1, none⟩ = some (.int .i64 A) := (hb.cell (p := ⟨w.heap.size, 1, none⟩) (World.block_lt_of_cell? _ _ f1)).trans f1
    have g2 : W2.cell? ⟨w.heap.size, 2, none⟩ = some (.int .i64 B) := (hb.cell (p := ⟨w.heap.size, 2, none⟩) (World.block_lt_of_cell? _ _ f2)).trans f2
    have g3 : W2.cell? ⟨w.heap.size, 3, none⟩ = some (.int .i64 C) := (hb.cell (p := ⟨w.heap.size, 3, none⟩) (World.block_lt_of_cell? _ _ f3)).trans f3
    have g4 : W2.cell? ⟨w.heap.size, 4, none⟩ = some (.string nm) := (hb.cell (p := ⟨w.heap.size, 4, none⟩) (World.block_lt_of_cell? _ _ f4)).trans f4
    have g5 : W2.cell? ⟨w.heap.size, 5, none⟩ = some (.string tx) := (hb.cell (p := ⟨w.heap.size, 5, none⟩) (World.block_lt_of_cell? _ _ f5)).trans f5
    have g6 : W2.cell? ⟨w.heap.size, 6, none⟩ = some (.string dr) := (hb.cell (p := ⟨w.heap.size, 6, none⟩) (World.block_lt_of_cell? _ _ f6)).trans f6
    have g7 : W2.cell? ⟨w.heap.size, 7, none⟩ = some (.slice a0 da.length p0) := (hb.cell (p := ⟨w.heap.size, 7, none⟩) (World.block_lt_of_cell? _ _ f7)).trans f7
    clear hb f0 f1 f2 f3 f4 f5 f6 f7
    go_wp2_with fail
    refine (spec_NumText _ _).mono ?_
    rintro e W3 ⟨_, rfl, rfl, hb⟩
    have HB3 := Lib.hid (bel_next HB2.out hb)
    have fu0 : W3.cell? ⟨w.heap.size, 0, none⟩ = some (.int .i64 9) := (hb.cell (p := ⟨w.heap.size, 0, none⟩) (World.block_lt_of_cell? _ _ g0)).trans g0
    have fu1 : W3.cell? ⟨w.heap.size, 1, none⟩ = some (.int .i64 A) := (hb.cell (p := ⟨w.heap.size, 1, none⟩) (World.block_lt_of_cell? _ _ g1)).trans g1
    have fu2 : W3.cell? ⟨w.heap.size, 2, none⟩ = some (.int .i64 B) := (hb.cell (p := ⟨w.heap.size, 2, none⟩) (World.block_lt_of_cell? _ _ g2)).trans g2
    have fu3 : W3.cell? ⟨w.heap.size, 3, none⟩ = some (.int .i64 C) := (hb.cell (p := ⟨w.heap.size, 3, none⟩) (World.block_lt_of_cell? _ _ g3)).trans g3
    have fu4 : W3.cell? ⟨w.heap.size, 4, none⟩ = some (.string nm) := (hb.cell (p := ⟨w.heap.size, 4, none⟩) (World.block_lt_of_cell? _ _ g4)).trans g4
    have fu5 : W3.cell? ⟨w.heap.size, 5, none⟩ = some (.string tx) := (hb.cell (p := ⟨w.heap.size, 5, none⟩) (World.block_lt_of_cell? _ _ g5)).trans g5
    have fu6 : W3.cell? ⟨w.heap.size, 6, none⟩ = some (.string dr) := (hb.cell (p := ⟨w.heap.size, 6, none⟩) (World.block_lt_of_cell? _ _ g6)).trans g6
    have fu7 : W3.cell? ⟨w.heap.size, 7, none⟩ = some (.slice a0 da.length p0) := (hb.cell (p := ⟨w.heap.size, 7, none⟩) (World.block_lt_of_cell? _ _ g7)).trans g7
    clear hb g0 g1 g2 g3 g4 g5 g6 g7
    go_wp2_with fail
    refine (spec_NumText _ _).mono ?_
    rintro e W4 ⟨_, rfl, rfl, hb⟩
    have HB4 := Lib.hid (bel_next HB3.out hb)
    have fk0 : W4.cell? ⟨w.heap.size, 0, none⟩ = some (.int .i64 9) := (hb.cell (p := ⟨w.heap.size, 0, none⟩) (World.block_lt_of_cell? _ _ fu0)).trans fu0
    have fk1 : W4.cell? ⟨w.heap.size, 1, none⟩ = some (.int .i64 A) := (hb.cell (p := ⟨w.heap.size, 1, none⟩) (World.block_lt_of_cell? _ _ fu1)).trans fu1
    have fk2 : W4.cell? ⟨w.heap.size, 2, none⟩ = some (.int .i64 B) := (hb.cell (p := ⟨w.heap.size, 2, none⟩) (World.block_lt_of_cell? _ _ fu2)).trans fu2
    have fk3 : W4.cell? ⟨w.heap.size, 3, none⟩ = some (.int .i64 C) := (hb.cell (p := ⟨w.heap.size, 3, none⟩) (World.block_lt_of_cell? _ _ fu3)).trans fu3
    have fk4 : W4.cell? ⟨w.heap.size, 4, none⟩ = some (.string nm) := (hb.cell (p := ⟨w.heap.size, 4, none⟩) (World.block_lt_of_cell? _ _ fu4)).trans fu4
    have fk5 : W4.cell? ⟨w.heap.size, 5, none⟩ = some (.string tx) := (hb.cell (p := ⟨w.heap.size, 5, none⟩) (World.block_lt_of_cell? _ _ fu5)).trans fu5
    have fk6 : W4.cell? ⟨w.heap.size, 6, none⟩ = some (.string dr) := (hb.cell (p := ⟨w.heap.size, 6, none⟩) (World.block_lt_of_cell? _ _ fu6)).trans fu6
    have fk7 : W4.cell? ⟨w.heap.size, 7, none⟩ = some (.slice a0 da.length p0) := (hb.cell (p := ⟨w.heap.size, 7, none⟩) (World.block_lt_of_cell? _ _ fu7)).trans fu7
    clear hb fu0 fu1 fu2 fu3 fu4 fu5 fu6 fu7
    go_wp2_with fail
    go_ret
    exact ⟨_, rfl, by show _ = Value.string _; rw [HN.out] <;> rfl, HB4.out⟩
  by_cases hk10 : kd = 10
  · subst hk10
    clear hk1 hk2 hk3 hk4 hk5 hk6 hk7 hk8 hk9
    have hT := (opOkB_nodir HOK.out (by simp [hasDir])).1
    dsimp only at hT
    have dT : decide (tx.toList = []) = true := decide_eq_true hT
    have eT : (tx.toList == []) = true := by simpa using hT
    have nT : (tx.toList != []) = false := by simpa using hT
    have HN := Lib.hid (show opText ⟨10, A, B, C, nm, tx, dr, da⟩ = (((((⟨#[103, 114, 111, 119, 32]⟩ : ByteArray) ++ numText A) ++ (⟨#[32]⟩ : ByteArray)) ++ sideT B) ++ (⟨#[32]⟩ : ByteArray)) ++ numText C from by
      rw [opText_yes' HOK.out (by simp [hasLine]) HDK.out (l := [(⟨#[103, 114, 111, 119]⟩ : ByteArray), numText A, sideT B, numText C]) (by simp [headW, tailW, hasDir]), joinT4]
      refine Go.WideShapes.bytes_inj ?_
      unfold bl
      simp [ByteArray.toList_data_append])
    clear hT
    have z0 : (9223372036854775807 < 5 + (numText A).size) = False := eq_false (by omega)
    have z1 : (9223372036854775807 < 5 + (numText A).size + 1) = False := eq_false (by omega)
    have z2 : (9223372036854775807 < 5 + (numText A).size + 1 + (sideT B).size) = False := eq_false (by omega)
    have z3 : (9223372036854775807 < 5 + (numText A).size + 1 + (sideT B).size + 1) = False := eq_false (by omega)
    have z4 : (9223372036854775807 < 5 + (numText A).size + 1 + (sideT B).size + 1 + (numText C).size) = False := eq_false (by omega)
    go_enter Tryd.func30, Tryd.ntmps30
    go_wp2_with fail
    refine (spec_l18Dir _ dr (by omega)).mono ?_
    rintro e W1 ⟨_, rfl, rfl, hb⟩
    rw [HDK.out]
    have HB1 := Lib.hid (bel_next (show Below w.heap.size w _ from (by repeat (first | (with_reducible exact Below.refl _ _) | (with_reducible assumption) | (with_reducible refine bel_alloc ?_ _) | ((with_reducible refine bel_set ?_ ?_ _); rotate_left; (focus first | (simp; done) | (simp; omega)))))) hb)
    have f0 : W1.cell? ⟨w.heap.size, 0, none⟩ = some (.int .i64 10) := (hb.cell (p := ⟨w.heap.size, 0, none⟩) (by simp)).trans (by simp)
    have f1 : W1.cell? ⟨w.heap.size, 1, none⟩ = some (.int .i64 A) := (hb.cell (p := ⟨w.heap.size, 1, none⟩) (by simp)).trans (by simp)
    have f2 : W1.cell? ⟨w.heap.size, 2, none⟩ = some (.int .i64 B) := (hb.cell (p := ⟨w.heap.size, 2, none⟩) (by simp)).trans (by simp)
    have f3 : W1.cell? ⟨w.heap.size, 3, none⟩ = some (.int .i64 C) := (hb.cell (p := ⟨w.heap.size, 3, none⟩) (by simp)).trans (by simp)
    have f4 : W1.cell? ⟨w.heap.size, 4, none⟩ = some (.string nm) := (hb.cell (p := ⟨w.heap.size, 4, none⟩) (by simp)).trans (by simp)
    have f5 : W1.cell? ⟨w.heap.size, 5, none⟩ = some (.string tx) := (hb.cell (p := ⟨w.heap.size, 5, none⟩) (by simp)).trans (by simp)
    have f6 : W1.cell? ⟨w.heap.size, 6, none⟩ = some (.string dr) := (hb.cell (p := ⟨w.heap.size, 6, none⟩) (by simp)).trans (by simp)
    have f7 : W1.cell? ⟨w.heap.size, 7, none⟩ = some (.slice a0 da.length p0) := (hb.cell (p := ⟨w.heap.size, 7, none⟩) (by simp)).trans (by simp)
    clear hb
    simp only [cond_true, cond_false]
    go_wp2_with fail
    refine (spec_OpOk _ [_, _, _, _, _, _, _, _] ⟨10, A, B, C, nm, tx, dr, da⟩ (Rep.mono HR.out HB1.out)).mono ?_
    rintro e W2 ⟨_, rfl, rfl, hb⟩
    rw [HOK.out]
    have HB2 := Lib.hid (bel_next HB1.out hb)
    have g0 : W2.cell? ⟨w.heap.size, 0, none⟩ = some (.int .i64 10) := (hb.cell (p := ⟨w.heap.size, 0, none⟩) (World.block_lt_of_cell? _ _ f0)).trans f0
    have g1 : W2.cell? ⟨w.heap.size, 1, none⟩ = some (.int .i64 A) := (hb.cell (p := ⟨w.heap.size, 1, none⟩) (World.block_lt_of_cell? _ _ f1)).trans f1
    have g2 : W2.cell? ⟨w.heap.size, 2, none⟩ = some (.int .i64 B) := (hb.cell (p := ⟨w.heap.size, 2, none⟩) (World.block_lt_of_cell? _ _ f2)).trans f2
    have g3 : W2.cell? ⟨w.heap.size, 3, none⟩ = some (.int .i64 C) := (hb.cell (p := ⟨w.heap.size, 3, none⟩) (World.block_lt_of_cell? _ _ f3)).trans f3
    have g4 : W2.cell? ⟨w.heap.size, 4, none⟩ = some (.string nm) := (hb.cell (p := ⟨w.heap.size, 4, none⟩) (World.block_lt_of_cell? _ _ f4)).trans f4
    have g5 : W2.cell? ⟨w.heap.size, 5, none⟩ = some (.string tx) := (hb.cell (p := ⟨w.heap.size, 5, none⟩) (World.block_lt_of_cell? _ _ f5)).trans f5
    have g6 : W2.cell? ⟨w.heap.size, 6, none⟩ = some (.string dr) := (hb.cell (p := ⟨w.heap.size, 6, none⟩) (World.block_lt_of_cell? _ _ f6)).trans f6
    have g7 : W2.cell? ⟨w.heap.size, 7, none⟩ = some (.slice a0 da.length p0) := (hb.cell (p := ⟨w.heap.size, 7, none⟩) (World.block_lt_of_cell? _ _ f7)).trans f7
    clear hb f0 f1 f2 f3 f4 f5 f6 f7
    go_wp2_with fail
    refine (spec_NumText _ _).mono ?_
    rintro e W3 ⟨_, rfl, rfl, hb⟩
    have HB3 := Lib.hid (bel_next HB2.out hb)
    have fu0 : W3.cell? ⟨w.heap.size, 0, none⟩ = some (.int .i64 10) := (hb.cell (p := ⟨w.heap.size, 0, none⟩) (World.block_lt_of_cell? _ _ g0)).trans g0
    have fu1 : W3.cell? ⟨w.heap.size, 1, none⟩ = some (.int .i64 A) := (hb.cell (p := ⟨w.heap.size, 1, none⟩) (World.block_lt_of_cell? _ _ g1)).trans g1
    have fu2 : W3.cell? ⟨w.heap.size, 2, none⟩ = some (.int .i64 B) := (hb.cell (p := ⟨w.heap.size, 2, none⟩) (World.block_lt_of_cell? _ _ g2)).trans g2
    have fu3 : W3.cell? ⟨w.heap.size, 3, none⟩ = some (.int .i64 C) := (hb.cell (p := ⟨w.heap.size, 3, none⟩) (World.block_lt_of_cell? _ _ g3)).trans g3
    have fu4 : W3.cell? ⟨w.heap.size, 4, none⟩ = some (.string nm) := (hb.cell (p := ⟨w.heap.size, 4, none⟩) (World.block_lt_of_cell? _ _ g4)).trans g4
    have fu5 : W3.cell? ⟨w.heap.size, 5, none⟩ = some (.string tx) := (hb.cell (p := ⟨w.heap.size, 5, none⟩) (World.block_lt_of_cell? _ _ g5)).trans g5
    have fu6 : W3.cell? ⟨w.heap.size, 6, none⟩ = some (.string dr) := (hb.cell (p := ⟨w.heap.size, 6, none⟩) (World.block_lt_of_cell? _ _ g6)).trans g6
    have fu7 : W3.cell? ⟨w.heap.size, 7, none⟩ = some (.slice a0 da.length p0) := (hb.cell (p := ⟨w.heap.size, 7, none⟩) (World.block_lt_of_cell? _ _ g7)).trans g7
    clear hb g0 g1 g2 g3 g4 g5 g6 g7
    go_wp2_with fail
    refine (spec_NumText _ _).mono ?_
    rintro e W4 ⟨_, rfl, rfl, hb⟩
    have HB4 := Lib.hid (bel_next HB3.out hb)
    have fk0 : W4.cell? ⟨w.heap.size, 0, none⟩ = some (.int .i64 10) := (hb.cell (p := ⟨w.heap.size, 0, none⟩) (World.block_lt_of_cell? _ _ fu0)).trans fu0
    have fk1 : W4.cell? ⟨w.heap.size, 1, none⟩ = some (.int .i64 A) := (hb.cell (p := ⟨w.heap.size, 1, none⟩) (World.block_lt_of_cell? _ _ fu1)).trans fu1
    have fk2 : W4.cell? ⟨w.heap.size, 2, none⟩ = some (.int .i64 B) := (hb.cell (p := ⟨w.heap.size, 2, none⟩) (World.block_lt_of_cell? _ _ fu2)).trans fu2
    have fk3 : W4.cell? ⟨w.heap.size, 3, none⟩ = some (.int .i64 C) := (hb.cell (p := ⟨w.heap.size, 3, none⟩) (World.block_lt_of_cell? _ _ fu3)).trans fu3
    have fk4 : W4.cell? ⟨w.heap.size, 4, none⟩ = some (.string nm) := (hb.cell (p := ⟨w.heap.size, 4, none⟩) (World.block_lt_of_cell? _ _ fu4)).trans fu4
    have fk5 : W4.cell? ⟨w.heap.size, 5, none⟩ = some (.string tx) := (hb.cell (p := ⟨w.heap.size, 5, none⟩) (World.block_lt_of_cell? _ _ fu5)).trans fu5
    have fk6 : W4.cell? ⟨w.heap.size, 6, none⟩ = some (.string dr) := (hb.cell (p := ⟨w.heap.size, 6, none⟩) (World.block_lt_of_cell? _ _ fu6)).trans fu6
    have fk7 : W4.cell? ⟨w.heap.size, 7, none⟩ = some (.slice a0 da.length p0) := (hb.cell (p := ⟨w.heap.size, 7, none⟩) (World.block_lt_of_cell? _ _ fu7)).trans fu7
    clear hb fu0 fu1 fu2 fu3 fu4 fu5 fu6 fu7
    have m2 := ext_cell (W := W4) fk2
    have m3 := ext_cell (W := W4) fk3
    go_wp2_with fail
    refine wp_region_ext (by kernel_rfl) (by kernel_rfl) ?_
    repeat (go_big_quiet_step (first | (go_at_call 29; exact ext_pure (spec_l18Side _ _)) | (go_at_call 39; exact ext_gives (spec_NumText _ _))))
    refine wpQuiet_nil ?_
    intro _ hw'
    obtain ⟨eW, rfl⟩ := hw'
    go_wp2_with fail
    go_ret
    exact ⟨_, rfl, by show _ = Value.string _; rw [HN.out] <;> rfl, bel_next HB4.out eW.bel⟩
  by_cases hk11 : kd = 11
  · subst hk11
    clear hk1 hk2 hk3 hk4 hk5 hk6 hk7 hk8 hk9 hk10
    have hT := (opOkB_nodir HOK.out (by simp [hasDir])).1
    dsimp only at hT
    have dT : decide (tx.toList = []) = true := decide_eq_true hT
    have eT : (tx.toList == []) = true := by simpa using hT
    have nT : (tx.toList != []) = false := by simpa using hT
    have HN := Lib.hid (show opText ⟨11, A, B, C, nm, tx, dr, da⟩ = (((⟨#[110, 97, 109, 101, 32]⟩ : ByteArray) ++ numText A) ++ (⟨#[32]⟩ : ByteArray)) ++ nm from by
      rw [opText_yes' HOK.out (by simp [hasLine]) HDK.out (l := [(⟨#[110, 97, 109, 101]⟩ : ByteArray), numText A, nm]) (by simp [headW, tailW, hasDir]), joinT3]
      refine Go.WideShapes.bytes_inj ?_
      unfold bl
      simp [ByteArray.toList_data_append])
    clear hT
    go_enter Tryd.func30, Tryd.ntmps30
    go_wp2_with fail
    refine (spec_l18Dir _ dr (by omega)).mono ?_
    rintro e W1 ⟨_, rfl, rfl, hb⟩
    rw [HDK.out]
    have HB1 := Lib.hid (bel_next (show Below w.heap.size w _ from (by repeat (first | (with_reducible exact Below.refl _ _) | (with_reducible assumption) | (with_reducible refine bel_alloc ?_ _) | ((with_reducible refine bel_set ?_ ?_ _); rotate_left; (focus first | (simp; done) | (simp; omega)))))) hb)
    have f0 : W1.cell? ⟨w.heap.size, 0, none⟩ = some (.int .i64 11) := (hb.cell (p := ⟨w.heap.size, 0, none⟩) (by simp)).trans (by simp)
    have f1 : W1.cell? ⟨w.heap.size, 1, none⟩ = some (.int .i64 A) := (hb.cell (p := ⟨w.heap.size, 1, none⟩) (by simp)).trans (by simp)
    have f2 : W1.cell? ⟨w.heap.size, 2, none⟩ = some (.int .i64 B) := (hb.cell (p := ⟨w.heap.size, 2, none⟩) (by simp)).trans (by simp)
    have f3 : W1.cell? ⟨w.heap.size, 3, none⟩ = some (.int .i64 C) := (hb.cell (p := ⟨w.heap.size, 3, none⟩) (by simp)).trans (by simp)
    have f4 : W1.cell? ⟨w.heap.size, 4, none⟩ = some (.string nm) := (hb.cell (p := ⟨w.heap.size, 4, none⟩) (by simp)).trans (by simp)
    have f5 : W1.cell? ⟨w.heap.size, 5, none⟩ = some (.string tx) := (hb.cell (p := ⟨w.heap.size, 5, none⟩) (by simp)).trans (by simp)
    have f6 : W1.cell? ⟨w.heap.size, 6, none⟩ = some (.string dr) := (hb.cell (p := ⟨w.heap.size, 6, none⟩) (by simp)).trans (by simp)
    have f7 : W1.cell? ⟨w.heap.size, 7, none⟩ = some (.slice a0 da.length p0) := (hb.cell (p := ⟨w.heap.size, 7, none⟩) (by simp)).trans (by simp)
    clear hb
    simp only [cond_true, cond_false]
    go_wp2_with fail
    refine (spec_OpOk _ [_, _, _, _, _, _, _, _] ⟨11, A, B, C, nm, tx, dr, da⟩ (Rep.mono HR.out HB1.out)).mono ?_
    rintro e W2 ⟨_, rfl, rfl, hb⟩
    rw [HOK.out]
    have HB2 := Lib.hid (bel_next HB1.out hb)
    have g0 : W2.cell? ⟨w.heap.size, 0, none⟩ = some (.int .i64 11) := (hb.cell (p := ⟨w.heap.size, 0, none⟩) (World.block_lt_of_cell? _ _ f0)).trans f0
    have g1 : W2.cell? ⟨w.heap.size, 1, none⟩ = some (.int .i64 A) := (hb.cell (p := ⟨w.heap.size, 1, none⟩) (World.block_lt_of_cell? _ _ f1)).trans f1
    have g2 : W2.cell? ⟨w.heap.size, 2, none⟩ = some (.int .i64 B) := (hb.cell (p := ⟨w.heap.size, 2, none⟩) (World.block_lt_of_cell? _ _ f2)).trans f2
    have g3 : W2.cell? ⟨w.heap.size, 3, none⟩ = some (.int .i64 C) := (hb.cell (p := ⟨w.heap.size, 3, none⟩) (World.block_lt_of_cell? _ _ f3)).trans f3
    have g4 : W2.cell? ⟨w.heap.size, 4, none⟩ = some (.string nm) := (hb.cell (p := ⟨w.heap.size, 4, none⟩) (World.block_lt_of_cell? _ _ f4)).trans f4
    have g5 : W2.cell? ⟨w.heap.size, 5, none⟩ = some (.string tx) := (hb.cell (p := ⟨w.heap.size, 5, none⟩) (World.block_lt_of_cell? _ _ f5)).trans f5
    have g6 : W2.cell? ⟨w.heap.size, 6, none⟩ = some (.string dr) := (hb.cell (p := ⟨w.heap.size, 6, none⟩) (World.block_lt_of_cell? _ _ f6)).trans f6
    have g7 : W2.cell? ⟨w.heap.size, 7, none⟩ = some (.slice a0 da.length p0) := (hb.cell (p := ⟨w.heap.size, 7, none⟩) (World.block_lt_of_cell? _ _ f7)).trans f7
    clear hb f0 f1 f2 f3 f4 f5 f6 f7
    go_wp2_with fail
    refine (spec_NumText _ _).mono ?_
    rintro e W3 ⟨_, rfl, rfl, hb⟩
    have HB3 := Lib.hid (bel_next HB2.out hb)
    have fu0 : W3.cell? ⟨w.heap.size, 0, none⟩ = some (.int .i64 11) := (hb.cell (p := ⟨w.heap.size, 0, none⟩) (World.block_lt_of_cell? _ _ g0)).trans g0
    have fu1 : W3.cell? ⟨w.heap.size, 1, none⟩ = some (.int .i64 A) := (hb.cell (p := ⟨w.heap.size, 1, none⟩) (World.block_lt_of_cell? _ _ g1)).trans g1
    have fu2 : W3.cell? ⟨w.heap.size, 2, none⟩ = some (.int .i64 B) := (hb.cell (p := ⟨w.heap.size, 2, none⟩) (World.block_lt_of_cell? _ _ g2)).trans g2
    have fu3 : W3.cell? ⟨w.heap.size, 3, none⟩ = some (.int .i64 C) := (hb.cell (p := ⟨w.heap.size, 3, none⟩) (World.block_lt_of_cell? _ _ g3)).trans g3
    have fu4 : W3.cell? ⟨w.heap.size, 4, none⟩ = some (.string nm) := (hb.cell (p := ⟨w.heap.size, 4, none⟩) (World.block_lt_of_cell? _ _ g4)).trans g4
    have fu5 : W3.cell? ⟨w.heap.size, 5, none⟩ = some (.string tx) := (hb.cell (p := ⟨w.heap.size, 5, none⟩) (World.block_lt_of_cell? _ _ g5)).trans g5
    have fu6 : W3.cell? ⟨w.heap.size, 6, none⟩ = some (.string dr) := (hb.cell (p := ⟨w.heap.size, 6, none⟩) (World.block_lt_of_cell? _ _ g6)).trans g6
    have fu7 : W3.cell? ⟨w.heap.size, 7, none⟩ = some (.slice a0 da.length p0) := (hb.cell (p := ⟨w.heap.size, 7, none⟩) (World.block_lt_of_cell? _ _ g7)).trans g7
    clear hb g0 g1 g2 g3 g4 g5 g6 g7
    go_wp2_with fail
    refine (spec_NumText _ _).mono ?_
    rintro e W4 ⟨_, rfl, rfl, hb⟩
    have HB4 := Lib.hid (bel_next HB3.out hb)
    have fk0 : W4.cell? ⟨w.heap.size, 0, none⟩ = some (.int .i64 11) := (hb.cell (p := ⟨w.heap.size, 0, none⟩) (World.block_lt_of_cell? _ _ fu0)).trans fu0
    have fk1 : W4.cell? ⟨w.heap.size, 1, none⟩ = some (.int .i64 A) := (hb.cell (p := ⟨w.heap.size, 1, none⟩) (World.block_lt_of_cell? _ _ fu1)).trans fu1
    have fk2 : W4.cell? ⟨w.heap.size, 2, none⟩ = some (.int .i64 B) := (hb.cell (p := ⟨w.heap.size, 2, none⟩) (World.block_lt_of_cell? _ _ fu2)).trans fu2
    have fk3 : W4.cell? ⟨w.heap.size, 3, none⟩ = some (.int .i64 C) := (hb.cell (p := ⟨w.heap.size, 3, none⟩) (World.block_lt_of_cell? _ _ fu3)).trans fu3
    have fk4 : W4.cell? ⟨w.heap.size, 4, none⟩ = some (.string nm) := (hb.cell (p := ⟨w.heap.size, 4, none⟩) (World.block_lt_of_cell? _ _ fu4)).trans fu4
    have fk5 : W4.cell? ⟨w.heap.size, 5, none⟩ = some (.string tx) := (hb.cell (p := ⟨w.heap.size, 5, none⟩) (World.block_lt_of_cell? _ _ fu5)).trans fu5
    have fk6 : W4.cell? ⟨w.heap.size, 6, none⟩ = some (.string dr) := (hb.cell (p := ⟨w.heap.size, 6, none⟩) (World.block_lt_of_cell? _ _ fu6)).trans fu6
    have fk7 : W4.cell? ⟨w.heap.size, 7, none⟩ = some (.slice a0 da.length p0) := (hb.cell (p := ⟨w.heap.size, 7, none⟩) (World.block_lt_of_cell? _ _ fu7)).trans fu7
    clear hb fu0 fu1 fu2 fu3 fu4 fu5 fu6 fu7
    go_wp2_with fail
    go_ret
    exact ⟨_, rfl, by show _ = Value.string _; rw [HN.out] <;> rfl, HB4.out⟩
  by_cases hk12 : kd = 12
  · subst hk12
    clear hk1 hk2 hk3 hk4 hk5 hk6 hk7 hk8 hk9 hk10 hk11
    have hT := (opOkB_nodir HOK.out (by simp [hasDir])).1
    dsimp only at hT
    have dT : decide (tx.toList = []) = true := decide_eq_true hT
    have eT : (tx.toList == []) = true := by simpa using hT
    have nT : (tx.toList != []) = false := by simpa using hT
    have HN := Lib.hid (show opText ⟨12, A, B, C, nm, tx, dr, da⟩ = (((⟨#[115, 105, 122, 101, 32]⟩ : ByteArray) ++ numText A) ++ (⟨#[32]⟩ : ByteArray)) ++ numText B from by
      rw [opText_yes' HOK.out (by simp [hasLine]) HDK.out (l := [(⟨#[115, 105, 122, 101]⟩ : ByteArray), numText A, numText B]) (by simp [headW, tailW, hasDir]), joinT3]
      refine Go.WideShapes.bytes_inj ?_
      unfold bl
      simp [ByteArray.toList_data_append])
    clear hT
    go_enter Tryd.func30, Tryd.ntmps30
    go_wp2_with fail
    refine (spec_l18Dir _ dr (by omega)).mono ?_
    rintro e W1 ⟨_, rfl, rfl, hb⟩
    rw [HDK.out]
    have HB1 := Lib.hid (bel_next (show Below w.heap.size w _ from (by repeat (first | (with_reducible exact Below.refl _ _) | (with_reducible assumption) | (with_reducible refine bel_alloc ?_ _) | ((with_reducible refine bel_set ?_ ?_ _); rotate_left; (focus first | (simp; done) | (simp; omega)))))) hb)
    have f0 : W1.cell? ⟨w.heap.size, 0, none⟩ = some (.int .i64 12) := (hb.cell (p := ⟨w.heap.size, 0, none⟩) (by simp)).trans (by simp)
    have f1 : W1.cell? ⟨w.heap.size, 1, none⟩ = some (.int .i64 A) := (hb.cell (p := ⟨w.heap.size, 1, none⟩) (by simp)).trans (by simp)
    have f2 : W1.cell? ⟨w.heap.size, 2, none⟩ = some (.int .i64 B) := (hb.cell (p := ⟨w.heap.size, 2, none⟩) (by simp)).trans (by simp)
    have f3 : W1.cell? ⟨w.heap.size, 3, none⟩ = some (.int .i64 C) := (hb.cell (p := ⟨w.heap.size, 3, none⟩) (by simp)).trans (by simp)
    have f4 : W1.cell? ⟨w.heap.size, 4, none⟩ = some (.string nm) := (hb.cell (p := ⟨w.heap.size, 4, none⟩) (by simp)).trans (by simp)
    have f5 : W1.cell? ⟨w.heap.size, 5, none⟩ = some (.string tx) := (hb.cell (p := ⟨w.heap.size, 5, none⟩) (by simp)).trans (by simp)
    have f6 : W1.cell? ⟨w.heap.size, 6, none⟩ = some (.string dr) := (hb.cell (p := ⟨w.heap.size, 6, none⟩) (by simp)).trans (by simp)
    have f7 : W1.cell? ⟨w.heap.size, 7, none⟩ = some (.slice a0 da.length p0) := (hb.cell (p := ⟨w.heap.size, 7, none⟩) (by simp)).trans (by simp)
    clear hb
    simp only [cond_true, cond_false]
    go_wp2_with fail
    refine (spec_OpOk _ [_, _, _, _, _, _, _, _] ⟨12, A, B, C, nm, tx, dr, da⟩ (Rep.mono HR.out HB1.out)).mono ?_
    rintro e W2 ⟨_, rfl, rfl, hb⟩
    rw [HOK.out]
    have HB2 := Lib.hid (bel_next HB1.out hb)
    have g0 : W2.cell? ⟨w.heap.size, 0, none⟩ = some (.int .i64 12) := (hb.cell (p := ⟨w.heap.size, 0, none⟩) (World.block_lt_of_cell? _ _ f0)).trans f0
    have g1 : W2.cell? ⟨w.heap.size, 1, none⟩ = some (.int .i64 A) := (hb.cell (p := ⟨w.heap.size, 1, none⟩) (World.block_lt_of_cell? _ _ f1)).trans f1
    have g2 : W2.cell? ⟨w.heap.size, 2, none⟩ = some (.int .i64 B) := (hb.cell (p := ⟨w.heap.size, 2, none⟩) (World.block_lt_of_cell? _ _ f2)).trans f2
    have g3 : W2.cell? ⟨w.heap.size, 3, none⟩ = some (.int .i64 C) := (hb.cell (p := ⟨w.heap.size, 3, none⟩) (World.block_lt_of_cell? _ _ f3)).trans f3
    have g4 : W2.cell? ⟨w.heap.size, 4, none⟩ = some (.string nm) := (hb.cell (p := ⟨w.heap.size, 4, none⟩) (World.block_lt_of_cell? _ _ f4)).trans f4
    have g5 : W2.cell? ⟨w.heap.size, 5, none⟩ = some (.string tx) := (hb.cell (p := ⟨w.heap.size, 5, none⟩) (World.block_lt_of_cell? _ _ f5)).trans f5
    have g6 : W2.cell? ⟨w.heap.size, 6, none⟩ = some (.string dr) := (hb.cell (p := ⟨w.heap.size, 6, none⟩) (World.block_lt_of_cell? _ _ f6)).trans f6
    have g7 : W2.cell? ⟨w.heap.size, 7, none⟩ = some (.slice a0 da.length p0) := (hb.cell (p := ⟨w.heap.size, 7, none⟩) (World.block_lt_of_cell? _ _ f7)).trans f7
    clear hb f0 f1 f2 f3 f4 f5 f6 f7
    go_wp2_with fail
    refine (spec_NumText _ _).mono ?_
    rintro e W3 ⟨_, rfl, rfl, hb⟩
    have HB3 := Lib.hid (bel_next HB2.out hb)
    have fu0 : W3.cell? ⟨w.heap.size, 0, none⟩ = some (.int .i64 12) := (hb.cell (p := ⟨w.heap.size, 0, none⟩) (World.block_lt_of_cell? _ _ g0)).trans g0
    have fu1 : W3.cell? ⟨w.heap.size, 1, none⟩ = some (.int .i64 A) := (hb.cell (p := ⟨w.heap.size, 1, none⟩) (World.block_lt_of_cell? _ _ g1)).trans g1
    have fu2 : W3.cell? ⟨w.heap.size, 2, none⟩ = some (.int .i64 B) := (hb.cell (p := ⟨w.heap.size, 2, none⟩) (World.block_lt_of_cell? _ _ g2)).trans g2
    have fu3 : W3.cell? ⟨w.heap.size, 3, none⟩ = some (.int .i64 C) := (hb.cell (p := ⟨w.heap.size, 3, none⟩) (World.block_lt_of_cell? _ _ g3)).trans g3
    have fu4 : W3.cell? ⟨w.heap.size, 4, none⟩ = some (.string nm) := (hb.cell (p := ⟨w.heap.size, 4, none⟩) (World.block_lt_of_cell? _ _ g4)).trans g4
    have fu5 : W3.cell? ⟨w.heap.size, 5, none⟩ = some (.string tx) := (hb.cell (p := ⟨w.heap.size, 5, none⟩) (World.block_lt_of_cell? _ _ g5)).trans g5
    have fu6 : W3.cell? ⟨w.heap.size, 6, none⟩ = some (.string dr) := (hb.cell (p := ⟨w.heap.size, 6, none⟩) (World.block_lt_of_cell? _ _ g6)).trans g6
    have fu7 : W3.cell? ⟨w.heap.size, 7, none⟩ = some (.slice a0 da.length p0) := (hb.cell (p := ⟨w.heap.size, 7, none⟩) (World.block_lt_of_cell? _ _ g7)).trans g7
    clear hb g0 g1 g2 g3 g4 g5 g6 g7
    go_wp2_with fail
    refine (spec_NumText _ _).mono ?_
    rintro e W4 ⟨_, rfl, rfl, hb⟩
    have HB4 := Lib.hid (bel_next HB3.out hb)
    have fk0 : W4.cell? ⟨w.heap.size, 0, none⟩ = some (.int .i64 12) := (hb.cell (p := ⟨w.heap.size, 0, none⟩) (World.block_lt_of_cell? _ _ fu0)).trans fu0
    have fk1 : W4.cell? ⟨w.heap.size, 1, none⟩ = some (.int .i64 A) := (hb.cell (p := ⟨w.heap.size, 1, none⟩) (World.block_lt_of_cell? _ _ fu1)).trans fu1
    have fk2 : W4.cell? ⟨w.heap.size, 2, none⟩ = some (.int .i64 B) := (hb.cell (p := ⟨w.heap.size, 2, none⟩) (World.block_lt_of_cell? _ _ fu2)).trans fu2
    have fk3 : W4.cell? ⟨w.heap.size, 3, none⟩ = some (.int .i64 C) := (hb.cell (p := ⟨w.heap.size, 3, none⟩) (World.block_lt_of_cell? _ _ fu3)).trans fu3
    have fk4 : W4.cell? ⟨w.heap.size, 4, none⟩ = some (.string nm) := (hb.cell (p := ⟨w.heap.size, 4, none⟩) (World.block_lt_of_cell? _ _ fu4)).trans fu4
    have fk5 : W4.cell? ⟨w.heap.size, 5, none⟩ = some (.string tx) := (hb.cell (p := ⟨w.heap.size, 5, none⟩) (World.block_lt_of_cell? _ _ fu5)).trans fu5
    have fk6 : W4.cell? ⟨w.heap.size, 6, none⟩ = some (.string dr) := (hb.cell (p := ⟨w.heap.size, 6, none⟩) (World.block_lt_of_cell? _ _ fu6)).trans fu6
    have fk7 : W4.cell? ⟨w.heap.size, 7, none⟩ = some (.slice a0 da.length p0) := (hb.cell (p := ⟨w.heap.size, 7, none⟩) (World.block_lt_of_cell? _ _ fu7)).trans fu7
    clear hb fu0 fu1 fu2 fu3 fu4 fu5 fu6 fu7
    go_wp2_with fail
    go_ret
    exact ⟨_, rfl, by show _ = Value.string _; rw [HN.out] <;> rfl, HB4.out⟩
  by_cases hk13 : kd = 13
  · subst hk13
    clear hk1 hk2 hk3 hk4 hk5 hk6 hk7 hk8 hk9 hk10 hk11 hk12
    have HN := Lib.hid (opText_noline (x := ⟨13, A, B, C, nm, tx, dr, da⟩) (by simp [hasLine]))
    have hT := (opOkB_nodir HOK.out (by simp [hasDir])).1
    dsimp only at hT
    have dT : decide (tx.toList = []) = true := decide_eq_true hT
    have eT : (tx.toList == []) = true := by simpa using hT
    have nT : (tx.toList != []) = false := by simpa using hT
    clear hT
    go_enter Tryd.func30, Tryd.ntmps30
    go_wp2_with fail
    refine (spec_l18Dir _ dr (by omega)).mono ?_
    rintro e W1 ⟨_, rfl, rfl, hb⟩
    rw [HDK.out]
    have HB1 := Lib.hid (bel_next (show Below w.heap.size w _ from (by repeat (first | (with_reducible exact Below.refl _ _) | (with_reducible assumption) | (with_reducible refine bel_alloc ?_ _) | ((with_reducible refine bel_set ?_ ?_ _); rotate_left; (focus first | (simp; done) | (simp; omega)))))) hb)
    have f0 : W1.cell? ⟨w.heap.size, 0, none⟩ = some (.int .i64 13) := (hb.cell (p := ⟨w.heap.size, 0, none⟩) (by simp)).trans (by simp)
    have f1 : W1.cell? ⟨w.heap.size, 1, none⟩ = some (.int .i64 A) := (hb.cell (p := ⟨w.heap.size, 1, none⟩) (by simp)).trans (by simp)
    have f2 : W1.cell? ⟨w.heap.size, 2, none⟩ = some (.int .i64 B) := (hb.cell (p := ⟨w.heap.size, 2, none⟩) (by simp)).trans (by simp)
    have f3 : W1.cell? ⟨w.heap.size, 3, none⟩ = some (.int .i64 C) := (hb.cell (p := ⟨w.heap.size, 3, none⟩) (by simp)).trans (by simp)
    have f4 : W1.cell? ⟨w.heap.size, 4, none⟩ = some (.string nm) := (hb.cell (p := ⟨w.heap.size, 4, none⟩) (by simp)).trans (by simp)
    have f5 : W1.cell? ⟨w.heap.size, 5, none⟩ = some (.string tx) := (hb.cell (p := ⟨w.heap.size, 5, none⟩) (by simp)).trans (by simp)
    have f6 : W1.cell? ⟨w.heap.size, 6, none⟩ = some (.string dr) := (hb.cell (p := ⟨w.heap.size, 6, none⟩) (by simp)).trans (by simp)
    have f7 : W1.cell? ⟨w.heap.size, 7, none⟩ = some (.slice a0 da.length p0) := (hb.cell (p := ⟨w.heap.size, 7, none⟩) (by simp)).trans (by simp)
    clear hb
    simp only [cond_true, cond_false]
    go_wp2_with fail
    refine (spec_OpOk _ [_, _, _, _, _, _, _, _] ⟨13, A, B, C, nm, tx, dr, da⟩ (Rep.mono HR.out HB1.out)).mono ?_
    rintro e W2 ⟨_, rfl, rfl, hb⟩
    rw [HOK.out]
    have HB2 := Lib.hid (bel_next HB1.out hb)
    have g0 : W2.cell? ⟨w.heap.size, 0, none⟩ = some (.int .i64 13) := (hb.cell (p := ⟨w.heap.size, 0, none⟩) (World.block_lt_of_cell? _ _ f0)).trans f0
    have g1 : W2.cell? ⟨w.heap.size, 1, none⟩ = some (.int .i64 A) := (hb.cell (p := ⟨w.heap.size, 1, none⟩) (World.block_lt_of_cell? _ _ f1)).trans f1
    have g2 : W2.cell? ⟨w.heap.size, 2, none⟩ = some (.int .i64 B) := (hb.cell (p := ⟨w.heap.size, 2, none⟩) (World.block_lt_of_cell? _ _ f2)).trans f2
    have g3 : W2.cell? ⟨w.heap.size, 3, none⟩ = some (.int .i64 C) := (hb.cell (p := ⟨w.heap.size, 3, none⟩) (World.block_lt_of_cell? _ _ f3)).trans f3
    have g4 : W2.cell? ⟨w.heap.size, 4, none⟩ = some (.string nm) := (hb.cell (p := ⟨w.heap.size, 4, none⟩) (World.block_lt_of_cell? _ _ f4)).trans f4
    have g5 : W2.cell? ⟨w.heap.size, 5, none⟩ = some (.string tx) := (hb.cell (p := ⟨w.heap.size, 5, none⟩) (World.block_lt_of_cell? _ _ f5)).trans f5
    have g6 : W2.cell? ⟨w.heap.size, 6, none⟩ = some (.string dr) := (hb.cell (p := ⟨w.heap.size, 6, none⟩) (World.block_lt_of_cell? _ _ f6)).trans f6
    have g7 : W2.cell? ⟨w.heap.size, 7, none⟩ = some (.slice a0 da.length p0) := (hb.cell (p := ⟨w.heap.size, 7, none⟩) (World.block_lt_of_cell? _ _ f7)).trans f7
    clear hb f0 f1 f2 f3 f4 f5 f6 f7
    go_wp2_with fail
    refine (spec_NumText _ _).mono ?_
    rintro e W3 ⟨_, rfl, rfl, hb⟩
    have HB3 := Lib.hid (bel_next HB2.out hb)
    have fu0 : W3.cell? ⟨w.heap.size, 0, none⟩ = some (.int .i64 13) := (hb.cell (p := ⟨w.heap.size, 0, none⟩) (World.block_lt_of_cell? _ _ g0)).trans g0
    have fu1 : W3.cell? ⟨w.heap.size, 1, none⟩ = some (.int .i64 A) := (hb.cell (p := ⟨w.heap.size, 1, none⟩) (World.block_lt_of_cell? _ _ g1)).trans g1
    have fu2 : W3.cell? ⟨w.heap.size, 2, none⟩ = some (.int .i64 B) := (hb.cell (p := ⟨w.heap.size, 2, none⟩) (World.block_lt_of_cell? _ _ g2)).trans g2
    have fu3 : W3.cell? ⟨w.heap.size, 3, none⟩ = some (.int .i64 C) := (hb.cell (p := ⟨w.heap.size, 3, none⟩) (World.block_lt_of_cell? _ _ g3)).trans g3
    have fu4 : W3.cell? ⟨w.heap.size, 4, none⟩ = some (.string nm) := (hb.cell (p := ⟨w.heap.size, 4, none⟩) (World.block_lt_of_cell? _ _ g4)).trans g4
    have fu5 : W3.cell? ⟨w.heap.size, 5, none⟩ = some (.string tx) := (hb.cell (p := ⟨w.heap.size, 5, none⟩) (World.block_lt_of_cell? _ _ g5)).trans g5
    have fu6 : W3.cell? ⟨w.heap.size, 6, none⟩ = some (.string dr) := (hb.cell (p := ⟨w.heap.size, 6, none⟩) (World.block_lt_of_cell? _ _ g6)).trans g6
    have fu7 : W3.cell? ⟨w.heap.size, 7, none⟩ = some (.slice a0 da.length p0) := (hb.cell (p := ⟨w.heap.size, 7, none⟩) (World.block_lt_of_cell? _ _ g7)).trans g7
    clear hb g0 g1 g2 g3 g4 g5 g6 g7
    go_wp2_with fail
    refine (spec_NumText _ _).mono ?_
    rintro e W4 ⟨_, rfl, rfl, hb⟩
    have HB4 := Lib.hid (bel_next HB3.out hb)
    have fk0 : W4.cell? ⟨w.heap.size, 0, none⟩ = some (.int .i64 13) := (hb.cell (p := ⟨w.heap.size, 0, none⟩) (World.block_lt_of_cell? _ _ fu0)).trans fu0
    have fk1 : W4.cell? ⟨w.heap.size, 1, none⟩ = some (.int .i64 A) := (hb.cell (p := ⟨w.heap.size, 1, none⟩) (World.block_lt_of_cell? _ _ fu1)).trans fu1
    have fk2 : W4.cell? ⟨w.heap.size, 2, none⟩ = some (.int .i64 B) := (hb.cell (p := ⟨w.heap.size, 2, none⟩) (World.block_lt_of_cell? _ _ fu2)).trans fu2
    have fk3 : W4.cell? ⟨w.heap.size, 3, none⟩ = some (.int .i64 C) := (hb.cell (p := ⟨w.heap.size, 3, none⟩) (World.block_lt_of_cell? _ _ fu3)).trans fu3
    have fk4 : W4.cell? ⟨w.heap.size, 4, none⟩ = some (.string nm) := (hb.cell (p := ⟨w.heap.size, 4, none⟩) (World.block_lt_of_cell? _ _ fu4)).trans fu4
    have fk5 : W4.cell? ⟨w.heap.size, 5, none⟩ = some (.string tx) := (hb.cell (p := ⟨w.heap.size, 5, none⟩) (World.block_lt_of_cell? _ _ fu5)).trans fu5
    have fk6 : W4.cell? ⟨w.heap.size, 6, none⟩ = some (.string dr) := (hb.cell (p := ⟨w.heap.size, 6, none⟩) (World.block_lt_of_cell? _ _ fu6)).trans fu6
    have fk7 : W4.cell? ⟨w.heap.size, 7, none⟩ = some (.slice a0 da.length p0) := (hb.cell (p := ⟨w.heap.size, 7, none⟩) (World.block_lt_of_cell? _ _ fu7)).trans fu7
    clear hb fu0 fu1 fu2 fu3 fu4 fu5 fu6 fu7
    go_wp2_with fail
    go_ret
    exact ⟨_, rfl, by show _ = Value.string _; rw [HN.out] <;> rfl, HB4.out⟩
  by_cases hk14 : kd = 14
  · subst hk14
    clear hk1 hk2 hk3 hk4 hk5 hk6 hk7 hk8 hk9 hk10 hk11 hk12 hk13
    have hT := (opOkB_nodir HOK.out (by simp [hasDir])).1
    dsimp only at hT
    have dT : decide (tx.toList = []) = true := decide_eq_true hT
    have eT : (tx.toList == []) = true := by simpa using hT
    have nT : (tx.toList != []) = false := by simpa using hT
    have HN := Lib.hid (show opText ⟨14, A, B, C, nm, tx, dr, da⟩ = (⟨#[114, 101, 115, 116, 97, 114, 116, 32]⟩ : ByteArray) ++ numText A from by
      rw [opText_yes' HOK.out (by simp [hasLine]) HDK.out (l := [(⟨#[114, 101, 115, 116, 97, 114, 116]⟩ : ByteArray), numText A]) (by simp [headW, tailW, hasDir]), joinT2]
      refine Go.WideShapes.bytes_inj ?_
      unfold bl
      simp [ByteArray.toList_data_append])
    clear hT
    go_enter Tryd.func30, Tryd.ntmps30
    go_wp2_with fail
    refine (spec_l18Dir _ dr (by omega)).mono ?_
    rintro e W1 ⟨_, rfl, rfl, hb⟩
    rw [HDK.out]
    have HB1 := Lib.hid (bel_next (show Below w.heap.size w _ from (by repeat (first | (with_reducible exact Below.refl _ _) | (with_reducible assumption) | (with_reducible refine bel_alloc ?_ _) | ((with_reducible refine bel_set ?_ ?_ _); rotate_left; (focus first | (simp; done) | (simp; omega)))))) hb)
    have f0 : W1.cell? ⟨w.heap.size, 0, none⟩ = some (.int .i64 14) := (hb.cell (p := ⟨w.heap.size, 0, none⟩) (by simp)).trans (by simp)
    have f1 : W1.cell? ⟨w.heap.size, 1, none⟩ = some (.int .i64 A) := (hb.cell (p := ⟨w.heap.size, 1, none⟩) (by simp)).trans (by simp)
    have f2 : W1.cell? ⟨w.heap.size, 2, none⟩ = some (.int .i64 B) := (hb.cell (p := ⟨w.heap.size, 2, none⟩) (by simp)).trans (by simp)
    have f3 : W1.cell? ⟨w.heap.size, 3, none⟩ = some (.int .i64 C) := (hb.cell (p := ⟨w.heap.size, 3, none⟩) (by simp)).trans (by simp)
    have f4 : W1.cell? ⟨w.heap.size, 4, none⟩ = some (.string nm) := (hb.cell (p := ⟨w.heap.size, 4, none⟩) (by simp)).trans (by simp)
    have f5 : W1.cell? ⟨w.heap.size, 5, none⟩ = some (.string tx) := (hb.cell (p := ⟨w.heap.size, 5, none⟩) (by simp)).trans (by simp)
    have f6 : W1.cell? ⟨w.heap.size, 6, none⟩ = some (.string dr) := (hb.cell (p := ⟨w.heap.size, 6, none⟩) (by simp)).trans (by simp)
    have f7 : W1.cell? ⟨w.heap.size, 7, none⟩ = some (.slice a0 da.length p0) := (hb.cell (p := ⟨w.heap.size, 7, none⟩) (by simp)).trans (by simp)
    clear hb
    simp only [cond_true, cond_false]
    go_wp2_with fail
    refine (spec_OpOk _ [_, _, _, _, _, _, _, _] ⟨14, A, B, C, nm, tx, dr, da⟩ (Rep.mono HR.out HB1.out)).mono ?_
    rintro e W2 ⟨_, rfl, rfl, hb⟩
    rw [HOK.out]
    have HB2 := Lib.hid (bel_next HB1.out hb)
    have g0 : W2.cell? ⟨w.heap.size, 0, none⟩ = some (.int .i64 14) := (hb.cell (p := ⟨w.heap.size, 0, none⟩) (World.block_lt_of_cell? _ _ f0)).trans f0
    have g1 : W2.cell? ⟨w.heap.size, 1, none⟩ = some (.int .i64 A) := (hb.cell (p := ⟨w.heap.size, 1, none⟩) (World.block_lt_of_cell? _ _ f1)).trans f1
    have g2 : W2.cell? ⟨w.heap.size, 2, none⟩ = some (.int .i64 B) := (hb.cell (p := ⟨w.heap.size, 2, none⟩) (World.block_lt_of_cell? _ _ f2)).trans f2
    have g3 : W2.cell? ⟨w.heap.size, 3, none⟩ = some (.int .i64 C) := (hb.cell (p := ⟨w.heap.size, 3, none⟩) (World.block_lt_of_cell? _ _ f3)).trans f3
    have g4 : W2.cell? ⟨w.heap.size, 4, none⟩ = some (.string nm) := (hb.cell (p := ⟨w.heap.size, 4, none⟩) (World.block_lt_of_cell? _ _ f4)).trans f4
    have g5 : W2.cell? ⟨w.heap.size, 5, none⟩ = some (.string tx) := (hb.cell (p := ⟨w.heap.size, 5, none⟩) (World.block_lt_of_cell? _ _ f5)).trans f5
    have g6 : W2.cell? ⟨w.heap.size, 6, none⟩ = some (.string dr) := (hb.cell (p := ⟨w.heap.size, 6, none⟩) (World.block_lt_of_cell? _ _ f6)).trans f6
    have g7 : W2.cell? ⟨w.heap.size, 7, none⟩ = some (.slice a0 da.length p0) := (hb.cell (p := ⟨w.heap.size, 7, none⟩) (World.block_lt_of_cell? _ _ f7)).trans f7
    clear hb f0 f1 f2 f3 f4 f5 f6 f7
    go_wp2_with fail
    refine (spec_NumText _ _).mono ?_
    rintro e W3 ⟨_, rfl, rfl, hb⟩
    have HB3 := Lib.hid (bel_next HB2.out hb)
    have fu0 : W3.cell? ⟨w.heap.size, 0, none⟩ = some (.int .i64 14) := (hb.cell (p := ⟨w.heap.size, 0, none⟩) (World.block_lt_of_cell? _ _ g0)).trans g0
    have fu1 : W3.cell? ⟨w.heap.size, 1, none⟩ = some (.int .i64 A) := (hb.cell (p := ⟨w.heap.size, 1, none⟩) (World.block_lt_of_cell? _ _ g1)).trans g1
    have fu2 : W3.cell? ⟨w.heap.size, 2, none⟩ = some (.int .i64 B) := (hb.cell (p := ⟨w.heap.size, 2, none⟩) (World.block_lt_of_cell? _ _ g2)).trans g2
    have fu3 : W3.cell? ⟨w.heap.size, 3, none⟩ = some (.int .i64 C) := (hb.cell (p := ⟨w.heap.size, 3, none⟩) (World.block_lt_of_cell? _ _ g3)).trans g3
    have fu4 : W3.cell? ⟨w.heap.size, 4, none⟩ = some (.string nm) := (hb.cell (p := ⟨w.heap.size, 4, none⟩) (World.block_lt_of_cell? _ _ g4)).trans g4
    have fu5 : W3.cell? ⟨w.heap.size, 5, none⟩ = some (.string tx) := (hb.cell (p := ⟨w.heap.size, 5, none⟩) (World.block_lt_of_cell? _ _ g5)).trans g5
    have fu6 : W3.cell? ⟨w.heap.size, 6, none⟩ = some (.string dr) := (hb.cell (p := ⟨w.heap.size, 6, none⟩) (World.block_lt_of_cell? _ _ g6)).trans g6
    have fu7 : W3.cell? ⟨w.heap.size, 7, none⟩ = some (.slice a0 da.length p0) := (hb.cell (p := ⟨w.heap.size, 7, none⟩) (World.block_lt_of_cell? _ _ g7)).trans g7
    clear hb g0 g1 g2 g3 g4 g5 g6 g7
    go_wp2_with fail
    refine (spec_NumText _ _).mono ?_
    rintro e W4 ⟨_, rfl, rfl, hb⟩
    have HB4 := Lib.hid (bel_next HB3.out hb)
    have fk0 : W4.cell? ⟨w.heap.size, 0, none⟩ = some (.int .i64 14) := (hb.cell (p := ⟨w.heap.size, 0, none⟩) (World.block_lt_of_cell? _ _ fu0)).trans fu0
    have fk1 : W4.cell? ⟨w.heap.size, 1, none⟩ = some (.int .i64 A) := (hb.cell (p := ⟨w.heap.size, 1, none⟩) (World.block_lt_of_cell? _ _ fu1)).trans fu1
    have fk2 : W4.cell? ⟨w.heap.size, 2, none⟩ = some (.int .i64 B) := (hb.cell (p := ⟨w.heap.size, 2, none⟩) (World.block_lt_of_cell? _ _ fu2)).trans fu2
    have fk3 : W4.cell? ⟨w.heap.size, 3, none⟩ = some (.int .i64 C) := (hb.cell (p := ⟨w.heap.size, 3, none⟩) (World.block_lt_of_cell? _ _ fu3)).trans fu3
    have fk4 : W4.cell? ⟨w.heap.size, 4, none⟩ = some (.string nm) := (hb.cell (p := ⟨w.heap.size, 4, none⟩) (World.block_lt_of_cell? _ _ fu4)).trans fu4
    have fk5 : W4.cell? ⟨w.heap.size, 5, none⟩ = some (.string tx) := (hb.cell (p := ⟨w.heap.size, 5, none⟩) (World.block_lt_of_cell? _ _ fu5)).trans fu5
    have fk6 : W4.cell? ⟨w.heap.size, 6, none⟩ = some (.string dr) := (hb.cell (p := ⟨w.heap.size, 6, none⟩) (World.block_lt_of_cell? _ _ fu6)).trans fu6
    have fk7 : W4.cell? ⟨w.heap.size, 7, none⟩ = some (.slice a0 da.length p0) := (hb.cell (p := ⟨w.heap.size, 7, none⟩) (World.block_lt_of_cell? _ _ fu7)).trans fu7
    clear hb fu0 fu1 fu2 fu3 fu4 fu5 fu6 fu7
    go_wp2_with fail
    go_ret
    exact ⟨_, rfl, by show _ = Value.string _; rw [HN.out] <;> rfl, HB4.out⟩
  have h := HOK.out
  rw [opOkB_out (show kd < 1 ∨ 14 < kd by omega)] at h
  cases h
end Go.Proofs.YtjglknaojfnllaaDoor
