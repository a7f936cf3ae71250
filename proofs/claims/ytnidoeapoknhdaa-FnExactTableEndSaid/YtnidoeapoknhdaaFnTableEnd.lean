/- The walk of the program's TableEnd. -/
import Derived.Test.YtnidoeapoknhdaaEndLaw
import Derived.Test.YtnidoeapoknhdaaFnTableDown
import Derived.Test.YtnidoeapoknhdaaFnDel
import Derived.Deep.DeepCutAuto
import Derived.Deep.CutRange
set_option linter.unusedSimpArgs false
set_option linter.unusedVariables false
namespace Go.Proofs.Ytnidoeapoknhdaa
open Go.RowKit Go.Mux
set_option maxRecDepth 100000 in
set_option maxHeartbeats 1000000 in
theorem impl_TableEnd' (w : World) (cs : List Value) (x : DTable) (n : Int) (h : Rep.rep w cs x) (hsz : x.bulk ≤ 1048576) : Calls Try.prog 33 #[.agg cs.toArray, .int .i64 n] w (Gives w fun r w' => ∃ cs', r = .tuple #[.agg cs'.toArray, .int .i64 (tableEnd x n).2] ∧ Fresh w.heap.size w' cs' (tableEnd x n).1) := by
  have HP := Lib.hid h
  have HS := Lib.hid hsz
  have HI := Lib.hid (show I64 x.Next from by obtain ⟨_, _, _, hi, _⟩ := DTable.rep_iff.1 h; exact hi)
  obtain ⟨p0, m0, q0, p1, m1, q1, rfl⟩ : ∃ p0 m0 q0 p1 m1 q1, cs = [.int .i64 x.Next, .slice p0 m0 q0, .slice p1 m1 q1] := by
    obtain ⟨a, b, c, d, e, f, h⟩ := DTable.shape h
    exact ⟨_, _, _, _, _, _, h⟩
  clear h hsz
  have hlt1 : w.heap.size < w.heap.size + 1 := by omega
  cases ht : tableOk x
  all_goals
    have HT := Lib.hid ht
    clear ht
    go_enter Try.func33, Try.ntmps33
    go_wp2_with fail
    refine (impl_TableOk _ [_, _, _] x (Rep.mono HP.out (by repeat (first | (with_reducible exact Below.refl _ _) | (with_reducible assumption) | (with_reducible refine bel_alloc ?_ _) | ((with_reducible refine bel_set ?_ ?_ _); rotate_left; (focus first | (simp; done) | (simp; omega))))))).mono ?_
    rintro e W1 ⟨_, rfl, rfl, hb⟩
    rw [HT.out]
    have HB1 := Lib.hid (bel_next (show Below w.heap.size w _ from (by repeat (first | (with_reducible exact Below.refl _ _) | (with_reducible assumption) | (with_reducible refine bel_alloc ?_ _) | ((with_reducible refine bel_set ?_ ?_ _); rotate_left; (focus first | (simp; done) | (simp; omega)))))) hb)
    have cA1 := fun o => hb.cell (p := ⟨w.heap.size, o, none⟩) (by simp only [World.size_alloc]; omega)
    have cR1 := fun o => hb.cell (p := ⟨w.heap.size + 1, o, none⟩) (by simp only [World.size_alloc]; omega)
    have fR1 := fun o => hb.frozen (p := ⟨w.heap.size + 1, o, none⟩) (by simp only [World.size_alloc]; omega)
    have hz1 := hb.size
    simp only [World.size_alloc] at hz1
    have hx1 : w.heap.size + 1 < W1.heap.size := by omega
    have hw1 : w.heap.size < W1.heap.size := by omega
    clear hb
    go_wp2_with fail
  · refine bodyPost_ret (v := .tuple #[.agg #[.int .i64 0, .slice none 0 0, .slice none 0 0], .int .i64 0]) (by simp [results, Try.results33, go_sem, cR1, fR1, hx1, hw1]) rfl ⟨_, rfl, ⟨[_, _, _], (by have e : (tableEnd x n).2 = 0 := (by unfold tableEnd; simp [HT.out]); rw [e]), ?_⟩, (by have hB := HB1.out; repeat (first | (with_reducible assumption) | ((with_reducible refine bel_set ?_ ?_ _); rotate_left; (focus first | (simp; done) | (simp; omega)))))⟩
    have e : (tableEnd x n).1 = ⟨0, [], []⟩ := by unfold tableEnd; simp [HT.out]
    rw [e]
    exact ⟨[], DTable.zero _, by simp, by simp⟩
  · have kA0 : W1.cell? ⟨w.heap.size, 0, none⟩ = some (.int .i64 x.Next) := (cA1 0).trans (by simp)
    have kA1 : W1.cell? ⟨w.heap.size, 1, none⟩ = some (.slice p0 m0 q0) := (cA1 1).trans (by simp)
    have kA2 : W1.cell? ⟨w.heap.size, 2, none⟩ = some (.slice p1 m1 q1) := (cA1 2).trans (by simp)
    have fW1 : ∀ o, W1.frozen? ⟨w.heap.size + 1, o, none⟩ = false := fun o => (fR1 o).trans (by simp)
    have hne1 : w.heap.size ≠ W1.heap.size := by omega
    have hnf1 : W1.heap.size ≠ w.heap.size := by omega
    have hne1' : w.heap.size + 1 ≠ W1.heap.size := by omega
    have hnf1' : W1.heap.size ≠ w.heap.size + 1 := by omega
    go_cut [6, 7] from 8 to 16 (fun s6 s7 wx => ∃ T s0 t0 u0 s1 t1 u1 fp, s6 = .pointer (some ⟨T, 0, none⟩) ∧ s7 = .int .i64 (procAtI x.Live n) ∧ w.heap.size + 1 < T ∧ T < wx.heap.size ∧ Below w.heap.size w wx ∧ wx.cell? ⟨w.heap.size, 0, none⟩ = some (.int .i64 x.Next) ∧ wx.cell? ⟨w.heap.size, 1, none⟩ = some (.slice p0 m0 q0) ∧ wx.cell? ⟨w.heap.size, 2, none⟩ = some (.slice p1 m1 q1) ∧ (∀ o, wx.cell? ⟨w.heap.size + 1, o, none⟩ = W1.cell? ⟨w.heap.size + 1, o, none⟩) ∧ (∀ o, wx.frozen? ⟨w.heap.size + 1, o, none⟩ = false) ∧ (∀ o, wx.frozen? ⟨T, o, none⟩ = false) ∧ wx.cell? ⟨T, 0, none⟩ = some (.int .i64 x.Next) ∧ wx.cell? ⟨T, 1, none⟩ = some (.slice s0 t0 u0) ∧ wx.cell? ⟨T, 2, none⟩ = some (.slice s1 t1 u1) ∧ Rep.own wx [.int .i64 x.Next, .slice s0 t0 u0, .slice s1 t1 u1] x fp ∧ fp.Nodup ∧ ∀ b ∈ fp, w.heap.size + 1 < b ∧ b ≠ T)
    case first =>
      go_region_held3 (fun w' => w'.cell? ⟨w.heap.size, 0, none⟩ = some (.int .i64 x.Next) ∧ w'.cell? ⟨w.heap.size, 1, none⟩ = some (.slice p0 m0 q0) ∧ w'.cell? ⟨w.heap.size, 2, none⟩ = some (.slice p1 m1 q1)) ((first | (with_reducible exact ⟨kC0, kC1, kC2⟩) | (with_reducible exact ⟨kB0, kB1, kB2⟩) | (with_reducible exact ⟨kA0, kA1, kA2⟩) | (simp [hne1, hnf1, hne2, hnf2, hne3, hnf3, kC0, kC1, kC2, World.cell?_alloc_some, World.cell?_setCell_far]; done) | (simp [hne1, hnf1, hne2, hnf2, kB0, kB1, kB2, World.cell?_alloc_some, World.cell?_setCell_far]; done) | (simp [hne1, hnf1, kA0, kA1, kA2, World.cell?_alloc_some, World.cell?_setCell_far]; done) | go_keep))
        (first
          | (go_at_call 59; refine (impl_copyTable _ [_, _, _] x (Rep.mono HP.out (show Below w.heap.size w _ from by have hB := HB1.out; repeat (first | (with_reducible assumption) | (with_reducible refine bel_alloc ?_ _) | (with_reducible refine Below.drew ?_)))) HS.out).mono ?_; rintro e W2 ⟨_, rfl, ⟨cs2, rfl, HF⟩, hb⟩; obtain ⟨s0, t0, u0, s1, t1, u1, rfl⟩ : ∃ p0 m0 q0 p1 m1 q1, cs2 = [.int .i64 x.Next, .slice p0 m0 q0, .slice p1 m1 q1] := (by obtain ⟨a, b, c, d, e, f, h⟩ := DTable.shape HF.rep; exact ⟨_, _, _, _, _, _, h⟩); have kB0 : W2.cell? ⟨w.heap.size, 0, none⟩ = some (.int .i64 x.Next) := cell_step hb (by first | exact kA0 | (simp [World.cell?_alloc_lt, hw1]; exact kA0)); have kB1 : W2.cell? ⟨w.heap.size, 1, none⟩ = some (.slice p0 m0 q0) := cell_step hb (by first | exact kA1 | (simp [World.cell?_alloc_lt, hw1]; exact kA1)); have kB2 : W2.cell? ⟨w.heap.size, 2, none⟩ = some (.slice p1 m1 q1) := cell_step hb (by first | exact kA2 | (simp [World.cell?_alloc_lt, hw1]; exact kA2)); have HF2 := Lib.hid HF.frIn; have HB2 : Hid (Below w.heap.size w W2) := Lib.hid (bel_next (show Below w.heap.size w _ from by have hB := HB1.out; repeat (first | (with_reducible assumption) | (with_reducible refine bel_alloc ?_ _) | (with_reducible refine Below.drew ?_))) hb); have hb2 := Lib.hid hb; have hz2 := hb.size; (try simp only [drew_size, World.size_alloc] at hz2); have hx2 : w.heap.size + 1 < W2.heap.size := (by omega); have hw2 : w.heap.size < W2.heap.size := (by omega); have hne2 : w.heap.size ≠ W2.heap.size := Nat.ne_of_lt hw2; have hnf2 : W2.heap.size ≠ w.heap.size := Nat.ne_of_gt hw2; have cR2 := fun o => hb.cell (p := ⟨w.heap.size + 1, o, none⟩) (by first | exact hx1 | (simp; omega) | omega); have fR2 := fun o => hb.frozen (p := ⟨w.heap.size + 1, o, none⟩) (by first | exact hx1 | (simp; omega) | omega); have hnr2 : w.heap.size + 1 ≠ W2.heap.size := Nat.ne_of_lt hx2; have hns2 : W2.heap.size ≠ w.heap.size + 1 := Nat.ne_of_gt hx2; (try (have tA := fun o => hb.cell (p := ⟨W1.heap.size, o, none⟩) (by simp); have fA := fun o => hb.frozen (p := ⟨W1.heap.size, o, none⟩) (by simp); have tz : W1.heap.size < W2.heap.size := (by omega))); clear hb HF)
          | (go_at_call 64; refine (impl_Table_procAt _ [_, _, _] x n (Rep.mono HP.out (show Below w.heap.size w _ from by have hB := HB2.out; repeat (first | (with_reducible assumption) | (with_reducible refine bel_alloc ?_ _) | ((with_reducible refine bel_set ?_ ?_ _); rotate_left; (focus first | (simp; done) | (simp; omega))))))).mono ?_; rintro e W3 ⟨_, rfl, rfl, hb⟩; have kC0 : W3.cell? ⟨w.heap.size, 0, none⟩ = some (.int .i64 x.Next) := cell_step hb (by first | exact kB0 | (simp [hne2, hnf2, hne1, hnf1]; exact kB0) | (simp [World.cell?_alloc_lt, hw2]; exact kB0) | (trace_state; fail)); have kC1 : W3.cell? ⟨w.heap.size, 1, none⟩ = some (.slice p0 m0 q0) := cell_step hb (by first | exact kB1 | (simp [hne2, hnf2, hne1, hnf1]; exact kB1) | (simp [World.cell?_alloc_lt, hw2]; exact kB1) | (trace_state; fail)); have kC2 : W3.cell? ⟨w.heap.size, 2, none⟩ = some (.slice p1 m1 q1) := cell_step hb (by first | exact kB2 | (simp [hne2, hnf2, hne1, hnf1]; exact kB2) | (simp [World.cell?_alloc_lt, hw2]; exact kB2) | (trace_state; fail)); have HB3 : Hid (Below w.heap.size w W3) := Lib.hid (bel_next (show Below w.heap.size w _ from by have hB := HB2.out; repeat (first | (with_reducible assumption) | (with_reducible refine bel_alloc ?_ _))) hb); have hb3 := Lib.hid hb; have hz3 := hb.size; (try simp only [World.size_alloc, World.size_setCell] at hz3); have hx3 : w.heap.size + 1 < W3.heap.size := (by omega); have hw3 : w.heap.size < W3.heap.size := (by omega); have hne3 : w.heap.size ≠ W3.heap.size := Nat.ne_of_lt hw3; have hnf3 : W3.heap.size ≠ w.heap.size := Nat.ne_of_gt hw3; have cR3 := fun o => hb.cell (p := ⟨w.heap.size + 1, o, none⟩) (by first | exact hx2 | (simp; omega) | omega); have fR3 := fun o => hb.frozen (p := ⟨w.heap.size + 1, o, none⟩) (by first | exact hx2 | (simp; omega) | omega); have hnr3 : w.heap.size + 1 ≠ W3.heap.size := Nat.ne_of_lt hx3; have hns3 : W3.heap.size ≠ w.heap.size + 1 := Nat.ne_of_gt hx3; (try (have tA3 := fun o => hb.cell (p := ⟨W1.heap.size, o, none⟩) (by simpa using tz); have fA3 := fun o => hb.frozen (p := ⟨W1.heap.size, o, none⟩) (by simpa using tz); have tz3 : W1.heap.size < W3.heap.size := (by omega))); (try (have tB := fun o => hb.cell (p := ⟨W2.heap.size, o, none⟩) (by simp); have fB := fun o => hb.frozen (p := ⟨W2.heap.size, o, none⟩) (by simp); have tzB : W2.heap.size < W3.heap.size := (by omega))); clear hb))
      all_goals (go_wp2_with fail)
      all_goals go_meet
      · obtain ⟨fp, ho, hnd, hbd⟩ := FrIn.alloc (FrIn.below hb3.out HF2.out) (.cells #[.int .i64 x.Next, .slice s0 t0 u0, .slice s1 t1 u1] 53)
        refine ⟨W3.heap.size, s0, t0, u0, s1, t1, u1, fp, rfl, rfl, hx3, (by simp), bel_alloc HB3.out _, (by simpa [World.cell?_alloc_lt, hw3] using kC0), (by simpa [World.cell?_alloc_lt, hw3] using kC1), (by simpa [World.cell?_alloc_lt, hw3] using kC2), (fun o => by simp [go_sem, World.cell?_setCell_far, World.cell?_alloc_lt, hx1, hx2, hx3, hne1', hnf1', hnr2, hns2, hnr3, hns3, cR3, cR2]), (fun o => by simp [go_sem, hx1, hx2, hx3, hne1', hnf1', hnr2, hns2, hnr3, hns3, fR3, fR2, fW1]), (fun o => by simp), (by simp), (by simp), (by simp), ho, hnd, fun b hb => ?_⟩
        have h1 := hbd b hb
        (try simp only [drew_size, World.size_alloc] at h1)
        omega
      · obtain ⟨fp, ho, hnd, hbd⟩ := FrIn.set (FrIn.set (FrIn.set (FrIn.below hb3.out (FrIn.alloc HF2.out _)) (p := ⟨W2.heap.size, 0, none⟩) (.inr (Nat.le_refl _)) (.int .i64 x.Next)) (p := ⟨W2.heap.size, 1, none⟩) (.inr (Nat.le_refl _)) (.slice s0 t0 u0)) (p := ⟨W2.heap.size, 2, none⟩) (.inr (Nat.le_refl _)) (.slice s1 t1 u1)
        refine ⟨W2.heap.size, s0, t0, u0, s1, t1, u1, fp, rfl, rfl, hx2, (by simpa using tzB), bel_set (bel_set (bel_set HB3.out (by first | omega | (simp; omega)) _) (by first | omega | (simp; omega)) _) (by first | omega | (simp; omega)) _, (by simp [go_sem, World.cell?_setCell_far, hne2, hnf2, kC0]), (by simp [go_sem, World.cell?_setCell_far, hne2, hnf2, kC1]), (by simp [go_sem, World.cell?_setCell_far, hne2, hnf2, kC2]), (fun o => by simp [go_sem, World.cell?_setCell_far, World.cell?_alloc_lt, hx1, hx2, hx3, hne1', hnf1', hnr2, hns2, hnr3, hns3, cR3, cR2]), (fun o => by simp [go_sem, hx1, hx2, hx3, hne1', hnf1', hnr2, hns2, hnr3, hns3, fR3, fR2, fW1]), (fun o => by simp [fB]), (by simp [go_sem, tB, tzB]), (by simp [go_sem, tB, tzB]), (by simp [go_sem, tB, tzB]), ho, hnd, fun b hb => ?_⟩
        have h1 := hbd b hb
        (try simp only [drew_size, World.size_alloc] at h1)
        omega
      · obtain ⟨fp, ho, hnd, hbd⟩ := FrIn.set (FrIn.set (FrIn.set (FrIn.below hb3.out HF2.out) (p := ⟨W1.heap.size, 0, none⟩) (.inl (by simp)) (.int .i64 x.Next)) (p := ⟨W1.heap.size, 1, none⟩) (.inl (by simp)) (.slice s0 t0 u0)) (p := ⟨W1.heap.size, 2, none⟩) (.inl (by simp)) (.slice s1 t1 u1)
        refine ⟨W1.heap.size, s0, t0, u0, s1, t1, u1, fp, rfl, rfl, hx1, (by simpa using tz3), bel_set (bel_set (bel_set HB3.out (by first | omega | (simp; omega)) _) (by first | omega | (simp; omega)) _) (by first | omega | (simp; omega)) _, (by simp [go_sem, World.cell?_setCell_far, hne1, hnf1, kC0]), (by simp [go_sem, World.cell?_setCell_far, hne1, hnf1, kC1]), (by simp [go_sem, World.cell?_setCell_far, hne1, hnf1, kC2]), (fun o => by simp [go_sem, World.cell?_setCell_far, World.cell?_alloc_lt, hx1, hx2, hx3, hne1', hnf1', hnr2, hns2, hnr3, hns3, cR3, cR2]), (fun o => by simp [go_sem, hx1, hx2, hx3, hne1', hnf1', hnr2, hns2, hnr3, hns3, fR3, fR2, fW1]), (fun o => by simp [fA3, fA]), (by simp [go_sem, tA3, tA, tz3, tz]), (by simp [go_sem, tA3, tA, tz3, tz]), (by simp [go_sem, tA3, tA, tz3, tz]), ho, hnd, fun b hb => ?_⟩
        have h1 := hbd b hb
        (try simp only [drew_size, World.size_alloc] at h1)
        omega
    case rest =>
      obtain ⟨T, s0, t0, u0, s1, t1, u1, fp, rfl, rfl, hT1, hT2, hB, k0, k1, k2, cR, fR, fT, c0, c1, c2, ho, hnd, hbd⟩ := hcut
      have HBc := Lib.hid hB
      have HO := Lib.hid ho
      have hwc : w.heap.size + 1 < wc.heap.size := by omega
      have hwc0 : w.heap.size < wc.heap.size := by omega
      have hTn : w.heap.size + 1 ≠ T := by omega
      have hTm : T ≠ w.heap.size + 1 := by omega
      clear hB ho
      generalize hP : procAtI x.Live n = q
      have HQ := Lib.hid hP
      clear hP
      by_cases hq : q < 0
      · go_wp2_with fail
        refine bodyPost_ret (v := .tuple #[.agg #[.int .i64 x.Next, .slice s0 t0 u0, .slice s1 t1 u1], .int .i64 0]) (by simp [results, Try.results33, go_sem, cR, cR1, fR, hwc, hwc0]) rfl ⟨_, rfl, ⟨[_, _, _], (by have e : (tableEnd x n).2 = 0 := (by unfold tableEnd; simp [HT.out, HQ.out, hq]); rw [e]), ?_⟩, ?_⟩
        · have e : (tableEnd x n).1 = x := by unfold tableEnd; simp [HT.out, HQ.out, hq]
          rw [e]
          have HF := Lib.hid (show FrIn (w.heap.size + 2) wc.heap.size wc [.int .i64 x.Next, .slice s0 t0 u0, .slice s1 t1 u1] x from ⟨fp, HO.out, hnd, fun b hb => ⟨by have := hbd b hb; omega, Rep.ownLt HO.out b hb⟩⟩)
          exact FrIn.fresh (lo := w.heap.size + 2) (hi := wc.heap.size) (by repeat (first | (with_reducible exact HF.out) | ((with_reducible refine FrIn.set ?_ (Or.inl ?_) _); rotate_left; (focus first | (simp; done) | (simp; omega) | omega)))) (by first | (simp; done) | (simp; omega) | omega)
        · have hB := HBc.out
          repeat (first | (with_reducible assumption) | (with_reducible refine bel_alloc ?_ _) | ((with_reducible refine bel_set ?_ ?_ _); rotate_left; (focus first | (simp; done) | (simp; omega))))
      · obtain ⟨k, rfl⟩ : ∃ k : Nat, q = k := ⟨q.toNat, by omega⟩
        clear hq
        have hkl : k < x.Live.length := by
          have h1 := (idxOf_bounds (pidIsB n) x.Live).2
          have h2 := HQ.out
          unfold procAtI at h2
          omega
        have hlen : x.Live.length ≤ 1048576 := (DTable.lens HS.out).1
        obtain ⟨v0, v1, f0, f1, e, h0, h1, h2, rfl⟩ := DTable.own_iff.1 HO.out
        simp only [List.cons.injEq, and_true, true_and] at e
        obtain ⟨rfl, rfl⟩ := e
        have hkw : IntKind.i64.wrap ((k : Int) + 1) = ((k + 1 : Nat) : Int) := by rw [IntKind.wrap_i64]; omega
        have hk0 : decide ((k : Int) < 0) = false := decide_eq_false (by omega)
        have HL := Lib.hid h1
        have HA := Lib.hid h2
        clear h0 h1 h2
        go_wp2_with fail
        refine (delete_Proc _ _ x.Live f0 k (k + 1) HL.out (List.nodup_append.1 hnd).1 rfl hkl).mono ?_
        rintro e W4 ⟨v4, fp4, rfl, ho4, hn4, hs4, hm4⟩
        obtain ⟨a4, n4, c4, rfl⟩ : ∃ a n c, v4 = .slice a n c := by
          obtain ⟨_, _, hown, _⟩ := ho4
          rcases hown.2 with ⟨rfl, _⟩ | ⟨g, cap, cur, rfl, _⟩ <;> exact ⟨_, _, _, rfl⟩
        obtain ⟨kT, fT4⟩ := hm4.heap_eq (b := T) hT2 (fun h => (hbd T (List.mem_append.2 (.inl h))).2 rfl)
        obtain ⟨kA, _⟩ := hm4.heap_eq (b := w.heap.size) hwc0 (fun h => by have := (hbd _ (List.mem_append.2 (.inl h))).1; omega)
        obtain ⟨kR, fR4⟩ := hm4.heap_eq (b := w.heap.size + 1) hwc (fun h => by have := (hbd _ (List.mem_append.2 (.inl h))).1; omega)
        have hz4 := hm4.size
        have hT4 : T < W4.heap.size := by omega
        have hw4 : w.heap.size + 1 < W4.heap.size := by omega
        have hw40 : w.heap.size < W4.heap.size := by omega
        have j0 : W4.cell? ⟨T, 0, none⟩ = some (.int .i64 x.Next) := (kT 0).trans c0
        have j2 : W4.cell? ⟨T, 2, none⟩ = some (.slice s1 t1 u1) := (kT 2).trans c2
        have j1 : W4.cell? ⟨T, 1, none⟩ = some (.slice s0 t0 u0) := (kT 1).trans c1
        have y0 : W4.cell? ⟨w.heap.size, 0, none⟩ = some (.int .i64 x.Next) := (kA 0).trans k0
        have y1 : W4.cell? ⟨w.heap.size, 1, none⟩ = some (.slice p0 m0 q0) := (kA 1).trans k1
        have y2 : W4.cell? ⟨w.heap.size, 2, none⟩ = some (.slice p1 m1 q1) := (kA 2).trans k2
        have r4 : ∀ o, W4.frozen? ⟨w.heap.size + 1, o, none⟩ = false := fun o => (fR4 o).trans (fR o)
        have g4 : ∀ o, W4.frozen? ⟨T, o, none⟩ = false := fun o => (fT4 o).trans (fT o)
        have HB4 := Lib.hid (HBc.out.trans (hm4.below (B := w.heap.size) (by omega) (fun b hb => by have := (hbd _ (List.mem_append.2 (.inl hb))).1; omega)))
        have HA4 := Lib.hid (HA.out.apart hm4 (fun b hb hb' => by have := (List.nodup_append.1 hnd).2.2 b hb' b hb; exact this rfl))
        have HL4 := Lib.hid ho4
        have hlt := hkl
        have HIN := HI
        obtain ⟨v0', v1', e', _, hl', _⟩ := DTable.rep_iff.1 HP.out
        simp only [List.cons.injEq, and_true, true_and] at e'
        obtain ⟨rfl, rfl⟩ := e'
        obtain ⟨a', cap', e'', hl'', hc''⟩ := hl'
        cases e''
        have HC := Lib.hid hc''
        have hB0 := HB4.out
        have hne : x.Live ≠ [] := by intro e; rw [e] at hlt; simp at hlt
        obtain ⟨b, off, rfl, hc⟩ := HC.out hne
        obtain ⟨p, hx⟩ : ∃ p, x.Live[k]? = some p := ⟨x.Live[k], by simp [hlt]⟩
        obtain ⟨rr, hrep, hcell⟩ := hc k p hx
        have HI := Lib.hid (show (Try.prog.info? 85).map (·.size) = some rr.length by rw [Rep.len hrep]; exact size_implProc)
        have HL := Lib.hid (show ∀ (j : Nat) u, rr[j]? = some u → W4.cell? ⟨b, off + k * 2 + j, none⟩ = some u from fun j u hu => (hB0.cell (p := ⟨b, _, none⟩) (World.block_lt_of_cell? w _ (hcell j u hu))).trans (hcell j u hu))
        have HR := Lib.hid hrep
        have HX := Lib.hid hx
        obtain rfl := DProc.shape hrep
        clear hc hcell hrep hne hx
        clear hB0 hm4 ho4
        obtain ⟨b', off', ee, hh⟩ := HC.out (by intro e; rw [e] at hlt; simp at hlt)
        cases ee
        obtain ⟨r, hr, hcr⟩ := hh k p HX.out
        obtain rfl := DProc.shape hr
        have hbw : b < w.heap.size := World.block_lt_of_cell? w _ (hcr 0 _ rfl)
        have eP : W4.cell? ⟨b, off + k * 2 + 1, none⟩ = some (.int .i64 p.Pane) := HL.out 1 _ rfl
        have hbT : b ≠ T := by omega
        have hTb : T ≠ b := by omega
        have hbr : b ≠ w.heap.size + 1 := by omega
        have hrb : w.heap.size + 1 ≠ b := by omega
        have hAT : w.heap.size ≠ T := by omega
        have hTA : T ≠ w.heap.size := by omega
        clear hh hr hcr
        go_upto_region 7 with fail
        go_region
        go_wp2_with fail
        have hk0' : ¬ ((k : Int) < 0) := by omega
        have hsub : ∀ b ∈ fp4 ++ f1, w.heap.size + 1 < b ∧ b ≠ T := fun b hb => hbd b ((List.mem_append.1 hb).elim (fun h => List.mem_append.2 (.inl (hs4 b h))) (fun h => List.mem_append.2 (.inr h)))
        refine bodyPost_ret (v := .tuple #[.agg #[.int .i64 x.Next, .slice a4 n4 c4, .slice s1 t1 u1], .int .i64 p.Pane]) (by simp [results, Try.results33, go_sem, kR, cR, cR1, r4, hw4, hw40, hwc, hwc0, hTn, hTm]) rfl ⟨_, rfl, ⟨[_, _, _], (by have e : (tableEnd x n).2 = p.Pane := (by unfold tableEnd; simp [HT.out, HQ.out, HX.out, hk0']); rw [e]), ?_⟩, ?_⟩
        · have e : (tableEnd x n).1 = { x with Live := x.Live.eraseIdx k } := by unfold tableEnd; simp [HT.out, HQ.out, hk0']
          rw [e]
          refine ⟨fp4 ++ f1, Rep.ownMono (w := W4) (DTable.own_iff.2 ⟨_, _, fp4, f1, rfl, HIN.out, HL4.out, HA4.out, rfl⟩) (fun b hb => ?_), List.nodup_append.2 ⟨hn4, (List.nodup_append.1 hnd).2.1, fun a ha b hb => (List.nodup_append.1 hnd).2.2 a (hs4 a ha) b hb⟩, fun b hb => by have := (hsub b hb).1; omega⟩
          have h1 := hsub b hb
          show (World.setCell _ _ _).heap[b]? = _
          rw [heap_setCell_other _ _ _ _ (by show _ ≠ _; simp; omega), heap_setCell_other _ _ _ _ (by show _ ≠ _; simp; omega), heap_setCell_other _ _ _ _ (by show _ ≠ _; simp; omega), heap_setCell_other _ _ _ _ (by show _ ≠ _; simp; omega)]
        · have hB := HB4.out
          refine Below.drew ?_
          repeat (first | (with_reducible assumption) | (with_reducible refine bel_alloc ?_ _) | ((with_reducible refine bel_set ?_ ?_ _); rotate_left; (focus first | (simp; done) | (simp; omega) | omega)))
end Go.Proofs.Ytnidoeapoknhdaa
