/- The walks of the table's copies and of TableDown, the program's and the reference's. -/
import Derived.Test.YtnidoeapoknhdaaFnTableOk
import Derived.Test.YtnidoeapoknhdaaFnClone
import Derived.Test.YtnidoeapoknhdaaLawBase
set_option linter.unusedSimpArgs false
set_option linter.unusedVariables false
namespace Go.Mux
open Go.RowKit
theorem DTable.lens {x : DTable} (h : x.bulk ≤ 1048576) : x.Live.length ≤ 1048576 ∧ x.Asked.length ≤ 1048576 := by
  unfold DTable.bulk at h; omega
@[irreducible] def tableDown (x : DTable) : DTable := if tableOk x then { x with Live := [] } else ⟨0, [], []⟩
theorem OwnS.nil {α : Type} [Rep α] (w : World) : OwnS (α := α) w (.slice none 0 0) [] [] := ⟨[], [], ⟨by simp, .inl ⟨rfl, rfl⟩⟩, by simp, rfl, rfl, by simp, by simp [Value.ownBlock]⟩
theorem I64_zero : I64 0 := ⟨by omega, by omega⟩
theorem DTable.zero (w : World) : Rep.own w [.int .i64 0, .slice none 0 0, .slice none 0 0] (⟨0, [], []⟩ : DTable) [] := DTable.own_iff.2 ⟨_, _, [], [], rfl, I64_zero, OwnS.nil w, OwnS.nil w, rfl⟩
theorem DTable.asked {lo hi : Nat} {w : World} {n : Value} {s0 s1 : Value} {x : DTable} (h : FrIn lo hi w [n, s0, s1] x) : FrIn lo hi w [s1] x.Asked := by
  obtain ⟨fp, ho, hn, hb⟩ := h
  obtain ⟨v0, v1, f0, f1, e, h0, h1, h2, rfl⟩ := DTable.own_iff.1 ho
  simp only [List.cons.injEq, and_true] at e
  obtain ⟨_, rfl, rfl⟩ := e
  exact ⟨f1, ⟨_, rfl, h2⟩, (List.nodup_append.1 hn).2.1, fun b hbf => hb b (List.mem_append.2 (.inr hbf))⟩
theorem DTable.live {lo hi : Nat} {w : World} {n : Value} {s0 s1 : Value} {x : DTable} (h : FrIn lo hi w [n, s0, s1] x) : FrIn lo hi w [s0] x.Live := by
  obtain ⟨fp, ho, hn, hb⟩ := h
  obtain ⟨v0, v1, f0, f1, e, h0, h1, h2, rfl⟩ := DTable.own_iff.1 ho
  simp only [List.cons.injEq, and_true] at e
  obtain ⟨_, rfl, rfl⟩ := e
  exact ⟨f0, ⟨_, rfl, h1⟩, (List.nodup_append.1 hn).1, fun b hbf => hb b (List.mem_append.2 (.inl hbf))⟩
end Go.Mux
namespace Go.Proofs.Ytnidoeapoknhdaa
open Go.RowKit Go.Mux
set_option maxRecDepth 100000 in
set_option maxHeartbeats 1000000 in
theorem impl_copyTable (w : World) (cs : List Value) (x : DTable) (h : Rep.rep w cs x) (hsz : x.bulk ≤ 1048576) : Calls Try.prog 59 #[.agg cs.toArray] w (Gives w fun r w' => ∃ cs', r = .agg cs'.toArray ∧ Fresh w.heap.size w' cs' x) := by
  obtain ⟨hl1, hl2⟩ := DTable.lens hsz
  clear hsz
  obtain ⟨v0, v1, rfl, h0, h1, h2⟩ := DTable.rep_iff.1 h
  clear h
  have HR1 := Lib.hid h1
  have HR2 := Lib.hid h2
  have HI := Lib.hid h0
  obtain ⟨p0, m0, q0, rfl⟩ := h1.shape
  obtain ⟨p1, m1, q1, rfl⟩ := h2.shape
  clear h0 h1 h2
  go_enter Try.func59, Try.ntmps59
  go_wp2_with fail
  go_region_held3 (fun w' => w'.cell? ⟨w.heap.size, 0, none⟩ = some (.int .i64 x.Next) ∧ w'.cell? ⟨w.heap.size, 1, none⟩ = some (.slice p0 m0 q0) ∧ w'.cell? ⟨w.heap.size, 2, none⟩ = some (.slice p1 m1 q1)) ((first | (with_reducible exact ⟨kB0, kB1, kB2⟩) | (with_reducible exact ⟨kA0, kA1, kA2⟩) | go_keep))
    (first
      | (go_at_call 83; refine (clone_Proc _ _ x.Live (HR1.out.mono (show Below w.heap.size w _ from Below.drew (by repeat (first | (with_reducible exact Below.refl _ _) | (with_reducible assumption) | (with_reducible refine bel_alloc ?_ _) | ((with_reducible refine bel_set ?_ ?_ _); rotate_left; (focus first | (simp; done) | (simp; omega))))))) (by omega)).mono ?_; rintro e W0 ⟨_, rfl, HF, hb⟩; have kA0 : W0.cell? ⟨w.heap.size, 0, none⟩ = some (.int .i64 x.Next) := cell_step hb (by simp); have kA1 : W0.cell? ⟨w.heap.size, 1, none⟩ = some (.slice p0 m0 q0) := cell_step hb (by simp); have kA2 : W0.cell? ⟨w.heap.size, 2, none⟩ = some (.slice p1 m1 q1) := cell_step hb (by simp); obtain ⟨a0, n0, c0, rfl⟩ := HF.repS.shape; have HF0 := Lib.hid (HF.frIn.wide (lo' := w.heap.size + 2) (hi' := W0.heap.size) (by first | (simp; done) | (simp; omega) | omega) (Nat.le_refl _)); have HB0 := Lib.hid (bel_next (show Below w.heap.size w _ from Below.drew (by repeat (first | (with_reducible exact Below.refl _ _) | (with_reducible assumption) | (with_reducible refine bel_alloc ?_ _) | ((with_reducible refine bel_set ?_ ?_ _); rotate_left; (focus first | (simp; done) | (simp; omega)))))) hb); have hc0 := bel_cell hb; have hf0 := bel_frozen hb; have hz0 := hb.size; simp only [World.size_alloc, drew_size] at hz0; have hy0 : w.heap.size + 1 < W0.heap.size := (by omega); have hx0 : w.heap.size < W0.heap.size := (by omega); clear hb HF)
      | (go_at_call 84; refine (clone_Ask _ _ x.Asked (HR2.out.mono HB0.out) (by omega)).mono ?_; rintro e W1 ⟨_, rfl, HF, hb⟩; have kB0 := cell_step hb kA0; have kB1 := cell_step hb kA1; have kB2 := cell_step hb kA2; obtain ⟨a1, n1, c1, rfl⟩ := HF.repS.shape; have HF1 := Lib.hid (HF.frIn.wide (lo' := W0.heap.size) (hi' := W1.heap.size) (Nat.le_refl _) (Nat.le_refl _)); have HB1 := Lib.hid (bel_next HB0.out hb); have HBB := Lib.hid hb; have hc1 := bel_cell hb; have hf1 := bel_frozen hb; have hz1 := hb.size; have hy1 : w.heap.size + 1 < W1.heap.size := (by omega); have hx1 : w.heap.size < W1.heap.size := (by omega); clear hb HF))
  go_wp2_with fail
  refine bodyPost_ret (v := .agg #[.int .i64 x.Next, .slice a0 n0 c0, .slice a1 n1 c1]) (by simp [results, Try.results59, go_sem, hc0, hf0, hy0, hx0, hc1, hf1, hy1, hx1]) rfl ⟨_, rfl, ⟨_, rfl, ?_⟩, (by have hB := HB1.out; repeat (first | (with_reducible assumption) | ((with_reducible refine bel_set ?_ ?_ _); rotate_left; (focus first | (simp; done) | (simp; omega)))))⟩
  exact FrIn.fresh (lo := w.heap.size + 2) (hi := W1.heap.size) (FrIn.consFlat (c1 := [_]) ⟨⟨rfl, HI.out⟩, rfl⟩ (FrIn.pair (c1 := [_]) (show FrIn (α := List DProc) (w.heap.size + 2) W0.heap.size _ [_] x.Live from by repeat (first | (with_reducible exact HF0.out) | ((with_reducible refine FrIn.set ?_ (Or.inl ?_) _); rotate_left; (focus first | (simp; done) | (simp; omega) | omega)) | (with_reducible refine FrIn.below HBB.out ?_))) (show FrIn (α := List DAsk) W0.heap.size W1.heap.size _ [_] x.Asked from by repeat (first | (with_reducible exact HF1.out) | ((with_reducible refine FrIn.set ?_ (Or.inl ?_) _); rotate_left; (focus first | (simp; done) | (simp; omega) | omega)))) (by first | (simp; done) | (simp; omega) | omega) (by first | (simp; done) | (simp; omega) | omega) (by first | (simp; done) | (simp; omega) | omega))) (by first | (simp; done) | (simp; omega) | omega)
set_option maxRecDepth 100000 in
set_option maxHeartbeats 1000000 in
theorem spec_l21Copy (w : World) (cs : List Value) (x : DTable) (h : Rep.rep w cs x) (hsz : x.bulk ≤ 1048576) : Calls Try.prog 58 #[.agg cs.toArray] w (Gives w fun r w' => ∃ cs', r = .agg cs'.toArray ∧ Fresh w.heap.size w' cs' x) := by
  obtain ⟨hl1, hl2⟩ := DTable.lens hsz
  clear hsz
  obtain ⟨v0, v1, rfl, h0, h1, h2⟩ := DTable.rep_iff.1 h
  clear h
  have HR1 := Lib.hid h1
  have HR2 := Lib.hid h2
  have HI := Lib.hid h0
  obtain ⟨p0, m0, q0, rfl⟩ := h1.shape
  obtain ⟨p1, m1, q1, rfl⟩ := h2.shape
  clear h0 h1 h2
  have hlt2 : w.heap.size < w.heap.size + 1 + 1 := by omega
  go_enter Try.func58, Try.ntmps58
  have tok0 : True := trivial
  go_wp2_with (first
    | (at_builtin; have _t := tok0; refine wpList_append_copy (α := DProc) rfl _ _ 50 rfl 85 _ _ Try.underlying50 info_implProc rfl rfl (of_decide_eq_true (by kernel_rfl)) (w.heap.size + 1 + 1) rfl (heap_new_at _ _ (by simp)) (.slice p0 m0 q0) x.Live rfl (HR1.out.mono (by repeat (first | (with_reducible exact Below.refl _ _) | (with_reducible assumption) | (with_reducible refine bel_alloc ?_ _) | ((with_reducible refine bel_set ?_ ?_ _); rotate_left; (focus first | (simp; done) | (simp; omega)))))) (by omega) ?_; intro v' W0 HF hb; obtain ⟨a0, n0, c0, rfl⟩ := HF.repS.shape; have HF0 := Lib.hid (HF.frIn.wide (lo' := w.heap.size + 1 + 1) (hi' := W0.heap.size) (Nat.le_refl _) (Nat.le_refl _)); have HB0 := Lib.hid (bel_upto (show Below w.heap.size w _ from (by repeat (first | (with_reducible exact Below.refl _ _) | (with_reducible assumption) | (with_reducible refine bel_alloc ?_ _) | ((with_reducible refine bel_set ?_ ?_ _); rotate_left; (focus first | (simp; done) | (simp; omega)))))) hb (by omega)); have cA0 := fun o => hb.cell (p := ⟨w.heap.size, o, none⟩) (show w.heap.size < w.heap.size + 1 + 1 by omega); have cR0 := fun o => hb.cell (p := ⟨w.heap.size + 1, o, none⟩) (show w.heap.size + 1 < w.heap.size + 1 + 1 by omega); have fA0 := fun o => hb.frozen (p := ⟨w.heap.size, o, none⟩) (show w.heap.size < w.heap.size + 1 + 1 by omega); have fR0 := fun o => hb.frozen (p := ⟨w.heap.size + 1, o, none⟩) (show w.heap.size + 1 < w.heap.size + 1 + 1 by omega); have hz0 := hb.size; simp only [World.size_alloc] at hz0; have hy0 : w.heap.size + 1 + 1 < W0.heap.size := (by omega); have hx0 : w.heap.size + 1 < W0.heap.size := (by omega); have hw0 : w.heap.size < W0.heap.size := (by omega); have tok1 : True := trivial; clear hb HF tok0)
    | (at_builtin; have _t := tok1; refine wpList_append_copy (α := DAsk) rfl _ _ 51 rfl 118 _ _ Try.underlying51 info_implAsk rfl rfl (of_decide_eq_true (by kernel_rfl)) (W0.heap.size) rfl (heap_new_at _ _ (by simp)) (.slice p1 m1 q1) x.Asked rfl (HR2.out.mono (show Below w.heap.size w _ from bel_alloc (bel_set HB0.out (by simp) _) _)) (by omega) ?_; intro v' W1 HF hb; obtain ⟨a1, n1, c1, rfl⟩ := HF.repS.shape; have HF1 := Lib.hid (HF.frIn.wide (lo' := W0.heap.size) (hi' := W1.heap.size) (Nat.le_refl _) (Nat.le_refl _)); have HB1 := Lib.hid (bel_upto (show Below w.heap.size w _ from bel_alloc (bel_set HB0.out (by simp) _) _) hb (by omega)); have HBB := Lib.hid hb; have hc1 := fun b o (h : b < W0.heap.size) => hb.cell (p := ⟨b, o, none⟩) h; have fA1 := fun o => hb.frozen (p := ⟨w.heap.size, o, none⟩) hw0; have fR1 := fun o => hb.frozen (p := ⟨w.heap.size + 1, o, none⟩) hx0; have hz1 := hb.size; simp only [World.size_alloc, World.size_setCell] at hz1; have hx1 : w.heap.size + 1 < W1.heap.size := (by omega); have hw1 : w.heap.size < W1.heap.size := (by omega); have kB : ∀ o, W1.cell? ⟨w.heap.size, o, none⟩ = (W0.setCell ⟨w.heap.size, 1, none⟩ (.slice a0 n0 c0)).cell? ⟨w.heap.size, o, none⟩ := fun o => (hc1 _ _ hw0).trans (World.cell?_alloc_lt _ _ ⟨w.heap.size, o, none⟩ (by simpa using hw0)); have kR : ∀ o, W1.cell? ⟨w.heap.size + 1, o, none⟩ = (W0.setCell ⟨w.heap.size, 1, none⟩ (.slice a0 n0 c0)).cell? ⟨w.heap.size + 1, o, none⟩ := fun o => (hc1 _ _ hx0).trans (World.cell?_alloc_lt _ _ ⟨w.heap.size + 1, o, none⟩ (by simpa using hx0)); clear hc1 hb HF tok1))
  refine bodyPost_ret (v := .agg #[.int .i64 x.Next, .slice a0 n0 c0, .slice a1 n1 c1]) (by simp [results, Try.results58, go_sem, hlt2, cA0, cR0, fA0, fR0, hy0, hx0, hw0, kB, kR, fA1, fR1, hx1, hw1]) rfl ⟨_, rfl, ⟨_, rfl, ?_⟩, (by have hB := HB1.out; repeat (first | (with_reducible assumption) | ((with_reducible refine bel_set ?_ ?_ _); rotate_left; (focus first | (simp; done) | (simp; omega)))))⟩
  exact FrIn.fresh (lo := w.heap.size + 1 + 1) (hi := W1.heap.size) (FrIn.consFlat (c1 := [_]) ⟨⟨rfl, HI.out⟩, rfl⟩ (FrIn.pair (c1 := [_]) (show FrIn (α := List DProc) (w.heap.size + 1 + 1) W0.heap.size _ [_] x.Live from by repeat (first | (with_reducible exact HF0.out) | ((with_reducible refine FrIn.set ?_ (Or.inl ?_) _); rotate_left; (focus first | (simp; done) | (simp; omega) | omega)) | (with_reducible refine FrIn.alloc ?_ _) | (with_reducible refine FrIn.belowB ?_ HBB.out (Nat.le_refl _)))) (show FrIn (α := List DAsk) W0.heap.size W1.heap.size _ [_] x.Asked from by repeat (first | (with_reducible exact HF1.out) | ((with_reducible refine FrIn.set ?_ (Or.inl ?_) _); rotate_left; (focus first | (simp; done) | (simp; omega) | omega)) | (with_reducible refine FrIn.alloc ?_ _))) (by first | (simp; done) | (simp; omega) | omega) (by first | (simp; done) | (simp; omega) | omega) (by first | (simp; done) | (simp; omega) | omega))) (by first | (simp; done) | (simp; omega) | omega)
set_option maxRecDepth 100000 in
set_option maxHeartbeats 1000000 in
theorem impl_TableDown' (w : World) (cs : List Value) (x : DTable) (h : Rep.rep w cs x) (hsz : x.bulk ≤ 1048576) : Calls Try.prog 29 #[.agg cs.toArray] w (Gives w fun r w' => ∃ cs', r = .agg cs'.toArray ∧ Fresh w.heap.size w' cs' (tableDown x)) := by
  have HP := Lib.hid h
  have HS := Lib.hid hsz
  have HI := Lib.hid (show I64 x.Next from by obtain ⟨_, _, _, hi, _⟩ := DTable.rep_iff.1 h; exact hi)
  obtain ⟨p0, m0, q0, p1, m1, q1, rfl⟩ : ∃ p0 m0 q0 p1 m1 q1, cs = [.int .i64 x.Next, .slice p0 m0 q0, .slice p1 m1 q1] := by
    obtain ⟨a, b, c, d, e, f, h⟩ := DTable.shape h
    exact ⟨_, _, _, _, _, _, h⟩
  clear h hsz
  have hlt1 : w.heap.size < w.heap.size + 1 := by omega
  cases ht : tableOk x
  all_goals
    have HT := Lib.hid ht
    clear ht
    go_enter Try.func29, Try.ntmps29
    go_wp2_with fail
    refine (impl_TableOk _ [_, _, _] x (Rep.mono HP.out (by repeat (first | (with_reducible exact Below.refl _ _) | (with_reducible assumption) | (with_reducible refine bel_alloc ?_ _) | ((with_reducible refine bel_set ?_ ?_ _); rotate_left; (focus first | (simp; done) | (simp; omega))))))).mono ?_
    rintro e W1 ⟨_, rfl, rfl, hb⟩
    rw [HT.out]
    have HB1 := Lib.hid (bel_next (show Below w.heap.size w _ from (by repeat (first | (with_reducible exact Below.refl _ _) | (with_reducible assumption) | (with_reducible refine bel_alloc ?_ _) | ((with_reducible refine bel_set ?_ ?_ _); rotate_left; (focus first | (simp; done) | (simp; omega)))))) hb)
    have cA1 := fun o => hb.cell (p := ⟨w.heap.size, o, none⟩) (by simp only [World.size_alloc]; omega)
    have cR1 := fun o => hb.cell (p := ⟨w.heap.size + 1, o, none⟩) (by simp only [World.size_alloc]; omega)
    have fR1 := fun o => hb.frozen (p := ⟨w.heap.size + 1, o, none⟩) (by simp only [World.size_alloc]; omega)
    have hz1 := hb.size
    simp only [World.size_alloc] at hz1
    have hx1 : w.heap.size + 1 < W1.heap.size := by omega
    have hw1 : w.heap.size < W1.heap.size := by omega
    clear hb
    go_wp2_with fail
  · refine bodyPost_ret (v := .agg #[.int .i64 0, .slice none 0 0, .slice none 0 0]) (by simp [results, Try.results29, go_sem, cR1, fR1, hx1, hw1]) rfl ⟨_, rfl, ⟨[_, _, _], rfl, ?_⟩, (by have hB := HB1.out; repeat (first | (with_reducible assumption) | ((with_reducible refine bel_set ?_ ?_ _); rotate_left; (focus first | (simp; done) | (simp; omega)))))⟩
    have e : tableDown x = ⟨0, [], []⟩ := by unfold tableDown; simp [HT.out]
    rw [e]
    exact ⟨[], DTable.zero _, by simp, by simp⟩
  · refine (impl_copyTable _ [_, _, _] x (Rep.mono HP.out HB1.out) HS.out).mono ?_
    rintro e W2 ⟨_, rfl, ⟨cs2, rfl, HF⟩, hb⟩
    obtain ⟨s0, t0, u0, s1, t1, u1, rfl⟩ : ∃ p0 m0 q0 p1 m1 q1, cs2 = [.int .i64 x.Next, .slice p0 m0 q0, .slice p1 m1 q1] := by
      obtain ⟨a, b, c, d, e, f, h⟩ := DTable.shape HF.rep
      exact ⟨_, _, _, _, _, _, h⟩
    have HF1 := Lib.hid (DTable.asked HF.frIn)
    have HB2 := Lib.hid (bel_next HB1.out hb)
    have cR2 := fun o => hb.cell (p := ⟨w.heap.size + 1, o, none⟩) hx1
    have fR2 := fun o => hb.frozen (p := ⟨w.heap.size + 1, o, none⟩) hx1
    have hz2 := hb.size
    have hx2 : w.heap.size + 1 < W2.heap.size := by omega
    have hw2 : w.heap.size < W2.heap.size := by omega
    clear hb HF
    go_wp2_with fail
    refine bodyPost_ret (v := .agg #[.int .i64 x.Next, .slice none 0 0, .slice s1 t1 u1]) (by simp [results, Try.results29, go_sem, cR1, fR1, hx1, hw1, cR2, fR2, hx2, hw2]) rfl ⟨_, rfl, ⟨[_, _, _], rfl, ?_⟩, (by have hB := HB2.out; repeat (first | (with_reducible assumption) | (with_reducible refine bel_alloc ?_ _) | ((with_reducible refine bel_set ?_ ?_ _); rotate_left; (focus first | (simp; done) | (simp; omega)))))⟩
    have e : tableDown x = { x with Live := [] } := by unfold tableDown; simp [HT.out]
    rw [e]
    exact FrIn.fresh (lo := W1.heap.size) (hi := W2.heap.size) (FrIn.consFlat (c1 := [_]) ⟨⟨rfl, HI.out⟩, rfl⟩ (FrIn.consFlat (c1 := [_]) (x := ([] : List DProc)) ⟨_, rfl, OwnS.nil _⟩ (show FrIn (α := List DAsk) W1.heap.size W2.heap.size _ [_] x.Asked from by repeat (first | (with_reducible exact HF1.out) | ((with_reducible refine FrIn.set ?_ (Or.inl ?_) _); rotate_left; (focus first | (simp; done) | (simp; omega) | omega)) | ((with_reducible refine FrIn.set ?_ (Or.inr ?_) _); rotate_left; (focus first | (simp; done) | (simp; omega) | omega)) | (with_reducible refine FrIn.alloc ?_ _))))) (by first | (simp; done) | (simp; omega) | omega)
set_option maxRecDepth 100000 in
set_option maxHeartbeats 1000000 in
theorem spec_TableDown' (w : World) (cs : List Value) (x : DTable) (h : Rep.rep w cs x) (hsz : x.bulk ≤ 1048576) : Calls Try.prog 28 #[.agg cs.toArray] w (Gives w fun r w' => ∃ cs', r = .agg cs'.toArray ∧ Fresh w.heap.size w' cs' (tableDown x)) := by
  have HP := Lib.hid h
  have HS := Lib.hid hsz
  have HI := Lib.hid (show I64 x.Next from by obtain ⟨_, _, _, hi, _⟩ := DTable.rep_iff.1 h; exact hi)
  obtain ⟨p0, m0, q0, p1, m1, q1, rfl⟩ : ∃ p0 m0 q0 p1 m1 q1, cs = [.int .i64 x.Next, .slice p0 m0 q0, .slice p1 m1 q1] := by
    obtain ⟨a, b, c, d, e, f, h⟩ := DTable.shape h
    exact ⟨_, _, _, _, _, _, h⟩
  clear h hsz
  have hlt1 : w.heap.size < w.heap.size + 1 := by omega
  cases ht : tableOk x
  all_goals
    have HT := Lib.hid ht
    clear ht
    go_enter Try.func28, Try.ntmps28
    go_wp2_with fail
    refine (spec_TableOk _ [_, _, _] x (Rep.mono HP.out (by repeat (first | (with_reducible exact Below.refl _ _) | (with_reducible assumption) | (with_reducible refine bel_alloc ?_ _) | ((with_reducible refine bel_set ?_ ?_ _); rotate_left; (focus first | (simp; done) | (simp; omega)))))) HS.out).mono ?_
    rintro e W1 ⟨_, rfl, rfl, hb⟩
    rw [HT.out]
    have HB1 := Lib.hid (bel_next (show Below w.heap.size w _ from (by repeat (first | (with_reducible exact Below.refl _ _) | (with_reducible assumption) | (with_reducible refine bel_alloc ?_ _) | ((with_reducible refine bel_set ?_ ?_ _); rotate_left; (focus first | (simp; done) | (simp; omega)))))) hb)
    have cA1 := fun o => hb.cell (p := ⟨w.heap.size, o, none⟩) (by simp only [World.size_alloc]; omega)
    have cR1 := fun o => hb.cell (p := ⟨w.heap.size + 1, o, none⟩) (by simp only [World.size_alloc]; omega)
    have fR1 := fun o => hb.frozen (p := ⟨w.heap.size + 1, o, none⟩) (by simp only [World.size_alloc]; omega)
    have hz1 := hb.size
    simp only [World.size_alloc] at hz1
    have hx1 : w.heap.size + 1 < W1.heap.size := by omega
    have hw1 : w.heap.size < W1.heap.size := by omega
    clear hb
    go_wp2_with fail
  · refine bodyPost_ret (v := .agg #[.int .i64 0, .slice none 0 0, .slice none 0 0]) (by simp [results, Try.results28, go_sem, cR1, fR1, hx1, hw1]) rfl ⟨_, rfl, ⟨[_, _, _], rfl, ?_⟩, (by have hB := HB1.out; repeat (first | (with_reducible assumption) | ((with_reducible refine bel_set ?_ ?_ _); rotate_left; (focus first | (simp; done) | (simp; omega)))))⟩
    have e : tableDown x = ⟨0, [], []⟩ := by unfold tableDown; simp [HT.out]
    rw [e]
    exact ⟨[], DTable.zero _, by simp, by simp⟩
  · refine (spec_l21Copy _ [_, _, _] x (Rep.mono HP.out HB1.out) HS.out).mono ?_
    rintro e W2 ⟨_, rfl, ⟨cs2, rfl, HF⟩, hb⟩
    obtain ⟨s0, t0, u0, s1, t1, u1, rfl⟩ : ∃ p0 m0 q0 p1 m1 q1, cs2 = [.int .i64 x.Next, .slice p0 m0 q0, .slice p1 m1 q1] := by
      obtain ⟨a, b, c, d, e, f, h⟩ := DTable.shape HF.rep
      exact ⟨_, _, _, _, _, _, h⟩
    have HF1 := Lib.hid (DTable.asked HF.frIn)
    have HB2 := Lib.hid (bel_next HB1.out hb)
    have cR2 := fun o => hb.cell (p := ⟨w.heap.size + 1, o, none⟩) hx1
    have fR2 := fun o => hb.frozen (p := ⟨w.heap.size + 1, o, none⟩) hx1
    have hz2 := hb.size
    have hx2 : w.heap.size + 1 < W2.heap.size := by omega
    have hw2 : w.heap.size < W2.heap.size := by omega
    clear hb HF
    go_wp2_with fail
    refine bodyPost_ret (v := .agg #[.int .i64 x.Next, .slice none 0 0, .slice s1 t1 u1]) (by simp [results, Try.results28, go_sem, cR1, fR1, hx1, hw1, cR2, fR2, hx2, hw2]) rfl ⟨_, rfl, ⟨[_, _, _], rfl, ?_⟩, (by have hB := HB2.out; repeat (first | (with_reducible assumption) | (with_reducible refine bel_alloc ?_ _) | ((with_reducible refine bel_set ?_ ?_ _); rotate_left; (focus first | (simp; done) | (simp; omega)))))⟩
    have e : tableDown x = { x with Live := [] } := by unfold tableDown; simp [HT.out]
    rw [e]
    exact FrIn.fresh (lo := W1.heap.size) (hi := W2.heap.size) (FrIn.consFlat (c1 := [_]) ⟨⟨rfl, HI.out⟩, rfl⟩ (FrIn.consFlat (c1 := [_]) (x := ([] : List DProc)) ⟨_, rfl, OwnS.nil _⟩ (show FrIn (α := List DAsk) W1.heap.size W2.heap.size _ [_] x.Asked from by repeat (first | (with_reducible exact HF1.out) | ((with_reducible refine FrIn.set ?_ (Or.inl ?_) _); rotate_left; (focus first | (simp; done) | (simp; omega) | omega)) | ((with_reducible refine FrIn.set ?_ (Or.inr ?_) _); rotate_left; (focus first | (simp; done) | (simp; omega) | omega)) | (with_reducible refine FrIn.alloc ?_ _))))) (by first | (simp; done) | (simp; omega) | omega)
end Go.Proofs.Ytnidoeapoknhdaa
