/- The walk of the program's StepText. -/
import Derived.Test.YtjglknaojfnllaaDoorFnNums
import Derived.Test.YtjglknaojfnllaaDoorExt
import Derived.Test.YtjglknaojfnllaaDoorMaps1
set_option linter.unusedSimpArgs false
set_option linter.unusedVariables false
namespace Go.Mux
open Go.RowKit
theorem lit_append (a b : Array UInt8) : (⟨a⟩ : ByteArray) ++ ⟨b⟩ = ⟨a ++ b⟩ := by
  refine Go.WideShapes.bytes_inj ?_
  rw [ByteArray.toList_data_append]
  simp
theorem strs_lit {w : World} (l : List ByteArray) (e : TypeId) (he : e = Rep.tid ByteArray) (hl : l.length ≤ 100) (hi : ∀ n ∈ l, n.size ≤ 9223372036854775807) : FreshS w.heap.size (w.alloc (.cells (l.map fun n => Value.string n).toArray e)) (.slice (some ⟨w.heap.size, 0, none⟩) l.length l.length) l := by
  refine freshS_lit rfl w l _ e he (by simp) (by omega) fun i x u hx hu w => ?_
  rw [List.getElem?_map, hx] at hu
  cases hu
  exact ⟨rfl, hi x (List.mem_of_getElem? hx)⟩
theorem stepText_no' {x : DStep} (h : stepOk x = false) : stepText x = ByteArray.empty := by unfold stepText; simp [h]
end Go.Mux
namespace Go.Proofs.YtjglknaojfnllaaDoor
open Go.RowKit Go.Mux
theorem info_str : (Tryd.prog.info? 9).map (fun i => (i.zero, i.size, i.bytes)) = some (some (.string ByteArray.empty), 1, 16) := by kernel_rfl
set_option maxRecDepth 100000 in
set_option maxHeartbeats 8000000 in
theorem impl_StepText' (w : World) (cs : List Value) (x : DStep) (h : Rep.rep w cs x) (hsz : x.bulk ≤ 1048576) (ht : Tab Tryd.prog w) : Calls Tryd.prog 22 #[.agg cs.toArray] w (Gives w fun r _ => r = .string (stepText x)) := by
  have HR := Lib.hid h
  have HT := Lib.hid ht
  obtain ⟨v0, v1, rfl, h0, h1, h2, h3, h4, h5⟩ := DStep.rep_iff.1 h
  have HD := Lib.hid h4
  have HCU := Lib.hid h5
  obtain ⟨a0, p0, rfl, hl0, -⟩ := h4
  obtain ⟨a1, p1, rfl, hl1, -⟩ := h5
  unfold DStep.bulk at hsz
  clear h h3 hl0 hl1 ht
  obtain ⟨kd, A, B, tx, da, cu⟩ := x
  dsimp only at *
  clear h0 h1 h2
  cases hz : stepOk ⟨kd, A, B, tx, da, cu⟩
  · have HZ := Lib.hid hz
    have HN := Lib.hid (stepText_no' hz)
    clear hz
    go_enter Tryd.func22, Tryd.ntmps22
    go_wp2_with fail
    refine (impl_isStep _ [_, _, _, _, _, _] ⟨kd, A, B, tx, da, cu⟩ (Rep.mono HR.out (by repeat (first | (with_reducible exact Below.refl _ _) | (with_reducible assumption) | (with_reducible refine bel_alloc ?_ _) | ((with_reducible refine bel_set ?_ ?_ _); rotate_left; (focus first | (simp; done) | (simp; omega))))))).mono ?_
    rintro e W1 ⟨_, rfl, rfl, hb⟩
    rw [HZ.out]
    have HB1 := Lib.hid (bel_next (show Below w.heap.size w _ from (by repeat (first | (with_reducible exact Below.refl _ _) | (with_reducible assumption) | (with_reducible refine bel_alloc ?_ _) | ((with_reducible refine bel_set ?_ ?_ _); rotate_left; (focus first | (simp; done) | (simp; omega)))))) hb)
    have hz1 := hb.size
    simp only [World.size_alloc] at hz1
    have hlt : w.heap.size < W1.heap.size := by omega
    have f0 : W1.cell? ⟨w.heap.size, 0, none⟩ = some (.int .i64 kd) := (hb.cell (p := ⟨w.heap.size, 0, none⟩) (by simp)).trans (by simp)
    have f1 : W1.cell? ⟨w.heap.size, 1, none⟩ = some (.int .i64 A) := (hb.cell (p := ⟨w.heap.size, 1, none⟩) (by simp)).trans (by simp)
    have f2 : W1.cell? ⟨w.heap.size, 2, none⟩ = some (.int .i64 B) := (hb.cell (p := ⟨w.heap.size, 2, none⟩) (by simp)).trans (by simp)
    have f3 : W1.cell? ⟨w.heap.size, 3, none⟩ = some (.string tx) := (hb.cell (p := ⟨w.heap.size, 3, none⟩) (by simp)).trans (by simp)
    have f4 : W1.cell? ⟨w.heap.size, 4, none⟩ = some (.slice a0 da.length p0) := (hb.cell (p := ⟨w.heap.size, 4, none⟩) (by simp)).trans (by simp)
    have f5 : W1.cell? ⟨w.heap.size, 5, none⟩ = some (.slice a1 cu.length p1) := (hb.cell (p := ⟨w.heap.size, 5, none⟩) (by simp)).trans (by simp)
    clear hb
    go_wp2_with fail
    go_ret
    exact ⟨_, rfl, by show _ = Value.string _; rw [HN.out] <;> rfl, HB1.out⟩
  have HZ := Lib.hid hz
  clear hz
  by_cases hk1 : kd = 1
  · subst hk1
    have HN := Lib.hid (show stepText ⟨1, A, B, tx, da, cu⟩ = ⟨#[115, 116, 97, 114, 116]⟩ from by unfold stepText; rw [if_pos HZ.out]; simp)
    go_enter Tryd.func22, Tryd.ntmps22
    go_wp2_with fail
    refine (impl_isStep _ [_, _, _, _, _, _] ⟨1, A, B, tx, da, cu⟩ (Rep.mono HR.out (by repeat (first | (with_reducible exact Below.refl _ _) | (with_reducible assumption) | (with_reducible refine bel_alloc ?_ _) | ((with_reducible refine bel_set ?_ ?_ _); rotate_left; (focus first | (simp; done) | (simp; omega))))))).mono ?_
    rintro e W1 ⟨_, rfl, rfl, hb⟩
    rw [HZ.out]
    have HB1 := Lib.hid (bel_next (show Below w.heap.size w _ from (by repeat (first | (with_reducible exact Below.refl _ _) | (with_reducible assumption) | (with_reducible refine bel_alloc ?_ _) | ((with_reducible refine bel_set ?_ ?_ _); rotate_left; (focus first | (simp; done) | (simp; omega)))))) hb)
    have hz1 := hb.size
    simp only [World.size_alloc] at hz1
    have hlt : w.heap.size < W1.heap.size := by omega
    have f0 : W1.cell? ⟨w.heap.size, 0, none⟩ = some (.int .i64 1) := (hb.cell (p := ⟨w.heap.size, 0, none⟩) (by simp)).trans (by simp)
    have f1 : W1.cell? ⟨w.heap.size, 1, none⟩ = some (.int .i64 A) := (hb.cell (p := ⟨w.heap.size, 1, none⟩) (by simp)).trans (by simp)
    have f2 : W1.cell? ⟨w.heap.size, 2, none⟩ = some (.int .i64 B) := (hb.cell (p := ⟨w.heap.size, 2, none⟩) (by simp)).trans (by simp)
    have f3 : W1.cell? ⟨w.heap.size, 3, none⟩ = some (.string tx) := (hb.cell (p := ⟨w.heap.size, 3, none⟩) (by simp)).trans (by simp)
    have f4 : W1.cell? ⟨w.heap.size, 4, none⟩ = some (.slice a0 da.length p0) := (hb.cell (p := ⟨w.heap.size, 4, none⟩) (by simp)).trans (by simp)
    have f5 : W1.cell? ⟨w.heap.size, 5, none⟩ = some (.slice a1 cu.length p1) := (hb.cell (p := ⟨w.heap.size, 5, none⟩) (by simp)).trans (by simp)
    clear hb
    have hmm := @run_makeMap Tryd.prog
    obtain ⟨M1, r1, q1, b1, z1⟩ := map_insert_int Tryd.underlying64 Tryd.underlying3 (W1.alloc (.map #[] 0)) W1.heap.size #[] 0 1 (.string ⟨#[115, 116, 97, 114, 116]⟩) (heap_alloc_new W1 _) rfl
    obtain ⟨M2, r2, q2, b2, z2⟩ := map_insert_int Tryd.underlying64 Tryd.underlying3 M1 W1.heap.size _ _ 2 (.string ⟨#[115, 121, 110, 99]⟩) q1 rfl
    obtain ⟨M3, r3, q3, b3, z3⟩ := map_insert_int Tryd.underlying64 Tryd.underlying3 M2 W1.heap.size _ _ 3 (.string ⟨#[112, 97, 99, 107]⟩) q2 rfl
    have lk := map_lookup_int Tryd.underlying64 Tryd.underlying3 M3 W1.heap.size _ _ 1 0 (.string ⟨#[115, 116, 97, 114, 116]⟩) q3 rfl
    have HBM := Lib.hid ((((bel_alloc (Below.refl W1.heap.size W1) (.map #[] 0)).trans b1).trans b2).trans b3)
    have fM : M3.cell? ⟨w.heap.size, 0, none⟩ = some (.int .i64 1) := (HBM.out.cell (p := ⟨w.heap.size, 0, none⟩) hlt).trans f0
    clear q1 q2 q3 b1 b2 b3 z1 z2 z3
    go_wp2_with fail
    go_ret
    exact ⟨_, rfl, by show _ = Value.string _; rw [HN.out] <;> rfl, bel_next HB1.out HBM.out⟩
  by_cases hk2 : kd = 2
  · subst hk2
    clear hk1
    have HN := Lib.hid (show stepText ⟨2, A, B, tx, da, cu⟩ = ⟨#[115, 121, 110, 99]⟩ from by unfold stepText; rw [if_pos HZ.out]; simp)
    go_enter Tryd.func22, Tryd.ntmps22
    go_wp2_with fail
    refine (impl_isStep _ [_, _, _, _, _, _] ⟨2, A, B, tx, da, cu⟩ (Rep.mono HR.out (by repeat (first | (with_reducible exact Below.refl _ _) | (with_reducible assumption) | (with_reducible refine bel_alloc ?_ _) | ((with_reducible refine bel_set ?_ ?_ _); rotate_left; (focus first | (simp; done) | (simp; omega))))))).mono ?_
    rintro e W1 ⟨_, rfl, rfl, hb⟩
    rw [HZ.out]
    have HB1 := Lib.hid (bel_next (show Below w.heap.size w _ from (by repeat (first | (with_reducible exact Below.refl _ _) | (with_reducible assumption) | (with_reducible refine bel_alloc ?_ _) | ((with_reducible refine bel_set ?_ ?_ _); rotate_left; (focus first | (simp; done) | (simp; omega)))))) hb)
    have hz1 := hb.size
    simp only [World.size_alloc] at hz1
    have hlt : w.heap.size < W1.heap.size := by omega
    have f0 : W1.cell? ⟨w.heap.size, 0, none⟩ = some (.int .i64 2) := (hb.cell (p := ⟨w.heap.size, 0, none⟩) (by simp)).trans (by simp)
    have f1 : W1.cell? ⟨w.heap.size, 1, none⟩ = some (.int .i64 A) := (hb.cell (p := ⟨w.heap.size, 1, none⟩) (by simp)).trans (by simp)
    have f2 : W1.cell? ⟨w.heap.size, 2, none⟩ = some (.int .i64 B) := (hb.cell (p := ⟨w.heap.size, 2, none⟩) (by simp)).trans (by simp)
    have f3 : W1.cell? ⟨w.heap.size, 3, none⟩ = some (.string tx) := (hb.cell (p := ⟨w.heap.size, 3, none⟩) (by simp)).trans (by simp)
    have f4 : W1.cell? ⟨w.heap.size, 4, none⟩ = some (.slice a0 da.length p0) := (hb.cell (p := ⟨w.heap.size, 4, none⟩) (by simp)).trans (by simp)
    have f5 : W1.cell? ⟨w.heap.size, 5, none⟩ = some (.slice a1 cu.length p1) := (hb.cell (p := ⟨w.heap.size, 5, none⟩) (by simp)).trans (by simp)
    clear hb
    have hmm := @run_makeMap Tryd.prog
    obtain ⟨M1, r1, q1, b1, z1⟩ := map_insert_int Tryd.underlying64 Tryd.underlying3 (W1.alloc (.map #[] 0)) W1.heap.size #[] 0 1 (.string ⟨#[115, 116, 97, 114, 116]⟩) (heap_alloc_new W1 _) rfl
    obtain ⟨M2, r2, q2, b2, z2⟩ := map_insert_int Tryd.underlying64 Tryd.underlying3 M1 W1.heap.size _ _ 2 (.string ⟨#[115, 121, 110, 99]⟩) q1 rfl
    obtain ⟨M3, r3, q3, b3, z3⟩ := map_insert_int Tryd.underlying64 Tryd.underlying3 M2 W1.heap.size _ _ 3 (.string ⟨#[112, 97, 99, 107]⟩) q2 rfl
    have lk := map_lookup_int Tryd.underlying64 Tryd.underlying3 M3 W1.heap.size _ _ 2 1 (.string ⟨#[115, 121, 110, 99]⟩) q3 rfl
    have HBM := Lib.hid ((((bel_alloc (Below.refl W1.heap.size W1) (.map #[] 0)).trans b1).trans b2).trans b3)
    have fM : M3.cell? ⟨w.heap.size, 0, none⟩ = some (.int .i64 2) := (HBM.out.cell (p := ⟨w.heap.size, 0, none⟩) hlt).trans f0
    clear q1 q2 q3 b1 b2 b3 z1 z2 z3
    go_wp2_with fail
    go_ret
    exact ⟨_, rfl, by show _ = Value.string _; rw [HN.out] <;> rfl, bel_next HB1.out HBM.out⟩
  by_cases hk3 : kd = 3
  · subst hk3
    clear hk1 hk2
    have HN := Lib.hid (show stepText ⟨3, A, B, tx, da, cu⟩ = ⟨#[112, 97, 99, 107]⟩ from by unfold stepText; rw [if_pos HZ.out]; simp)
    go_enter Tryd.func22, Tryd.ntmps22
    go_wp2_with fail
    refine (impl_isStep _ [_, _, _, _, _, _] ⟨3, A, B, tx, da, cu⟩ (Rep.mono HR.out (by repeat (first | (with_reducible exact Below.refl _ _) | (with_reducible assumption) | (with_reducible refine bel_alloc ?_ _) | ((with_reducible refine bel_set ?_ ?_ _); rotate_left; (focus first | (simp; done) | (simp; omega))))))).mono ?_
    rintro e W1 ⟨_, rfl, rfl, hb⟩
    rw [HZ.out]
    have HB1 := Lib.hid (bel_next (show Below w.heap.size w _ from (by repeat (first | (with_reducible exact Below.refl _ _) | (with_reducible assumption) | (with_reducible refine bel_alloc ?_ _) | ((with_reducible refine bel_set ?_ ?_ _); rotate_left; (focus first | (simp; done) | (simp; omega)))))) hb)
    have hz1 := hb.size
    simp only [World.size_alloc] at hz1
    have hlt : w.heap.size < W1.heap.size := by omega
    have f0 : W1.cell? ⟨w.heap.size, 0, none⟩ = some (.int .i64 3) := (hb.cell (p := ⟨w.heap.size, 0, none⟩) (by simp)).trans (by simp)
    have f1 : W1.cell? ⟨w.heap.size, 1, none⟩ = some (.int .i64 A) := (hb.cell (p := ⟨w.heap.size, 1, none⟩) (by simp)).trans (by simp)
    have f2 : W1.cell? ⟨w.heap.size, 2, none⟩ = some (.int .i64 B) := (hb.cell (p := ⟨w.heap.size, 2, none⟩) (by simp)).trans (by simp)
    have f3 : W1.cell? ⟨w.heap.size, 3, none⟩ = some (.string tx) := (hb.cell (p := ⟨w.heap.size, 3, none⟩) (by simp)).trans (by simp)
    have f4 : W1.cell? ⟨w.heap.size, 4, none⟩ = some (.slice a0 da.length p0) := (hb.cell (p := ⟨w.heap.size, 4, none⟩) (by simp)).trans (by simp)
    have f5 : W1.cell? ⟨w.heap.size, 5, none⟩ = some (.slice a1 cu.length p1) := (hb.cell (p := ⟨w.heap.size, 5, none⟩) (by simp)).trans (by simp)
    clear hb
    have hmm := @run_makeMap Tryd.prog
    obtain ⟨M1, r1, q1, b1, z1⟩ := map_insert_int Tryd.underlying64 Tryd.underlying3 (W1.alloc (.map #[] 0)) W1.heap.size #[] 0 1 (.string ⟨#[115, 116, 97, 114, 116]⟩) (heap_alloc_new W1 _) rfl
    obtain ⟨M2, r2, q2, b2, z2⟩ := map_insert_int Tryd.underlying64 Tryd.underlying3 M1 W1.heap.size _ _ 2 (.string ⟨#[115, 121, 110, 99]⟩) q1 rfl
    obtain ⟨M3, r3, q3, b3, z3⟩ := map_insert_int Tryd.underlying64 Tryd.underlying3 M2 W1.heap.size _ _ 3 (.string ⟨#[112, 97, 99, 107]⟩) q2 rfl
    have lk := map_lookup_int Tryd.underlying64 Tryd.underlying3 M3 W1.heap.size _ _ 3 2 (.string ⟨#[112, 97, 99, 107]⟩) q3 rfl
    have HBM := Lib.hid ((((bel_alloc (Below.refl W1.heap.size W1) (.map #[] 0)).trans b1).trans b2).trans b3)
    have fM : M3.cell? ⟨w.heap.size, 0, none⟩ = some (.int .i64 3) := (HBM.out.cell (p := ⟨w.heap.size, 0, none⟩) hlt).trans f0
    clear q1 q2 q3 b1 b2 b3 z1 z2 z3
    go_wp2_with fail
    go_ret
    exact ⟨_, rfl, by show _ = Value.string _; rw [HN.out] <;> rfl, bel_next HB1.out HBM.out⟩
  by_cases hk4 : kd = 4
  · subst hk4
    clear hk1 hk2 hk3
    have HN := Lib.hid (show stepText ⟨4, A, B, tx, da, cu⟩ = joinT (⟨#[99, 114, 97, 115, 104]⟩ :: numText A :: cu.map numText) ⟨#[32]⟩ from by rw [show numText A :: cu.map numText = (A :: cu).map numText from rfl, joinT_nums]; unfold stepText; rw [if_pos HZ.out]; simp)
    have hz := numText_size A
    have hjs : (joinT (⟨#[99, 114, 97, 115, 104]⟩ :: numText A :: cu.map numText) ⟨#[32]⟩).size ≤ 140737488355328 := by
      rw [show numText A :: cu.map numText = (A :: cu).map numText from rfl, joinT_nums]
      have h := numsT_size (A :: cu) ⟨#[99, 114, 97, 115, 104]⟩
      have e : (⟨#[99, 114, 97, 115, 104]⟩ : ByteArray).size = 5 := rfl
      rw [e, List.length_cons] at h
      omega
    have HJS := Lib.hid hjs
    clear hjs
    obtain ⟨a9, cap9, e9, hl9, hc9⟩ := ints_open HCU.out
    cases e9
    have HC := Lib.hid hc9
    clear hc9 hl9
    go_enter Tryd.func22, Tryd.ntmps22
    go_wp2_with fail
    refine (impl_isStep _ [_, _, _, _, _, _] ⟨4, A, B, tx, da, cu⟩ (Rep.mono HR.out (by repeat (first | (with_reducible exact Below.refl _ _) | (with_reducible assumption) | (with_reducible refine bel_alloc ?_ _) | ((with_reducible refine bel_set ?_ ?_ _); rotate_left; (focus first | (simp; done) | (simp; omega))))))).mono ?_
    rintro e W1 ⟨_, rfl, rfl, hb⟩
    rw [HZ.out]
    have HB1 := Lib.hid (bel_next (show Below w.heap.size w _ from (by repeat (first | (with_reducible exact Below.refl _ _) | (with_reducible assumption) | (with_reducible refine bel_alloc ?_ _) | ((with_reducible refine bel_set ?_ ?_ _); rotate_left; (focus first | (simp; done) | (simp; omega)))))) hb)
    have hz1 := hb.size
    simp only [World.size_alloc] at hz1
    have hlt : w.heap.size < W1.heap.size := by omega
    have f0 : W1.cell? ⟨w.heap.size, 0, none⟩ = some (.int .i64 4) := (hb.cell (p := ⟨w.heap.size, 0, none⟩) (by simp)).trans (by simp)
    have f1 : W1.cell? ⟨w.heap.size, 1, none⟩ = some (.int .i64 A) := (hb.cell (p := ⟨w.heap.size, 1, none⟩) (by simp)).trans (by simp)
    have f2 : W1.cell? ⟨w.heap.size, 2, none⟩ = some (.int .i64 B) := (hb.cell (p := ⟨w.heap.size, 2, none⟩) (by simp)).trans (by simp)
    have f3 : W1.cell? ⟨w.heap.size, 3, none⟩ = some (.string tx) := (hb.cell (p := ⟨w.heap.size, 3, none⟩) (by simp)).trans (by simp)
    have f4 : W1.cell? ⟨w.heap.size, 4, none⟩ = some (.slice a0 da.length p0) := (hb.cell (p := ⟨w.heap.size, 4, none⟩) (by simp)).trans (by simp)
    have f5 : W1.cell? ⟨w.heap.size, 5, none⟩ = some (.slice a1 cu.length p1) := (hb.cell (p := ⟨w.heap.size, 5, none⟩) (by simp)).trans (by simp)
    clear hb
    go_wp2_with fail
    refine (impl_NumText _ _ (HT.out.mono HB1.out)).mono ?_
    rintro e W2 ⟨_, rfl, rfl, hb⟩
    have HB2 := Lib.hid (bel_next HB1.out hb)
    have hz2 := hb.size
    have hlt2 : w.heap.size < W2.heap.size := by omega
    have g5 : W2.cell? ⟨w.heap.size, 5, none⟩ = some (.slice a1 cu.length p1) := (hb.cell (p := ⟨w.heap.size, 5, none⟩) hlt).trans f5
    clear hb f0 f1 f2 f3 f4 f5
    have HL := Lib.hid (show FreshS W2.heap.size (W2.alloc (.cells #[.string ⟨#[99, 114, 97, 115, 104]⟩, .string (numText A)] 9)) (.slice (some ⟨W2.heap.size, 0, none⟩) 2 2) [⟨#[99, 114, 97, 115, 104]⟩, numText A] from strs_lit [_, _] _ rfl (by simp) (fun n hn => by simp at hn; rcases hn with hn | hn; (rw [hn]; decide); (rw [hn]; omega)))
    go_wp2_with fail
    go_loopw [3, 20] (fun o xs wr => ∃ (k : Nat), k ≤ cu.length ∧ xs = .int .i64 (k : Int) ∧ Hid (FreshS W2.heap.size wr o (⟨#[99, 114, 97, 115, 104]⟩ :: numText A :: (cu.take k).map numText)) ∧ Hid (Below W2.heap.size W2 wr)) (fun _ xs _ => cu.length - (intOf xs).toNat)
    case atStart => exact ⟨0, by omega, rfl, by show FreshS _ _ _ _; simpa using HL.out, bel_alloc (Below.refl _ _) _⟩
    case round =>
    obtain ⟨k, hk, rfl, HF, HB⟩ := hrel
    have HBw := Lib.hid (HB2.out.trans (HB.out.mono (by omega)))
    clear HL
    by_cases hlk : k < cu.length
    · have d1 : decide ((k : Int) < (cu.length : Int)) = true := decide_eq_true (by omega)
      have d2 : decide (k < cu.length) = true := decide_eq_true hlk
      have hne : cu ≠ [] := by intro e; rw [e] at hlk; simp at hlk
      obtain ⟨b, off, rfl, hc⟩ := HC.out hne
      obtain ⟨x, hx⟩ : ∃ x, cu[k]? = some x := ⟨cu[k], by simp [hlk]⟩
      have c1 := (hc k x hx).1
      rw [← HBw.out.cell (p := ⟨b, off + k, none⟩) (World.block_lt_of_cell? w _ c1)] at c1
      have k0 : (0 : Int) ≤ (k : Int) := by omega
      have k1 : (k : Int) < (cu.length : Int) := by omega
      have HTK := Lib.hid (show ⟨#[99, 114, 97, 115, 104]⟩ :: numText A :: (cu.take (k + 1)).map numText = (⟨#[99, 114, 97, 115, 104]⟩ :: numText A :: (cu.take k).map numText) ++ [numText x] from by rw [List.take_add_one, hx]; simp)
      have hzx := numText_size x
      have hlen : ((⟨#[99, 114, 97, 115, 104]⟩ :: numText A :: (cu.take k).map numText) : List ByteArray).length ≤ 1048580 := by simp; omega
      clear hc hne hx
      go_wp2_with (first
        | (go_at_call 46; refine (impl_NumText _ _ (HT.out.mono HBw.out)).mono ?_; rintro e W4 ⟨_, rfl, rfl, hb⟩; have HB4 := Lib.hid (bel_next HB.out hb); have HF4 := Lib.hid (HF.out.grow hb); have hz4 := HB4.out.size; have HLn := Lib.hid (show FreshS W4.heap.size (W4.alloc (.cells #[.string (numText x)] 9)) (.slice (some ⟨W4.heap.size, 0, none⟩) 1 1) [numText x] from strs_lit [_] _ rfl (by simp) (fun n hn => by simp at hn; rw [hn]; omega)); clear hb)
        | (at_builtin; refine wpList_append_flat (α := ByteArray) rfl _ _ 37 rfl 9 (.string ByteArray.empty) 16 Tryd.underlying37 info_str rfl rfl (by decide) W2.heap.size (by simp; omega) _ _ rfl (HF4.out.grow (bel_alloc (Below.refl _ _) _)) _ [numText x] rfl HLn.out.repS (by simp at hlen ⊢; omega) (by simp at hlen ⊢; omega) ?_; intro v9 W9 hF9 hb9; have HF9 := Lib.hid hF9; have HB9 := Lib.hid ((bel_alloc HB4.out (.cells #[.string (numText x)] 9)).trans hb9); clear hF9 hb9))
      go_roundw
      case rel => exact ⟨k + 1, by omega, by go_num, by show FreshS _ _ _ _; rw [HTK.out]; exact HF9.out, HB9.out⟩
      case measure => simp [intOf]; omega
    · have d1 : decide ((k : Int) < (cu.length : Int)) = false := decide_eq_false (by omega)
      have d2 : decide (k < cu.length) = false := decide_eq_false hlk
      obtain rfl : k = cu.length := by omega
      rw [List.take_length] at HF
      go_wp2_with (go_at_call 47; refine (strings_join _ _ _ ⟨#[32]⟩ HF.out.repS (by simp; omega) HJS.out).mono ?_; rintro e W5 ⟨_, rfl, rfl, hb⟩; have HB5 := Lib.hid (bel_next HBw.out hb); clear hb)
      go_ret
      exact ⟨_, rfl, by show _ = Value.string _; rw [HN.out] <;> rfl, HB5.out⟩
  by_cases hk5 : kd = 5
  · subst hk5
    clear hk1 hk2 hk3 hk4
    by_cases hB : B = -1
    · subst hB
      have hz := numText_size A
      have HN := Lib.hid (show stepText ⟨5, A, -1, tx, da, cu⟩ = (((⟨#[112, 111, 119, 101, 114, 32]⟩ : ByteArray) ++ numText A) ++ ⟨#[32, 110, 111, 110, 101]⟩) from by unfold stepText; rw [if_pos HZ.out]; simp)
      go_enter Tryd.func22, Tryd.ntmps22
      go_wp2_with fail
      refine (impl_isStep _ [_, _, _, _, _, _] ⟨5, A, -1, tx, da, cu⟩ (Rep.mono HR.out (by repeat (first | (with_reducible exact Below.refl _ _) | (with_reducible assumption) | (with_reducible refine bel_alloc ?_ _) | ((with_reducible refine bel_set ?_ ?_ _); rotate_left; (focus first | (simp; done) | (simp; omega))))))).mono ?_
      rintro e W1 ⟨_, rfl, rfl, hb⟩
      rw [HZ.out]
      have HB1 := Lib.hid (bel_next (show Below w.heap.size w _ from (by repeat (first | (with_reducible exact Below.refl _ _) | (with_reducible assumption) | (with_reducible refine bel_alloc ?_ _) | ((with_reducible refine bel_set ?_ ?_ _); rotate_left; (focus first | (simp; done) | (simp; omega)))))) hb)
      have hz1 := hb.size
      simp only [World.size_alloc] at hz1
      have hlt : w.heap.size < W1.heap.size := by omega
      have f0 : W1.cell? ⟨w.heap.size, 0, none⟩ = some (.int .i64 5) := (hb.cell (p := ⟨w.heap.size, 0, none⟩) (by simp)).trans (by simp)
      have f1 : W1.cell? ⟨w.heap.size, 1, none⟩ = some (.int .i64 A) := (hb.cell (p := ⟨w.heap.size, 1, none⟩) (by simp)).trans (by simp)
      have f2 : W1.cell? ⟨w.heap.size, 2, none⟩ = some (.int .i64 (-1)) := (hb.cell (p := ⟨w.heap.size, 2, none⟩) (by simp)).trans (by simp)
      have f3 : W1.cell? ⟨w.heap.size, 3, none⟩ = some (.string tx) := (hb.cell (p := ⟨w.heap.size, 3, none⟩) (by simp)).trans (by simp)
      have f4 : W1.cell? ⟨w.heap.size, 4, none⟩ = some (.slice a0 da.length p0) := (hb.cell (p := ⟨w.heap.size, 4, none⟩) (by simp)).trans (by simp)
      have f5 : W1.cell? ⟨w.heap.size, 5, none⟩ = some (.slice a1 cu.length p1) := (hb.cell (p := ⟨w.heap.size, 5, none⟩) (by simp)).trans (by simp)
      clear hb
      go_wp2_with (go_at_call 46; refine (impl_NumText _ _ (HT.out.mono HB1.out)).mono ?_; rintro e W2 ⟨_, rfl, rfl, hb⟩; have HB2 := Lib.hid (bel_next HB1.out hb); clear hb)
      go_ret
      exact ⟨_, rfl, by show _ = Value.string _; rw [HN.out] <;> rfl, HB2.out⟩
    · have dB : decide (B = -1) = false := decide_eq_false hB
      have eB : (B == -1) = false := by simpa using hB
      have hz := numText_size A
      have hy := numText_size B
      have HN := Lib.hid (show stepText ⟨5, A, B, tx, da, cu⟩ = (((⟨#[112, 111, 119, 101, 114, 32]⟩ : ByteArray) ++ numText A) ++ ⟨#[32]⟩) ++ numText B from by unfold stepText; rw [if_pos HZ.out]; simp [hB, numsT, lit_append])
      have g1 : (9223372036854775807 < 6 + (numText A).size) = False := eq_false (by omega)
      have g2 : (9223372036854775807 < 6 + (numText A).size + 1) = False := eq_false (by omega)
      have g3 : (9223372036854775807 < 6 + (numText A).size + 1 + (numText B).size) = False := eq_false (by omega)
      clear hz hy
      clear hB
      go_enter Tryd.func22, Tryd.ntmps22
      go_wp2_with fail
      refine (impl_isStep _ [_, _, _, _, _, _] ⟨5, A, B, tx, da, cu⟩ (Rep.mono HR.out (by repeat (first | (with_reducible exact Below.refl _ _) | (with_reducible assumption) | (with_reducible refine bel_alloc ?_ _) | ((with_reducible refine bel_set ?_ ?_ _); rotate_left; (focus first | (simp; done) | (simp; omega))))))).mono ?_
      rintro e W1 ⟨_, rfl, rfl, hb⟩
      rw [HZ.out]
      have HB1 := Lib.hid (bel_next (show Below w.heap.size w _ from (by repeat (first | (with_reducible exact Below.refl _ _) | (with_reducible assumption) | (with_reducible refine bel_alloc ?_ _) | ((with_reducible refine bel_set ?_ ?_ _); rotate_left; (focus first | (simp; done) | (simp; omega)))))) hb)
      have hz1 := hb.size
      simp only [World.size_alloc] at hz1
      have hlt : w.heap.size < W1.heap.size := by omega
      have f0 : W1.cell? ⟨w.heap.size, 0, none⟩ = some (.int .i64 5) := (hb.cell (p := ⟨w.heap.size, 0, none⟩) (by simp)).trans (by simp)
      have f1 : W1.cell? ⟨w.heap.size, 1, none⟩ = some (.int .i64 A) := (hb.cell (p := ⟨w.heap.size, 1, none⟩) (by simp)).trans (by simp)
      have f2 : W1.cell? ⟨w.heap.size, 2, none⟩ = some (.int .i64 B) := (hb.cell (p := ⟨w.heap.size, 2, none⟩) (by simp)).trans (by simp)
      have f3 : W1.cell? ⟨w.heap.size, 3, none⟩ = some (.string tx) := (hb.cell (p := ⟨w.heap.size, 3, none⟩) (by simp)).trans (by simp)
      have f4 : W1.cell? ⟨w.heap.size, 4, none⟩ = some (.slice a0 da.length p0) := (hb.cell (p := ⟨w.heap.size, 4, none⟩) (by simp)).trans (by simp)
      have f5 : W1.cell? ⟨w.heap.size, 5, none⟩ = some (.slice a1 cu.length p1) := (hb.cell (p := ⟨w.heap.size, 5, none⟩) (by simp)).trans (by simp)
      clear hb
      have e1 := ext_cell (W := W1) f1
      have e2 := ext_cell (W := W1) f2
      go_wp2_with fail
      refine wp_region_ext (by kernel_rfl) (by kernel_rfl) ?_
      repeat (go_big_quiet_step (first | (go_at_call 46; exact ext_gives (impl_NumText _ _ (HT.out.mono (bel_next HB1.out (Ext.bel _))))) | (go_at_call 48; exact ext_gives (impl_hexOf _ _ da (HD.out.mono (bel_next HB1.out (Ext.bel _))) (by omega)))))
      refine wpQuiet_nil ?_
      intro _ hw'
      obtain ⟨eW, rfl⟩ := hw'
      go_wp2_with fail
      go_ret
      exact ⟨_, rfl, by show _ = Value.string _; rw [HN.out] <;> rfl, bel_next HB1.out eW.bel⟩
  by_cases hk6 : kd = 6
  · subst hk6
    clear hk1 hk2 hk3 hk4 hk5
    have HN := Lib.hid (show stepText ⟨6, A, B, tx, da, cu⟩ = (⟨#[108, 105, 110, 101, 32]⟩ : ByteArray) ++ tx from by unfold stepText; rw [if_pos HZ.out]; simp)
    go_enter Tryd.func22, Tryd.ntmps22
    go_wp2_with fail
    refine (impl_isStep _ [_, _, _, _, _, _] ⟨6, A, B, tx, da, cu⟩ (Rep.mono HR.out (by repeat (first | (with_reducible exact Below.refl _ _) | (with_reducible assumption) | (with_reducible refine bel_alloc ?_ _) | ((with_reducible refine bel_set ?_ ?_ _); rotate_left; (focus first | (simp; done) | (simp; omega))))))).mono ?_
    rintro e W1 ⟨_, rfl, rfl, hb⟩
    rw [HZ.out]
    have HB1 := Lib.hid (bel_next (show Below w.heap.size w _ from (by repeat (first | (with_reducible exact Below.refl _ _) | (with_reducible assumption) | (with_reducible refine bel_alloc ?_ _) | ((with_reducible refine bel_set ?_ ?_ _); rotate_left; (focus first | (simp; done) | (simp; omega)))))) hb)
    have hz1 := hb.size
    simp only [World.size_alloc] at hz1
    have hlt : w.heap.size < W1.heap.size := by omega
    have f0 : W1.cell? ⟨w.heap.size, 0, none⟩ = some (.int .i64 6) := (hb.cell (p := ⟨w.heap.size, 0, none⟩) (by simp)).trans (by simp)
    have f1 : W1.cell? ⟨w.heap.size, 1, none⟩ = some (.int .i64 A) := (hb.cell (p := ⟨w.heap.size, 1, none⟩) (by simp)).trans (by simp)
    have f2 : W1.cell? ⟨w.heap.size, 2, none⟩ = some (.int .i64 B) := (hb.cell (p := ⟨w.heap.size, 2, none⟩) (by simp)).trans (by simp)
    have f3 : W1.cell? ⟨w.heap.size, 3, none⟩ = some (.string tx) := (hb.cell (p := ⟨w.heap.size, 3, none⟩) (by simp)).trans (by simp)
    have f4 : W1.cell? ⟨w.heap.size, 4, none⟩ = some (.slice a0 da.length p0) := (hb.cell (p := ⟨w.heap.size, 4, none⟩) (by simp)).trans (by simp)
    have f5 : W1.cell? ⟨w.heap.size, 5, none⟩ = some (.slice a1 cu.length p1) := (hb.cell (p := ⟨w.heap.size, 5, none⟩) (by simp)).trans (by simp)
    clear hb
    go_wp2_with fail
    go_ret
    exact ⟨_, rfl, by show _ = Value.string _; rw [HN.out] <;> rfl, HB1.out⟩
  by_cases hk7 : kd = 7
  · subst hk7
    clear hk1 hk2 hk3 hk4 hk5 hk6
    have hz := numText_size A
    have hz2 := hexL_length da
    have hz3 : (hexT da).size = 2 * da.length := hz2
    have HN := Lib.hid (show stepText ⟨7, A, B, tx, da, cu⟩ = (((⟨#[111, 117, 116, 32]⟩ : ByteArray) ++ numText A) ++ ⟨#[32]⟩) ++ hexT da from by unfold stepText; rw [if_pos HZ.out]; simp)
    have g1 : (9223372036854775807 < 4 + (numText A).size) = False := eq_false (by omega)
    have g2 : (9223372036854775807 < 4 + (numText A).size + 1) = False := eq_false (by omega)
    have g3 : (9223372036854775807 < 4 + (numText A).size + 1 + (hexT da).size) = False := eq_false (by omega)
    clear hz hz2 hz3
    go_enter Tryd.func22, Tryd.ntmps22
    go_wp2_with fail
    refine (impl_isStep _ [_, _, _, _, _, _] ⟨7, A, B, tx, da, cu⟩ (Rep.mono HR.out (by repeat (first | (with_reducible exact Below.refl _ _) | (with_reducible assumption) | (with_reducible refine bel_alloc ?_ _) | ((with_reducible refine bel_set ?_ ?_ _); rotate_left; (focus first | (simp; done) | (simp; omega))))))).mono ?_
    rintro e W1 ⟨_, rfl, rfl, hb⟩
    rw [HZ.out]
    have HB1 := Lib.hid (bel_next (show Below w.heap.size w _ from (by repeat (first | (with_reducible exact Below.refl _ _) | (with_reducible assumption) | (with_reducible refine bel_alloc ?_ _) | ((with_reducible refine bel_set ?_ ?_ _); rotate_left; (focus first | (simp; done) | (simp; omega)))))) hb)
    have hz1 := hb.size
    simp only [World.size_alloc] at hz1
    have hlt : w.heap.size < W1.heap.size := by omega
    have f0 : W1.cell? ⟨w.heap.size, 0, none⟩ = some (.int .i64 7) := (hb.cell (p := ⟨w.heap.size, 0, none⟩) (by simp)).trans (by simp)
    have f1 : W1.cell? ⟨w.heap.size, 1, none⟩ = some (.int .i64 A) := (hb.cell (p := ⟨w.heap.size, 1, none⟩) (by simp)).trans (by simp)
    have f2 : W1.cell? ⟨w.heap.size, 2, none⟩ = some (.int .i64 B) := (hb.cell (p := ⟨w.heap.size, 2, none⟩) (by simp)).trans (by simp)
    have f3 : W1.cell? ⟨w.heap.size, 3, none⟩ = some (.string tx) := (hb.cell (p := ⟨w.heap.size, 3, none⟩) (by simp)).trans (by simp)
    have f4 : W1.cell? ⟨w.heap.size, 4, none⟩ = some (.slice a0 da.length p0) := (hb.cell (p := ⟨w.heap.size, 4, none⟩) (by simp)).trans (by simp)
    have f5 : W1.cell? ⟨w.heap.size, 5, none⟩ = some (.slice a1 cu.length p1) := (hb.cell (p := ⟨w.heap.size, 5, none⟩) (by simp)).trans (by simp)
    clear hb
    have e1 := ext_cell (W := W1) f1
    have e4 := ext_cell (W := W1) f4
    go_wp2_with fail
    refine wp_region_ext (by kernel_rfl) (by kernel_rfl) ?_
    repeat (go_big_quiet_step (first | (go_at_call 46; exact ext_gives (impl_NumText _ _ (HT.out.mono (bel_next HB1.out (Ext.bel _))))) | (go_at_call 48; exact ext_gives (impl_hexOf _ _ da (HD.out.mono (bel_next HB1.out (Ext.bel _))) (by omega)))))
    refine wpQuiet_nil ?_
    intro _ hw'
    obtain ⟨eW, rfl⟩ := hw'
    go_wp2_with fail
    go_ret
    exact ⟨_, rfl, by show _ = Value.string _; rw [HN.out] <;> rfl, bel_next HB1.out eW.bel⟩
  by_cases hk8 : kd = 8
  · subst hk8
    clear hk1 hk2 hk3 hk4 hk5 hk6 hk7
    have hz := numText_size A
    have hy := numText_size B
    have HN := Lib.hid (show stepText ⟨8, A, B, tx, da, cu⟩ = (((⟨#[101, 110, 100, 32]⟩ : ByteArray) ++ numText A) ++ ⟨#[32]⟩) ++ numText B from by unfold stepText; rw [if_pos HZ.out]; simp [numsT, lit_append])
    have g1 : (9223372036854775807 < 4 + (numText A).size) = False := eq_false (by omega)
    have g2 : (9223372036854775807 < 4 + (numText A).size + 1) = False := eq_false (by omega)
    have g3 : (9223372036854775807 < 4 + (numText A).size + 1 + (numText B).size) = False := eq_false (by omega)
    clear hz hy
    go_enter Tryd.func22, Tryd.ntmps22
    go_wp2_with fail
    refine (impl_isStep _ [_, _, _, _, _, _] ⟨8, A, B, tx, da, cu⟩ (Rep.mono HR.out (by repeat (first | (with_reducible exact Below.refl _ _) | (with_reducible assumption) | (with_reducible refine bel_alloc ?_ _) | ((with_reducible refine bel_set ?_ ?_ _); rotate_left; (focus first | (simp; done) | (simp; omega))))))).mono ?_
    rintro e W1 ⟨_, rfl, rfl, hb⟩
    rw [HZ.out]
    have HB1 := Lib.hid (bel_next (show Below w.heap.size w _ from (by repeat (first | (with_reducible exact Below.refl _ _) | (with_reducible assumption) | (with_reducible refine bel_alloc ?_ _) | ((with_reducible refine bel_set ?_ ?_ _); rotate_left; (focus first | (simp; done) | (simp; omega)))))) hb)
    have hz1 := hb.size
    simp only [World.size_alloc] at hz1
    have hlt : w.heap.size < W1.heap.size := by omega
    have f0 : W1.cell? ⟨w.heap.size, 0, none⟩ = some (.int .i64 8) := (hb.cell (p := ⟨w.heap.size, 0, none⟩) (by simp)).trans (by simp)
    have f1 : W1.cell? ⟨w.heap.size, 1, none⟩ = some (.int .i64 A) := (hb.cell (p := ⟨w.heap.size, 1, none⟩) (by simp)).trans (by simp)
    have f2 : W1.cell? ⟨w.heap.size, 2, none⟩ = some (.int .i64 B) := (hb.cell (p := ⟨w.heap.size, 2, none⟩) (by simp)).trans (by simp)
    have f3 : W1.cell? ⟨w.heap.size, 3, none⟩ = some (.string tx) := (hb.cell (p := ⟨w.heap.size, 3, none⟩) (by simp)).trans (by simp)
    have f4 : W1.cell? ⟨w.heap.size, 4, none⟩ = some (.slice a0 da.length p0) := (hb.cell (p := ⟨w.heap.size, 4, none⟩) (by simp)).trans (by simp)
    have f5 : W1.cell? ⟨w.heap.size, 5, none⟩ = some (.slice a1 cu.length p1) := (hb.cell (p := ⟨w.heap.size, 5, none⟩) (by simp)).trans (by simp)
    clear hb
    have e1 := ext_cell (W := W1) f1
    have e2 := ext_cell (W := W1) f2
    go_wp2_with fail
    refine wp_region_ext (by kernel_rfl) (by kernel_rfl) ?_
    repeat (go_big_quiet_step (first | (go_at_call 46; exact ext_gives (impl_NumText _ _ (HT.out.mono (bel_next HB1.out (Ext.bel _))))) | (go_at_call 48; exact ext_gives (impl_hexOf _ _ da (HD.out.mono (bel_next HB1.out (Ext.bel _))) (by omega)))))
    refine wpQuiet_nil ?_
    intro _ hw'
    obtain ⟨eW, rfl⟩ := hw'
    go_wp2_with fail
    go_ret
    exact ⟨_, rfl, by show _ = Value.string _; rw [HN.out] <;> rfl, bel_next HB1.out eW.bel⟩
  have h := HZ.out
  unfold stepOk at h
  simp [hk1, hk2, hk3, hk4, hk5, hk6, hk7, hk8] at h
end Go.Proofs.YtjglknaojfnllaaDoor
