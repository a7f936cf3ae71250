/- The walk of the reference's Repaint. -/
import Derived.Test.YtlkadeaomjoiiaaDoorFnRepBase
import Derived.Test.YtlkadeaomjoiiaaDoorFnEndsLaws
set_option linter.unusedSimpArgs false
set_option linter.unusedVariables false
namespace Go.Proofs.YtlkadeaomjoiiaaDoor
open Go.RowKit Go.Mux
set_option maxRecDepth 100000 in
set_option maxHeartbeats 8000000 in
theorem spec_Repaint' (w : World) (cs : List Value) (x : DView) (ds : List Value) (y : DView) (h : Rep.rep w cs x) (h2 : Rep.rep w ds y) : Calls Tryd.prog 16 #[.agg cs.toArray, .agg ds.toArray] w (Gives w fun r w' => ∃ r0 r1, r = .tuple #[r0, r1] ∧ FreshS w.heap.size w' r0 (repaint x y).1 ∧ r1 = .bool (repaint x y).2) := by
  have HP := Lib.hid h
  have HQ := Lib.hid h2
  obtain ⟨a0, n0, c0, rfl⟩ := DView.shape h
  obtain ⟨a1, n1, c1, rfl⟩ := DView.shape h2
  clear h h2
  cases hv : viewOk x
  · have HV := Lib.hid hv
    have HN := Lib.hid (show repaint x y = ([], false) by unfold repaint repOk; simp [hv])
    clear hv
    go_enter Tryd.func16, Tryd.ntmps16
    go_wp2_with (go_at_call 29; refine (spec_ViewOk _ [_, _, _, _, _, _] x (Rep.mono HP.out (by repeat (first | (with_reducible exact Below.refl _ _) | (with_reducible assumption) | (with_reducible refine bel_alloc ?_ _) | ((with_reducible refine bel_set ?_ ?_ _); rotate_left; (focus first | (simp; done) | (simp; omega))))))).mono ?_; rintro e W1 ⟨_, rfl, rfl, hb⟩; rw [HV.out]; have HB1 := Lib.hid (bel_next (show Below w.heap.size w _ from (by repeat (first | (with_reducible exact Below.refl _ _) | (with_reducible assumption) | (with_reducible refine bel_alloc ?_ _) | ((with_reducible refine bel_set ?_ ?_ _); rotate_left; (focus first | (simp; done) | (simp; omega)))))) hb); clear hb)
    refine bodyPost_ret (v := .tuple #[.slice none 0 0, .bool false]) (by simp [results, Tryd.results16, go_sem]) rfl ?_
    first | exact ⟨_, rfl, ⟨_, _, rfl, freshS_nil _ _ (by rw [HN.out]), by rw [HN.out]⟩, HB1.out⟩ | exact ⟨_, rfl, ⟨_, by rw [HN.out], freshS_nil _ _ (by rw [HN.out])⟩, HB1.out⟩
  have HV := Lib.hid hv
  cases hv2 : viewOk y
  · have HV2 := Lib.hid hv2
    have HN := Lib.hid (show repaint x y = ([], false) by unfold repaint repOk; simp [hv2])
    clear hv hv2
    go_enter Tryd.func16, Tryd.ntmps16
    go_wp2_with fail
    refine (spec_ViewOk _ [_, _, _, _, _, _] x (Rep.mono HP.out (by repeat (first | (with_reducible exact Below.refl _ _) | (with_reducible assumption) | (with_reducible refine bel_alloc ?_ _) | ((with_reducible refine bel_set ?_ ?_ _); rotate_left; (focus first | (simp; done) | (simp; omega))))))).mono ?_
    rintro e W1 ⟨_, rfl, rfl, hb⟩
    rw [HV.out]
    obtain ⟨wa, hwa⟩ : ∃ wa, wa = w.alloc (.cells #[.int .i64 x.Grid.W, .int .i64 x.Grid.H, .slice a0 n0 c0, .int .i64 x.X, .int .i64 x.Y, .bool x.Hide] 34) := ⟨_, rfl⟩
    have hza : wa.heap.size = w.heap.size + 1 := by rw [hwa]; simp
    rw [← hwa] at hb
    obtain ⟨wb, hwb⟩ : ∃ wb, wb = wa.alloc (.cells #[.int .i64 y.Grid.W, .int .i64 y.Grid.H, .slice a1 n1 c1, .int .i64 y.X, .int .i64 y.Y, .bool y.Hide] 34) := ⟨_, rfl⟩
    rw [← hwb] at hb
    have hwz : w.heap.size + 1 < wb.heap.size := by rw [hwb]; simp; omega
    have hwz0 : w.heap.size ≤ wb.heap.size := by omega
    have HWB := Lib.hid (show Below w.heap.size w wb from by rw [hwb, hwa]; exact bel_alloc (bel_alloc (Below.refl _ _) _) _)
    have u0 : wb.cell? ⟨w.heap.size, 0, none⟩ = some (.int .i64 x.Grid.W) := by rw [hwb]; exact (World.cell?_alloc_lt wa _ ⟨w.heap.size, 0, none⟩ (by show w.heap.size < _; omega)).trans (by rw [hwa]; simp)
    have u1 : wb.cell? ⟨w.heap.size, 1, none⟩ = some (.int .i64 x.Grid.H) := by rw [hwb]; exact (World.cell?_alloc_lt wa _ ⟨w.heap.size, 1, none⟩ (by show w.heap.size < _; omega)).trans (by rw [hwa]; simp)
    have u2 : wb.cell? ⟨w.heap.size, 2, none⟩ = some (.slice a0 n0 c0) := by rw [hwb]; exact (World.cell?_alloc_lt wa _ ⟨w.heap.size, 2, none⟩ (by show w.heap.size < _; omega)).trans (by rw [hwa]; simp)
    have u3 : wb.cell? ⟨w.heap.size, 3, none⟩ = some (.int .i64 x.X) := by rw [hwb]; exact (World.cell?_alloc_lt wa _ ⟨w.heap.size, 3, none⟩ (by show w.heap.size < _; omega)).trans (by rw [hwa]; simp)
    have u4 : wb.cell? ⟨w.heap.size, 4, none⟩ = some (.int .i64 x.Y) := by rw [hwb]; exact (World.cell?_alloc_lt wa _ ⟨w.heap.size, 4, none⟩ (by show w.heap.size < _; omega)).trans (by rw [hwa]; simp)
    have u5 : wb.cell? ⟨w.heap.size, 5, none⟩ = some (.bool x.Hide) := by rw [hwb]; exact (World.cell?_alloc_lt wa _ ⟨w.heap.size, 5, none⟩ (by show w.heap.size < _; omega)).trans (by rw [hwa]; simp)
    have v0 : wb.cell? ⟨w.heap.size + 1, 0, none⟩ = some (.int .i64 y.Grid.W) := by rw [← hza, hwb]; simp
    have v1 : wb.cell? ⟨w.heap.size + 1, 1, none⟩ = some (.int .i64 y.Grid.H) := by rw [← hza, hwb]; simp
    have v2 : wb.cell? ⟨w.heap.size + 1, 2, none⟩ = some (.slice a1 n1 c1) := by rw [← hza, hwb]; simp
    have v3 : wb.cell? ⟨w.heap.size + 1, 3, none⟩ = some (.int .i64 y.X) := by rw [← hza, hwb]; simp
    have v4 : wb.cell? ⟨w.heap.size + 1, 4, none⟩ = some (.int .i64 y.Y) := by rw [← hza, hwb]; simp
    have v5 : wb.cell? ⟨w.heap.size + 1, 5, none⟩ = some (.bool y.Hide) := by rw [← hza, hwb]; simp
    clear hwb hwa hza
    have HB1 := Lib.hid hb
    have kb0 : W1.cell? ⟨w.heap.size + 1, 0, none⟩ = some (.int .i64 y.Grid.W) := (hb.cell (p := ⟨w.heap.size + 1, 0, none⟩) (by show w.heap.size + 1 < _; omega)).trans v0
    have kb1 : W1.cell? ⟨w.heap.size + 1, 1, none⟩ = some (.int .i64 y.Grid.H) := (hb.cell (p := ⟨w.heap.size + 1, 1, none⟩) (by show w.heap.size + 1 < _; omega)).trans v1
    have kb2 : W1.cell? ⟨w.heap.size + 1, 2, none⟩ = some (.slice a1 n1 c1) := (hb.cell (p := ⟨w.heap.size + 1, 2, none⟩) (by show w.heap.size + 1 < _; omega)).trans v2
    have kb3 : W1.cell? ⟨w.heap.size + 1, 3, none⟩ = some (.int .i64 y.X) := (hb.cell (p := ⟨w.heap.size + 1, 3, none⟩) (by show w.heap.size + 1 < _; omega)).trans v3
    have kb4 : W1.cell? ⟨w.heap.size + 1, 4, none⟩ = some (.int .i64 y.Y) := (hb.cell (p := ⟨w.heap.size + 1, 4, none⟩) (by show w.heap.size + 1 < _; omega)).trans v4
    have kb5 : W1.cell? ⟨w.heap.size + 1, 5, none⟩ = some (.bool y.Hide) := (hb.cell (p := ⟨w.heap.size + 1, 5, none⟩) (by show w.heap.size + 1 < _; omega)).trans v5
    clear hb
    go_wp2_with fail
    refine (spec_ViewOk _ [_, _, _, _, _, _] y (Rep.mono HQ.out (HWB.out.trans (HB1.out.mono hwz0)))).mono ?_
    rintro e W2 ⟨_, rfl, rfl, hb⟩
    rw [HV2.out]
    have HB2 := Lib.hid (bel_next HB1.out hb)
    have hz2 := HB2.out.size
    have hlt0 : w.heap.size < W2.heap.size := by omega
    have hlt1 : w.heap.size + 1 < W2.heap.size := by omega
    clear hb kb0 kb1 kb2 kb3 kb4 kb5
    go_wp2_with fail
    refine bodyPost_ret (v := .tuple #[.slice none 0 0, .bool false]) (by simp [results, Tryd.results16, go_sem]) rfl ?_
    first | exact ⟨_, rfl, ⟨_, _, rfl, freshS_nil _ _ (by rw [HN.out]), by rw [HN.out]⟩, HWB.out.trans (HB2.out.mono hwz0)⟩ | exact ⟨_, rfl, ⟨_, by rw [HN.out], freshS_nil _ _ (by rw [HN.out])⟩, HWB.out.trans (HB2.out.mono hwz0)⟩
  have HV2 := Lib.hid hv2
  by_cases hW : x.Grid.W = y.Grid.W
  rotate_left
  · have HN := Lib.hid (show repaint x y = ([], false) by unfold repaint repOk; simp [hW])
    have d1 : decide (x.Grid.W = y.Grid.W) = false := decide_eq_false hW
    have d2 : (x.Grid.W == y.Grid.W) = false := by simpa using hW
    have d3 : (x.Grid.W != y.Grid.W) = true := by simpa using hW
    clear hv hv2
    go_enter Tryd.func16, Tryd.ntmps16
    go_wp2_with fail
    refine (spec_ViewOk _ [_, _, _, _, _, _] x (Rep.mono HP.out (by repeat (first | (with_reducible exact Below.refl _ _) | (with_reducible assumption) | (with_reducible refine bel_alloc ?_ _) | ((with_reducible refine bel_set ?_ ?_ _); rotate_left; (focus first | (simp; done) | (simp; omega))))))).mono ?_
    rintro e W1 ⟨_, rfl, rfl, hb⟩
    rw [HV.out]
    obtain ⟨wa, hwa⟩ : ∃ wa, wa = w.alloc (.cells #[.int .i64 x.Grid.W, .int .i64 x.Grid.H, .slice a0 n0 c0, .int .i64 x.X, .int .i64 x.Y, .bool x.Hide] 34) := ⟨_, rfl⟩
    have hza : wa.heap.size = w.heap.size + 1 := by rw [hwa]; simp
    rw [← hwa] at hb
    obtain ⟨wb, hwb⟩ : ∃ wb, wb = wa.alloc (.cells #[.int .i64 y.Grid.W, .int .i64 y.Grid.H, .slice a1 n1 c1, .int .i64 y.X, .int .i64 y.Y, .bool y.Hide] 34) := ⟨_, rfl⟩
    rw [← hwb] at hb
    have hwz : w.heap.size + 1 < wb.heap.size := by rw [hwb]; simp; omega
    have hwz0 : w.heap.size ≤ wb.heap.size := by omega
    have HWB := Lib.hid (show Below w.heap.size w wb from by rw [hwb, hwa]; exact bel_alloc (bel_alloc (Below.refl _ _) _) _)
    have u0 : wb.cell? ⟨w.heap.size, 0, none⟩ = some (.int .i64 x.Grid.W) := by rw [hwb]; exact (World.cell?_alloc_lt wa _ ⟨w.heap.size, 0, none⟩ (by show w.heap.size < _; omega)).trans (by rw [hwa]; simp)
    have u1 : wb.cell? ⟨w.heap.size, 1, none⟩ = some (.int .i64 x.Grid.H) := by rw [hwb]; exact (World.cell?_alloc_lt wa _ ⟨w.heap.size, 1, none⟩ (by show w.heap.size < _; omega)).trans (by rw [hwa]; simp)
    have u2 : wb.cell? ⟨w.heap.size, 2, none⟩ = some (.slice a0 n0 c0) := by rw [hwb]; exact (World.cell?_alloc_lt wa _ ⟨w.heap.size, 2, none⟩ (by show w.heap.size < _; omega)).trans (by rw [hwa]; simp)
    have u3 : wb.cell? ⟨w.heap.size, 3, none⟩ = some (.int .i64 x.X) := by rw [hwb]; exact (World.cell?_alloc_lt wa _ ⟨w.heap.size, 3, none⟩ (by show w.heap.size < _; omega)).trans (by rw [hwa]; simp)
    have u4 : wb.cell? ⟨w.heap.size, 4, none⟩ = some (.int .i64 x.Y) := by rw [hwb]; exact (World.cell?_alloc_lt wa _ ⟨w.heap.size, 4, none⟩ (by show w.heap.size < _; omega)).trans (by rw [hwa]; simp)
    have u5 : wb.cell? ⟨w.heap.size, 5, none⟩ = some (.bool x.Hide) := by rw [hwb]; exact (World.cell?_alloc_lt wa _ ⟨w.heap.size, 5, none⟩ (by show w.heap.size < _; omega)).trans (by rw [hwa]; simp)
    have v0 : wb.cell? ⟨w.heap.size + 1, 0, none⟩ = some (.int .i64 y.Grid.W) := by rw [← hza, hwb]; simp
    have v1 : wb.cell? ⟨w.heap.size + 1, 1, none⟩ = some (.int .i64 y.Grid.H) := by rw [← hza, hwb]; simp
    have v2 : wb.cell? ⟨w.heap.size + 1, 2, none⟩ = some (.slice a1 n1 c1) := by rw [← hza, hwb]; simp
    have v3 : wb.cell? ⟨w.heap.size + 1, 3, none⟩ = some (.int .i64 y.X) := by rw [← hza, hwb]; simp
    have v4 : wb.cell? ⟨w.heap.size + 1, 4, none⟩ = some (.int .i64 y.Y) := by rw [← hza, hwb]; simp
    have v5 : wb.cell? ⟨w.heap.size + 1, 5, none⟩ = some (.bool y.Hide) := by rw [← hza, hwb]; simp
    clear hwb hwa hza
    have HB1 := Lib.hid hb
    have kb0 : W1.cell? ⟨w.heap.size + 1, 0, none⟩ = some (.int .i64 y.Grid.W) := (hb.cell (p := ⟨w.heap.size + 1, 0, none⟩) (by show w.heap.size + 1 < _; omega)).trans v0
    have kb1 : W1.cell? ⟨w.heap.size + 1, 1, none⟩ = some (.int .i64 y.Grid.H) := (hb.cell (p := ⟨w.heap.size + 1, 1, none⟩) (by show w.heap.size + 1 < _; omega)).trans v1
    have kb2 : W1.cell? ⟨w.heap.size + 1, 2, none⟩ = some (.slice a1 n1 c1) := (hb.cell (p := ⟨w.heap.size + 1, 2, none⟩) (by show w.heap.size + 1 < _; omega)).trans v2
    have kb3 : W1.cell? ⟨w.heap.size + 1, 3, none⟩ = some (.int .i64 y.X) := (hb.cell (p := ⟨w.heap.size + 1, 3, none⟩) (by show w.heap.size + 1 < _; omega)).trans v3
    have kb4 : W1.cell? ⟨w.heap.size + 1, 4, none⟩ = some (.int .i64 y.Y) := (hb.cell (p := ⟨w.heap.size + 1, 4, none⟩) (by show w.heap.size + 1 < _; omega)).trans v4
    have kb5 : W1.cell? ⟨w.heap.size + 1, 5, none⟩ = some (.bool y.Hide) := (hb.cell (p := ⟨w.heap.size + 1, 5, none⟩) (by show w.heap.size + 1 < _; omega)).trans v5
    clear hb
    go_wp2_with fail
    refine (spec_ViewOk _ [_, _, _, _, _, _] y (Rep.mono HQ.out (HWB.out.trans (HB1.out.mono hwz0)))).mono ?_
    rintro e W2 ⟨_, rfl, rfl, hb⟩
    rw [HV2.out]
    have HB2 := Lib.hid (bel_next HB1.out hb)
    have hz2 := HB2.out.size
    have hlt0 : w.heap.size < W2.heap.size := by omega
    have hlt1 : w.heap.size + 1 < W2.heap.size := by omega
    clear hb kb0 kb1 kb2 kb3 kb4 kb5
    have la0 : W2.cell? ⟨w.heap.size, 0, none⟩ = some (.int .i64 x.Grid.W) := (HB2.out.cell (p := ⟨w.heap.size, 0, none⟩) (by show w.heap.size < _; omega)).trans u0
    have la1 : W2.cell? ⟨w.heap.size, 1, none⟩ = some (.int .i64 x.Grid.H) := (HB2.out.cell (p := ⟨w.heap.size, 1, none⟩) (by show w.heap.size < _; omega)).trans u1
    have lb0 : W2.cell? ⟨w.heap.size + 1, 0, none⟩ = some (.int .i64 y.Grid.W) := (HB2.out.cell (p := ⟨w.heap.size + 1, 0, none⟩) (by show w.heap.size + 1 < _; omega)).trans v0
    have lb1 : W2.cell? ⟨w.heap.size + 1, 1, none⟩ = some (.int .i64 y.Grid.H) := (HB2.out.cell (p := ⟨w.heap.size + 1, 1, none⟩) (by show w.heap.size + 1 < _; omega)).trans v1
    go_wp2_with fail
    refine bodyPost_ret (v := .tuple #[.slice none 0 0, .bool false]) (by simp [results, Tryd.results16, go_sem]) rfl ?_
    first | exact ⟨_, rfl, ⟨_, _, rfl, freshS_nil _ _ (by rw [HN.out]), by rw [HN.out]⟩, HWB.out.trans (HB2.out.mono hwz0)⟩ | exact ⟨_, rfl, ⟨_, by rw [HN.out], freshS_nil _ _ (by rw [HN.out])⟩, HWB.out.trans (HB2.out.mono hwz0)⟩
  by_cases hH : x.Grid.H = y.Grid.H
  rotate_left
  · have HN := Lib.hid (show repaint x y = ([], false) by unfold repaint repOk; simp [hH])
    have d1 : decide (x.Grid.W = y.Grid.W) = true := decide_eq_true hW
    have d2 : (x.Grid.W == y.Grid.W) = true := by simpa using hW
    have d3 : (x.Grid.W != y.Grid.W) = false := by simpa using hW
    have e1 : decide (x.Grid.H = y.Grid.H) = false := decide_eq_false hH
    have e2 : (x.Grid.H == y.Grid.H) = false := by simpa using hH
    have e3 : (x.Grid.H != y.Grid.H) = true := by simpa using hH
    clear hv hv2 hW
    go_enter Tryd.func16, Tryd.ntmps16
    go_wp2_with fail
    refine (spec_ViewOk _ [_, _, _, _, _, _] x (Rep.mono HP.out (by repeat (first | (with_reducible exact Below.refl _ _) | (with_reducible assumption) | (with_reducible refine bel_alloc ?_ _) | ((with_reducible refine bel_set ?_ ?_ _); rotate_left; (focus first | (simp; done) | (simp; omega))))))).mono ?_
    rintro e W1 ⟨_, rfl, rfl, hb⟩
    rw [HV.out]
    obtain ⟨wa, hwa⟩ : ∃ wa, wa = w.alloc (.cells #[.int .i64 x.Grid.W, .int .i64 x.Grid.H, .slice a0 n0 c0, .int .i64 x.X, .int .i64 x.Y, .bool x.Hide] 34) := ⟨_, rfl⟩
    have hza : wa.heap.size = w.heap.size + 1 := by rw [hwa]; simp
    rw [← hwa] at hb
    obtain ⟨wb, hwb⟩ : ∃ wb, wb = wa.alloc (.cells #[.int .i64 y.Grid.W, .int .i64 y.Grid.H, .slice a1 n1 c1, .int .i64 y.X, .int .i64 y.Y, .bool y.Hide] 34) := ⟨_, rfl⟩
    rw [← hwb] at hb
    have hwz : w.heap.size + 1 < wb.heap.size := by rw [hwb]; simp; omega
    have hwz0 : w.heap.size ≤ wb.heap.size := by omega
    have HWB := Lib.hid (show Below w.heap.size w wb from by rw [hwb, hwa]; exact bel_alloc (bel_alloc (Below.refl _ _) _) _)
    have u0 : wb.cell? ⟨w.heap.size, 0, none⟩ = some (.int .i64 x.Grid.W) := by rw [hwb]; exact (World.cell?_alloc_lt wa _ ⟨w.heap.size, 0, none⟩ (by show w.heap.size < _; omega)).trans (by rw [hwa]; simp)
    have u1 : wb.cell? ⟨w.heap.size, 1, none⟩ = some (.int .i64 x.Grid.H) := by rw [hwb]; exact (World.cell?_alloc_lt wa _ ⟨w.heap.size, 1, none⟩ (by show w.heap.size < _; omega)).trans (by rw [hwa]; simp)
    have u2 : wb.cell? ⟨w.heap.size, 2, none⟩ = some (.slice a0 n0 c0) := by rw [hwb]; exact (World.cell?_alloc_lt wa _ ⟨w.heap.size, 2, none⟩ (by show w.heap.size < _; omega)).trans (by rw [hwa]; simp)
    have u3 : wb.cell? ⟨w.heap.size, 3, none⟩ = some (.int .i64 x.X) := by rw [hwb]; exact (World.cell?_alloc_lt wa _ ⟨w.heap.size, 3, none⟩ (by show w.heap.size < _; omega)).trans (by rw [hwa]; simp)
    have u4 : wb.cell? ⟨w.heap.size, 4, none⟩ = some (.int .i64 x.Y) := by rw [hwb]; exact (World.cell?_alloc_lt wa _ ⟨w.heap.size, 4, none⟩ (by show w.heap.size < _; omega)).trans (by rw [hwa]; simp)
    have u5 : wb.cell? ⟨w.heap.size, 5, none⟩ = some (.bool x.Hide) := by rw [hwb]; exact (World.cell?_alloc_lt wa _ ⟨w.heap.size, 5, none⟩ (by show w.heap.size < _; omega)).trans (by rw [hwa]; simp)
    have v0 : wb.cell? ⟨w.heap.size + 1, 0, none⟩ = some (.int .i64 y.Grid.W) := by rw [← hza, hwb]; simp
    have v1 : wb.cell? ⟨w.heap.size + 1, 1, none⟩ = some (.int .i64 y.Grid.H) := by rw [← hza, hwb]; simp
    have v2 : wb.cell? ⟨w.heap.size + 1, 2, none⟩ = some (.slice a1 n1 c1) := by rw [← hza, hwb]; simp
    have v3 : wb.cell? ⟨w.heap.size + 1, 3, none⟩ = some (.int .i64 y.X) := by rw [← hza, hwb]; simp
    have v4 : wb.cell? ⟨w.heap.size + 1, 4, none⟩ = some (.int .i64 y.Y) := by rw [← hza, hwb]; simp
    have v5 : wb.cell? ⟨w.heap.size + 1, 5, none⟩ = some (.bool y.Hide) := by rw [← hza, hwb]; simp
    clear hwb hwa hza
    have HB1 := Lib.hid hb
    have kb0 : W1.cell? ⟨w.heap.size + 1, 0, none⟩ = some (.int .i64 y.Grid.W) := (hb.cell (p := ⟨w.heap.size + 1, 0, none⟩) (by show w.heap.size + 1 < _; omega)).trans v0
    have kb1 : W1.cell? ⟨w.heap.size + 1, 1, none⟩ = some (.int .i64 y.Grid.H) := (hb.cell (p := ⟨w.heap.size + 1, 1, none⟩) (by show w.heap.size + 1 < _; omega)).trans v1
    have kb2 : W1.cell? ⟨w.heap.size + 1, 2, none⟩ = some (.slice a1 n1 c1) := (hb.cell (p := ⟨w.heap.size + 1, 2, none⟩) (by show w.heap.size + 1 < _; omega)).trans v2
    have kb3 : W1.cell? ⟨w.heap.size + 1, 3, none⟩ = some (.int .i64 y.X) := (hb.cell (p := ⟨w.heap.size + 1, 3, none⟩) (by show w.heap.size + 1 < _; omega)).trans v3
    have kb4 : W1.cell? ⟨w.heap.size + 1, 4, none⟩ = some (.int .i64 y.Y) := (hb.cell (p := ⟨w.heap.size + 1, 4, none⟩) (by show w.heap.size + 1 < _; omega)).trans v4
    have kb5 : W1.cell? ⟨w.heap.size + 1, 5, none⟩ = some (.bool y.Hide) := (hb.cell (p := ⟨w.heap.size + 1, 5, none⟩) (by show w.heap.size + 1 < _; omega)).trans v5
    clear hb
    go_wp2_with fail
    refine (spec_ViewOk _ [_, _, _, _, _, _] y (Rep.mono HQ.out (HWB.out.trans (HB1.out.mono hwz0)))).mono ?_
    rintro e W2 ⟨_, rfl, rfl, hb⟩
    rw [HV2.out]
    have HB2 := Lib.hid (bel_next HB1.out hb)
    have hz2 := HB2.out.size
    have hlt0 : w.heap.size < W2.heap.size := by omega
    have hlt1 : w.heap.size + 1 < W2.heap.size := by omega
    clear hb kb0 kb1 kb2 kb3 kb4 kb5
    have la0 : W2.cell? ⟨w.heap.size, 0, none⟩ = some (.int .i64 x.Grid.W) := (HB2.out.cell (p := ⟨w.heap.size, 0, none⟩) (by show w.heap.size < _; omega)).trans u0
    have la1 : W2.cell? ⟨w.heap.size, 1, none⟩ = some (.int .i64 x.Grid.H) := (HB2.out.cell (p := ⟨w.heap.size, 1, none⟩) (by show w.heap.size < _; omega)).trans u1
    have lb0 : W2.cell? ⟨w.heap.size + 1, 0, none⟩ = some (.int .i64 y.Grid.W) := (HB2.out.cell (p := ⟨w.heap.size + 1, 0, none⟩) (by show w.heap.size + 1 < _; omega)).trans v0
    have lb1 : W2.cell? ⟨w.heap.size + 1, 1, none⟩ = some (.int .i64 y.Grid.H) := (HB2.out.cell (p := ⟨w.heap.size + 1, 1, none⟩) (by show w.heap.size + 1 < _; omega)).trans v1
    go_wp2_with fail
    refine bodyPost_ret (v := .tuple #[.slice none 0 0, .bool false]) (by simp [results, Tryd.results16, go_sem]) rfl ?_
    first | exact ⟨_, rfl, ⟨_, _, rfl, freshS_nil _ _ (by rw [HN.out]), by rw [HN.out]⟩, HWB.out.trans (HB2.out.mono hwz0)⟩ | exact ⟨_, rfl, ⟨_, by rw [HN.out], freshS_nil _ _ (by rw [HN.out])⟩, HWB.out.trans (HB2.out.mono hwz0)⟩
  have HRO := Lib.hid (show repOk x y = true by unfold repOk; simp [hv, hv2, hW, hH])
  obtain ⟨HGX, hgx⟩ : Hid (gridOkB x.Grid = true) ∧ Rep.rep w [.int .i64 x.Grid.W, .int .i64 x.Grid.H, .slice a0 n0 c0] x.Grid := by
    refine ⟨?_, ?_⟩
    · have h := HV.out
      unfold viewOk at h
      simp only [Bool.and_eq_true] at h
      exact h.1
    · obtain ⟨q0, e, i0, i1, i2, i3, i4⟩ := DView.rep_iff.1 HP.out
      simp only [List.cons.injEq, and_true, true_and] at e
      obtain rfl := e
      exact DView.grid i0 i1 i2
  obtain ⟨HGY, hgy⟩ : Hid (gridOkB y.Grid = true) ∧ Rep.rep w [.int .i64 y.Grid.W, .int .i64 y.Grid.H, .slice a1 n1 c1] y.Grid := by
    refine ⟨?_, ?_⟩
    · have h := HV2.out
      unfold viewOk at h
      simp only [Bool.and_eq_true] at h
      exact h.1
    · obtain ⟨q0, e, i0, i1, i2, i3, i4⟩ := DView.rep_iff.1 HQ.out
      simp only [List.cons.injEq, and_true, true_and] at e
      obtain rfl := e
      exact DView.grid i0 i1 i2
  have HRX := Lib.hid hgx
  have HRY := Lib.hid hgy
  have HWE := Lib.hid hW
  have HHE := Lib.hid hH
  have d1 : decide (x.Grid.W = y.Grid.W) = true := decide_eq_true hW
  have d2 : (x.Grid.W == y.Grid.W) = true := by simpa using hW
  have d3 : (x.Grid.W != y.Grid.W) = false := by simpa using hW
  have e1 : decide (x.Grid.H = y.Grid.H) = true := decide_eq_true hH
  have e2 : (x.Grid.H == y.Grid.H) = true := by simpa using hH
  have e3 : (x.Grid.H != y.Grid.H) = false := by simpa using hH
  obtain ⟨s1, s2, s3, s4, _⟩ := gridOkB_size HGY.out
  clear hv hv2 hW hH hgx hgy
  obtain ⟨v0', ev', _, _, hcs⟩ := DGrid.rep_iff.1 HRX.out
  simp only [List.cons.injEq, and_true, true_and] at ev'
  obtain rfl := ev'
  obtain ⟨ca, ccap, ecs, _, hcc⟩ := hcs
  cases ecs
  have HCX := Lib.hid hcc
  clear hcc
  obtain ⟨v0', ev', _, _, hcs⟩ := DGrid.rep_iff.1 HRY.out
  simp only [List.cons.injEq, and_true, true_and] at ev'
  obtain rfl := ev'
  obtain ⟨ca, ccap, ecs, _, hcc⟩ := hcs
  cases ecs
  have HCY := Lib.hid hcc
  clear hcc
  go_enter Tryd.func16, Tryd.ntmps16
  go_wp2_with fail
  refine (spec_ViewOk _ [_, _, _, _, _, _] x (Rep.mono HP.out (by repeat (first | (with_reducible exact Below.refl _ _) | (with_reducible assumption) | (with_reducible refine bel_alloc ?_ _) | ((with_reducible refine bel_set ?_ ?_ _); rotate_left; (focus first | (simp; done) | (simp; omega))))))).mono ?_
  rintro e W1 ⟨_, rfl, rfl, hb⟩
  rw [HV.out]
  obtain ⟨wa, hwa⟩ : ∃ wa, wa = w.alloc (.cells #[.int .i64 x.Grid.W, .int .i64 x.Grid.H, .slice a0 x.Grid.Cells.length c0, .int .i64 x.X, .int .i64 x.Y, .bool x.Hide] 34) := ⟨_, rfl⟩
  have hza : wa.heap.size = w.heap.size + 1 := by rw [hwa]; simp
  rw [← hwa] at hb
  obtain ⟨wb, hwb⟩ : ∃ wb, wb = wa.alloc (.cells #[.int .i64 y.Grid.W, .int .i64 y.Grid.H, .slice a1 y.Grid.Cells.length c1, .int .i64 y.X, .int .i64 y.Y, .bool y.Hide] 34) := ⟨_, rfl⟩
  rw [← hwb] at hb
  have hwz : w.heap.size + 1 < wb.heap.size := by rw [hwb]; simp; omega
  have hwz0 : w.heap.size ≤ wb.heap.size := by omega
  have HWB := Lib.hid (show Below w.heap.size w wb from by rw [hwb, hwa]; exact bel_alloc (bel_alloc (Below.refl _ _) _) _)
  have u0 : wb.cell? ⟨w.heap.size, 0, none⟩ = some (.int .i64 x.Grid.W) := by rw [hwb]; exact (World.cell?_alloc_lt wa _ ⟨w.heap.size, 0, none⟩ (by show w.heap.size < _; omega)).trans (by rw [hwa]; simp)
  have u1 : wb.cell? ⟨w.heap.size, 1, none⟩ = some (.int .i64 x.Grid.H) := by rw [hwb]; exact (World.cell?_alloc_lt wa _ ⟨w.heap.size, 1, none⟩ (by show w.heap.size < _; omega)).trans (by rw [hwa]; simp)
  have u2 : wb.cell? ⟨w.heap.size, 2, none⟩ = some (.slice a0 x.Grid.Cells.length c0) := by rw [hwb]; exact (World.cell?_alloc_lt wa _ ⟨w.heap.size, 2, none⟩ (by show w.heap.size < _; omega)).trans (by rw [hwa]; simp)
  have u3 : wb.cell? ⟨w.heap.size, 3, none⟩ = some (.int .i64 x.X) := by rw [hwb]; exact (World.cell?_alloc_lt wa _ ⟨w.heap.size, 3, none⟩ (by show w.heap.size < _; omega)).trans (by rw [hwa]; simp)
  have u4 : wb.cell? ⟨w.heap.size, 4, none⟩ = some (.int .i64 x.Y) := by rw [hwb]; exact (World.cell?_alloc_lt wa _ ⟨w.heap.size, 4, none⟩ (by show w.heap.size < _; omega)).trans (by rw [hwa]; simp)
  have u5 : wb.cell? ⟨w.heap.size, 5, none⟩ = some (.bool x.Hide) := by rw [hwb]; exact (World.cell?_alloc_lt wa _ ⟨w.heap.size, 5, none⟩ (by show w.heap.size < _; omega)).trans (by rw [hwa]; simp)
  have v0 : wb.cell? ⟨w.heap.size + 1, 0, none⟩ = some (.int .i64 y.Grid.W) := by rw [← hza, hwb]; simp
  have v1 : wb.cell? ⟨w.heap.size + 1, 1, none⟩ = some (.int .i64 y.Grid.H) := by rw [← hza, hwb]; simp
  have v2 : wb.cell? ⟨w.heap.size + 1, 2, none⟩ = some (.slice a1 y.Grid.Cells.length c1) := by rw [← hza, hwb]; simp
  have v3 : wb.cell? ⟨w.heap.size + 1, 3, none⟩ = some (.int .i64 y.X) := by rw [← hza, hwb]; simp
  have v4 : wb.cell? ⟨w.heap.size + 1, 4, none⟩ = some (.int .i64 y.Y) := by rw [← hza, hwb]; simp
  have v5 : wb.cell? ⟨w.heap.size + 1, 5, none⟩ = some (.bool y.Hide) := by rw [← hza, hwb]; simp
  clear hwb hwa hza
  have HB1 := Lib.hid hb
  have kb0 : W1.cell? ⟨w.heap.size + 1, 0, none⟩ = some (.int .i64 y.Grid.W) := (hb.cell (p := ⟨w.heap.size + 1, 0, none⟩) (by show w.heap.size + 1 < _; omega)).trans v0
  have kb1 : W1.cell? ⟨w.heap.size + 1, 1, none⟩ = some (.int .i64 y.Grid.H) := (hb.cell (p := ⟨w.heap.size + 1, 1, none⟩) (by show w.heap.size + 1 < _; omega)).trans v1
  have kb2 : W1.cell? ⟨w.heap.size + 1, 2, none⟩ = some (.slice a1 y.Grid.Cells.length c1) := (hb.cell (p := ⟨w.heap.size + 1, 2, none⟩) (by show w.heap.size + 1 < _; omega)).trans v2
  have kb3 : W1.cell? ⟨w.heap.size + 1, 3, none⟩ = some (.int .i64 y.X) := (hb.cell (p := ⟨w.heap.size + 1, 3, none⟩) (by show w.heap.size + 1 < _; omega)).trans v3
  have kb4 : W1.cell? ⟨w.heap.size + 1, 4, none⟩ = some (.int .i64 y.Y) := (hb.cell (p := ⟨w.heap.size + 1, 4, none⟩) (by show w.heap.size + 1 < _; omega)).trans v4
  have kb5 : W1.cell? ⟨w.heap.size + 1, 5, none⟩ = some (.bool y.Hide) := (hb.cell (p := ⟨w.heap.size + 1, 5, none⟩) (by show w.heap.size + 1 < _; omega)).trans v5
  clear hb
  go_wp2_with fail
  refine (spec_ViewOk _ [_, _, _, _, _, _] y (Rep.mono HQ.out (HWB.out.trans (HB1.out.mono hwz0)))).mono ?_
  rintro e W2 ⟨_, rfl, rfl, hb⟩
  rw [HV2.out]
  have HB2 := Lib.hid (bel_next HB1.out hb)
  have hz2 := HB2.out.size
  have hlt0 : w.heap.size < W2.heap.size := by omega
  have hlt1 : w.heap.size + 1 < W2.heap.size := by omega
  clear hb kb0 kb1 kb2 kb3 kb4 kb5
  have la0 : W2.cell? ⟨w.heap.size, 0, none⟩ = some (.int .i64 x.Grid.W) := (HB2.out.cell (p := ⟨w.heap.size, 0, none⟩) (by show w.heap.size < _; omega)).trans u0
  have la1 : W2.cell? ⟨w.heap.size, 1, none⟩ = some (.int .i64 x.Grid.H) := (HB2.out.cell (p := ⟨w.heap.size, 1, none⟩) (by show w.heap.size < _; omega)).trans u1
  have lb0 : W2.cell? ⟨w.heap.size + 1, 0, none⟩ = some (.int .i64 y.Grid.W) := (HB2.out.cell (p := ⟨w.heap.size + 1, 0, none⟩) (by show w.heap.size + 1 < _; omega)).trans v0
  have lb1 : W2.cell? ⟨w.heap.size + 1, 1, none⟩ = some (.int .i64 y.Grid.H) := (HB2.out.cell (p := ⟨w.heap.size + 1, 1, none⟩) (by show w.heap.size + 1 < _; omega)).trans v1
  have HO := Lib.hid (show OwnB (W2.alloc (Obj.cells #[] 5)) ⟨W2.heap.size, 0, none⟩ 0 0 [] from OwnB.of (OwnS.empty rfl (heap_alloc_new W2 _)))
  go_wp2_with fail
  clear la0 la1 lb0 lb1
  go_loopw [6, 8] (fun o xs wr => ∃ (k : Nat) (a : Addr) (n c : Nat), (k : Int) ≤ y.Grid.H ∧ xs = .int .i64 (k : Int) ∧ o = .slice (some a) n c ∧ wb.heap.size ≤ a.block ∧ Hid (OwnB wr a n c (repRows x.Grid y.Grid k)) ∧ Hid (Below wb.heap.size wb wr)) (fun _ xs _ => y.Grid.H.toNat - (intOf xs).toNat)
  case atStart => exact ⟨0, _, _, _, by omega, rfl, rfl, hz2, by show OwnB _ _ _ _ _; simpa [repRows] using HO.out, bel_alloc HB2.out _⟩
  case round =>
  obtain ⟨k, a, n, c, hk, rfl, rfl, hab, HW, HB⟩ := hrel
  have HBw := Lib.hid (HWB.out.trans (HB.out.mono hwz0))
  clear HO HB2 hlt0 hlt1 hz2 d1 d2 d3 e1 e2 e3
  have zb0 : wr.cell? ⟨w.heap.size + 1, 0, none⟩ = some (.int .i64 y.Grid.W) := (HB.out.cell (p := ⟨w.heap.size + 1, 0, none⟩) (by show w.heap.size + 1 < _; omega)).trans v0
  have zb1 : wr.cell? ⟨w.heap.size + 1, 1, none⟩ = some (.int .i64 y.Grid.H) := (HB.out.cell (p := ⟨w.heap.size + 1, 1, none⟩) (by show w.heap.size + 1 < _; omega)).trans v1
  have zb2 : wr.cell? ⟨w.heap.size + 1, 2, none⟩ = some (.slice a1 y.Grid.Cells.length c1) := (HB.out.cell (p := ⟨w.heap.size + 1, 2, none⟩) (by show w.heap.size + 1 < _; omega)).trans v2
  have zb3 : wr.cell? ⟨w.heap.size + 1, 3, none⟩ = some (.int .i64 y.X) := (HB.out.cell (p := ⟨w.heap.size + 1, 3, none⟩) (by show w.heap.size + 1 < _; omega)).trans v3
  have zb4 : wr.cell? ⟨w.heap.size + 1, 4, none⟩ = some (.int .i64 y.Y) := (HB.out.cell (p := ⟨w.heap.size + 1, 4, none⟩) (by show w.heap.size + 1 < _; omega)).trans v4
  have zb5 : wr.cell? ⟨w.heap.size + 1, 5, none⟩ = some (.bool y.Hide) := (HB.out.cell (p := ⟨w.heap.size + 1, 5, none⟩) (by show w.heap.size + 1 < _; omega)).trans v5
  by_cases hkh : (k : Int) < y.Grid.H
  rotate_left
  · have g1 : decide ((k : Int) < y.Grid.H) = false := decide_eq_false hkh
    have HEE := Lib.hid (show ends y = (viewEnds y).data.toList from by unfold ends; rw [if_pos HV2.out])
    have HRA := Lib.hid (show repAll x y = repRows x.Grid y.Grid k from by unfold repAll; rw [show y.Grid.H.toNat = k by omega])
    have hez : (ends y).length ≤ 64 := ends_wt y
    have hpl := repRows_len x.Grid y.Grid HGY.out k hk
    have hk120 : k * 1966080 ≤ 120 * 1966080 := Nat.mul_le_mul_right _ (by omega)
    have hsum : (repRows x.Grid y.Grid k).length + (ends y).length ≤ 140737488355328 := by omega
    clear hez hpl hk120
    have za3 : wr.cell? ⟨w.heap.size, 3, none⟩ = some (.int .i64 x.X) := (HB.out.cell (p := ⟨w.heap.size, 3, none⟩) (by show w.heap.size < _; omega)).trans u3
    have za4 : wr.cell? ⟨w.heap.size, 4, none⟩ = some (.int .i64 x.Y) := (HB.out.cell (p := ⟨w.heap.size, 4, none⟩) (by show w.heap.size < _; omega)).trans u4
    have za5 : wr.cell? ⟨w.heap.size, 5, none⟩ = some (.bool x.Hide) := (HB.out.cell (p := ⟨w.heap.size, 5, none⟩) (by show w.heap.size < _; omega)).trans u5
    by_cases c0 : (repRows x.Grid y.Grid k).length = 0
    rotate_left
    · have HN := Lib.hid (show repaint x y = (repRows x.Grid y.Grid k ++ (viewEnds y).data.toList, true) from by unfold repaint repStill; rw [if_pos HRO.out, HRA.out]; simp [c0])
      have c1 : decide ((n : Int) = 0) = false := by have := HW.out.1; simp; omega
      have c2 : ((n : Int) == 0) = false := by have := HW.out.1; simp; omega
      have c3 : decide (n = 0) = false := by have := HW.out.1; simp; omega
      have c4 : (n == 0) = false := by have := HW.out.1; simp; omega
      clear c0
      go_wp2_with (first
        | (go_at_call 32; refine (spec_Ends' _ [_, _, _, _, _, _] y (Rep.mono HQ.out HBw.out)).mono ?_; rintro ee W7 ⟨v7, rfl, hF7, hb⟩; obtain ⟨a7, n7, c7, rfl⟩ := hF7.repS.shape; have HF7 := Lib.hid hF7.repS; have HB7 := Lib.hid (bel_next HB.out hb); have HW7 := Lib.hid (HW.out.grow hb); clear hb hF7)
        | (at_builtin; refine wpList_append_bytes_any rfl _ _ 28 rfl Tryd.underlying28 info_u8 a n c _ rfl HW7.out a7 n7 c7 (ends y) rfl HF7.out hsum ?_; intro a8 n8 c8 W8 HO8 hg8 hat8; have HW8 := Lib.hid HO8; have HB8 := Lib.hid (HB7.out.grown hg8 HB7.out.size (fun j hj => by cases hj; exact hab)); have ha8 : wb.heap.size ≤ a8.block := (by rcases hat8 with e | e; (rw [e]; exact hab); (rw [e]; exact HB7.out.size)); clear HO8 hg8 hat8))
      refine bodyPost_ret (v := .tuple #[.slice (some a8) n8 c8, .bool true]) (by simp [results, Tryd.results16, go_sem]) rfl ?_
      first | exact ⟨_, rfl, ⟨_, _, rfl, ⟨[a8.block], by rw [HN.out, ← HEE.out]; exact HW8.out.ownS, by simp, by simp; omega⟩, by rw [HN.out]⟩, HWB.out.trans (HB8.out.mono hwz0)⟩ | exact ⟨_, rfl, ⟨_, by rw [HN.out], ⟨[a8.block], by rw [HN.out, ← HEE.out]; exact HW8.out.ownS, by simp, by simp; omega⟩⟩, HWB.out.trans (HB8.out.mono hwz0)⟩
    have c0' := List.eq_nil_of_length_eq_zero c0
    by_cases x0 : x.X = y.X
    rotate_left
    · have HN := Lib.hid (show repaint x y = (repRows x.Grid y.Grid k ++ (viewEnds y).data.toList, true) from by unfold repaint repStill; rw [if_pos HRO.out, HRA.out]; simp [x0])
      have c1 : decide ((n : Int) = 0) = true := by have := HW.out.1; simp; omega
      have c2 : ((n : Int) == 0) = true := by have := HW.out.1; simp; omega
      have c3 : decide (n = 0) = true := by have := HW.out.1; simp; omega
      have c4 : (n == 0) = true := by have := HW.out.1; simp; omega
      have x1 : decide (x.X = y.X) = false := by simpa using x0
      have x2 : (x.X == y.X) = false := by simpa using x0
      clear c0 c0' x0
      go_wp2_with (first
        | (go_at_call 32; refine (spec_Ends' _ [_, _, _, _, _, _] y (Rep.mono HQ.out HBw.out)).mono ?_; rintro ee W7 ⟨v7, rfl, hF7, hb⟩; obtain ⟨a7, n7, c7, rfl⟩ := hF7.repS.shape; have HF7 := Lib.hid hF7.repS; have HB7 := Lib.hid (bel_next HB.out hb); have HW7 := Lib.hid (HW.out.grow hb); clear hb hF7)
        | (at_builtin; refine wpList_append_bytes_any rfl _ _ 28 rfl Tryd.underlying28 info_u8 a n c _ rfl HW7.out a7 n7 c7 (ends y) rfl HF7.out hsum ?_; intro a8 n8 c8 W8 HO8 hg8 hat8; have HW8 := Lib.hid HO8; have HB8 := Lib.hid (HB7.out.grown hg8 HB7.out.size (fun j hj => by cases hj; exact hab)); have ha8 : wb.heap.size ≤ a8.block := (by rcases hat8 with e | e; (rw [e]; exact hab); (rw [e]; exact HB7.out.size)); clear HO8 hg8 hat8))
      refine bodyPost_ret (v := .tuple #[.slice (some a8) n8 c8, .bool true]) (by simp [results, Tryd.results16, go_sem]) rfl ?_
      first | exact ⟨_, rfl, ⟨_, _, rfl, ⟨[a8.block], by rw [HN.out, ← HEE.out]; exact HW8.out.ownS, by simp, by simp; omega⟩, by rw [HN.out]⟩, HWB.out.trans (HB8.out.mono hwz0)⟩ | exact ⟨_, rfl, ⟨_, by rw [HN.out], ⟨[a8.block], by rw [HN.out, ← HEE.out]; exact HW8.out.ownS, by simp, by simp; omega⟩⟩, HWB.out.trans (HB8.out.mono hwz0)⟩
    by_cases y0 : x.Y = y.Y
    rotate_left
    · have HN := Lib.hid (show repaint x y = (repRows x.Grid y.Grid k ++ (viewEnds y).data.toList, true) from by unfold repaint repStill; rw [if_pos HRO.out, HRA.out]; simp [y0])
      have c1 : decide ((n : Int) = 0) = true := by have := HW.out.1; simp; omega
      have c2 : ((n : Int) == 0) = true := by have := HW.out.1; simp; omega
      have c3 : decide (n = 0) = true := by have := HW.out.1; simp; omega
      have c4 : (n == 0) = true := by have := HW.out.1; simp; omega
      have x1 : decide (x.X = y.X) = true := by simpa using x0
      have x2 : (x.X == y.X) = true := by simpa using x0
      have y1 : decide (x.Y = y.Y) = false := by simpa using y0
      have y2 : (x.Y == y.Y) = false := by simpa using y0
      clear c0 c0' x0 y0
      go_wp2_with (first
        | (go_at_call 32; refine (spec_Ends' _ [_, _, _, _, _, _] y (Rep.mono HQ.out HBw.out)).mono ?_; rintro ee W7 ⟨v7, rfl, hF7, hb⟩; obtain ⟨a7, n7, c7, rfl⟩ := hF7.repS.shape; have HF7 := Lib.hid hF7.repS; have HB7 := Lib.hid (bel_next HB.out hb); have HW7 := Lib.hid (HW.out.grow hb); clear hb hF7)
        | (at_builtin; refine wpList_append_bytes_any rfl _ _ 28 rfl Tryd.underlying28 info_u8 a n c _ rfl HW7.out a7 n7 c7 (ends y) rfl HF7.out hsum ?_; intro a8 n8 c8 W8 HO8 hg8 hat8; have HW8 := Lib.hid HO8; have HB8 := Lib.hid (HB7.out.grown hg8 HB7.out.size (fun j hj => by cases hj; exact hab)); have ha8 : wb.heap.size ≤ a8.block := (by rcases hat8 with e | e; (rw [e]; exact hab); (rw [e]; exact HB7.out.size)); clear HO8 hg8 hat8))
      refine bodyPost_ret (v := .tuple #[.slice (some a8) n8 c8, .bool true]) (by simp [results, Tryd.results16, go_sem]) rfl ?_
      first | exact ⟨_, rfl, ⟨_, _, rfl, ⟨[a8.block], by rw [HN.out, ← HEE.out]; exact HW8.out.ownS, by simp, by simp; omega⟩, by rw [HN.out]⟩, HWB.out.trans (HB8.out.mono hwz0)⟩ | exact ⟨_, rfl, ⟨_, by rw [HN.out], ⟨[a8.block], by rw [HN.out, ← HEE.out]; exact HW8.out.ownS, by simp, by simp; omega⟩⟩, HWB.out.trans (HB8.out.mono hwz0)⟩
    by_cases h0 : x.Hide = y.Hide
    rotate_left
    · have HN := Lib.hid (show repaint x y = (repRows x.Grid y.Grid k ++ (viewEnds y).data.toList, true) from by unfold repaint repStill; rw [if_pos HRO.out, HRA.out]; simp [h0])
      have c1 : decide ((n : Int) = 0) = true := by have := HW.out.1; simp; omega
      have c2 : ((n : Int) == 0) = true := by have := HW.out.1; simp; omega
      have c3 : decide (n = 0) = true := by have := HW.out.1; simp; omega
      have c4 : (n == 0) = true := by have := HW.out.1; simp; omega
      have x1 : decide (x.X = y.X) = true := by simpa using x0
      have x2 : (x.X == y.X) = true := by simpa using x0
      have y1 : decide (x.Y = y.Y) = true := by simpa using y0
      have y2 : (x.Y == y.Y) = true := by simpa using y0
      have h1 : decide (x.Hide = y.Hide) = false := by simpa using h0
      have h2 : (x.Hide == y.Hide) = false := by simpa using h0
      clear c0 c0' x0 y0 h0
      go_wp2_with (first
        | (go_at_call 32; refine (spec_Ends' _ [_, _, _, _, _, _] y (Rep.mono HQ.out HBw.out)).mono ?_; rintro ee W7 ⟨v7, rfl, hF7, hb⟩; obtain ⟨a7, n7, c7, rfl⟩ := hF7.repS.shape; have HF7 := Lib.hid hF7.repS; have HB7 := Lib.hid (bel_next HB.out hb); have HW7 := Lib.hid (HW.out.grow hb); clear hb hF7)
        | (at_builtin; refine wpList_append_bytes_any rfl _ _ 28 rfl Tryd.underlying28 info_u8 a n c _ rfl HW7.out a7 n7 c7 (ends y) rfl HF7.out hsum ?_; intro a8 n8 c8 W8 HO8 hg8 hat8; have HW8 := Lib.hid HO8; have HB8 := Lib.hid (HB7.out.grown hg8 HB7.out.size (fun j hj => by cases hj; exact hab)); have ha8 : wb.heap.size ≤ a8.block := (by rcases hat8 with e | e; (rw [e]; exact hab); (rw [e]; exact HB7.out.size)); clear HO8 hg8 hat8))
      refine bodyPost_ret (v := .tuple #[.slice (some a8) n8 c8, .bool true]) (by simp [results, Tryd.results16, go_sem]) rfl ?_
      first | exact ⟨_, rfl, ⟨_, _, rfl, ⟨[a8.block], by rw [HN.out, ← HEE.out]; exact HW8.out.ownS, by simp, by simp; omega⟩, by rw [HN.out]⟩, HWB.out.trans (HB8.out.mono hwz0)⟩ | exact ⟨_, rfl, ⟨_, by rw [HN.out], ⟨[a8.block], by rw [HN.out, ← HEE.out]; exact HW8.out.ownS, by simp, by simp; omega⟩⟩, HWB.out.trans (HB8.out.mono hwz0)⟩
    · have HN := Lib.hid (show repaint x y = ([], true) from by unfold repaint repStill; rw [if_pos HRO.out, HRA.out]; simp [c0, x0, y0, h0])
      have c1 : decide ((n : Int) = 0) = true := by have := HW.out.1; simp; omega
      have c2 : ((n : Int) == 0) = true := by have := HW.out.1; simp; omega
      have c3 : decide (n = 0) = true := by have := HW.out.1; simp; omega
      have c4 : (n == 0) = true := by have := HW.out.1; simp; omega
      have x1 : decide (x.X = y.X) = true := by simpa using x0
      have x2 : (x.X == y.X) = true := by simpa using x0
      have y1 : decide (x.Y = y.Y) = true := by simpa using y0
      have y2 : (x.Y == y.Y) = true := by simpa using y0
      have h1 : decide (x.Hide = y.Hide) = true := by simpa using h0
      have h2 : (x.Hide == y.Hide) = true := by simpa using h0
      clear c0 c0' x0 y0 h0
      go_wp2_with fail
      refine bodyPost_ret (v := .tuple #[.slice none 0 0, .bool true]) (by simp [results, Tryd.results16, go_sem]) rfl ?_
      first | exact ⟨_, rfl, ⟨_, _, rfl, freshS_nil _ _ (by rw [HN.out]), by rw [HN.out]⟩, HBw.out⟩ | exact ⟨_, rfl, ⟨_, by rw [HN.out], freshS_nil _ _ (by rw [HN.out])⟩, HBw.out⟩
  have g1 : decide ((k : Int) < y.Grid.H) = true := decide_eq_true hkh
  obtain ⟨lo, m, e0, e1, e2, e3, e4, e5, e6, e7⟩ := row_arith HGY.out (show (0 : Int) ≤ (k : Int) by omega) hkh
  obtain ⟨lo', m', f0, f1, f2, f3, f4, f5, f6, f7⟩ := row_arith HGX.out (show (0 : Int) ≤ (k : Int) by omega) (by rw [HHE.out]; exact hkh)
  rw [HWE.out] at f0 f1 f2
  obtain rfl : m' = m := by omega
  obtain rfl : lo' = lo := by omega
  have hlb := rowOf_len HGY.out (show (0 : Int) ≤ (k : Int) by omega) hkh
  have HLm := Lib.hid (show (rowOf y.Grid (k : Int)).length = m' by omega)
  have HM := Lib.hid e0
  have HE7 := Lib.hid e7
  have HF7 := Lib.hid f7
  have hw1 : IntKind.i64.wrap ((k : Int) * y.Grid.W) = (lo' : Int) := by rw [e1, IntKind.wrap_i64]; omega
  clear hlb e0 e1 e2 e7 f0 f1 f2 f7
  go_wp2_with fail
  go_loopw [6, 9] (fun o js wr => ∃ (j : Nat) (a : Addr) (n c : Nat) (l : List UInt8), j ≤ m' + 1 ∧ js = .int .i64 (j : Int) ∧ o = .slice (some a) n c ∧ wb.heap.size ≤ a.block ∧ Hid (OwnB wr a n c l) ∧ Hid (l ++ repRow y.Grid (k : Int) (rowOf x.Grid (k : Int)) (rowOf y.Grid (k : Int)) m' j = repRows x.Grid y.Grid (k + 1)) ∧ Hid (Below wb.heap.size wb wr)) (fun _ js _ => m' + 1 - (intOf js).toNat)
  case atStart => exact ⟨0, _, _, _, _, by omega, rfl, rfl, hab, HW.out, by show _ = _; rw [repRows, HLm.out], HB.out⟩
  case round =>
  clear HW HB HBw hab zb0 zb1 zb2 zb3 zb4 zb5
  obtain ⟨j, a, n, c, l, hj, rfl, rfl, hab, HW, HE, HB⟩ := hrel
  by_cases hjl : j < m'
  rotate_left
  · have d1 : decide ((j : Int) < y.Grid.W) = false := decide_eq_false (by have := HM.out; omega)
    go_wp2_with fail
    go_roundw
    case rel => exact ⟨k + 1, a, n, c, by omega, by go_num, rfl, hab, by show OwnB _ _ _ _ _; rw [← HE.out, repRow_end _ _ _ _ (by omega), List.append_nil]; exact HW.out, HB.out⟩
    case measure => simp [intOf]; omega
  have d1 : decide ((j : Int) < y.Grid.W) = true := decide_eq_true (by have := HM.out; omega)
  go_wp2_with fail
  rename World => W4
  go_loopw [10] (fun ts wr => ∃ t : Nat, j ≤ t ∧ t ≤ m' ∧ ts = .int .i64 (t : Int) ∧ Hid (alike (rowOf x.Grid (k : Int)) (rowOf y.Grid (k : Int)) m' j = alike (rowOf x.Grid (k : Int)) (rowOf y.Grid (k : Int)) m' t) ∧ Hid (Below W4.heap.size W4 wr)) (fun ts _ => m' - (intOf ts).toNat)
  case atStart => exact ⟨j, Nat.le_refl _, by omega, rfl, rfl, Below.refl _ _⟩
  case round =>
  clear d1
  obtain ⟨t, ht0, ht1, rfl, HAT, HB4⟩ := hrel
  by_cases htl : t < m'
  rotate_left
  · have d1 : decide ((t : Int) < y.Grid.W) = false := decide_eq_false (by have := HM.out; omega)
    have HT2 := Lib.hid (show alike (rowOf x.Grid (k : Int)) (rowOf y.Grid (k : Int)) m' j = t from by rw [HAT.out, show t = m' by omega, alike_end])
    go_wp2_with fail
    refine wp_region_ext (by kernel_rfl) (by kernel_rfl) ?_
    repeat (go_big_quiet_step (fail))
    refine wpQuiet_nil ?_
    intro _ hw'
    obtain ⟨eW, rfl⟩ := hw'
    have HB5 := Lib.hid (bel_next HB4.out eW.bel)
    have HBb := Lib.hid (bel_next HB.out HB5.out)
    have HBq := Lib.hid (HWB.out.trans (HBb.out.mono hwz0))
    have HW5 := Lib.hid (HW.out.grow HB5.out)
    clear d1
    have HR1 := Lib.hid (show (l ++ runOut y.Grid (k : Int) (j : Int) (t : Int)) ++ repRow y.Grid (k : Int) (rowOf x.Grid (k : Int)) (rowOf y.Grid (k : Int)) m' (t + 1) = repRows x.Grid y.Grid (k + 1) from by rw [← HE.out, repRow_step _ _ _ _ (show j < m' by omega), HT2.out, List.append_assoc])
    have hwt := runOut_wt y.Grid (k : Int) (j : Int) (t : Int)
    have hrr := repRows_len x.Grid y.Grid HGY.out (k + 1) (by omega)
    have hle := congrArg List.length HE.out
    rw [List.length_append] at hle
    have hk120 : (k + 1) * 1966080 ≤ 120 * 1966080 := Nat.mul_le_mul_right _ (by omega)
    have hsum : l.length + (runOut y.Grid (k : Int) (j : Int) (t : Int)).length ≤ 140737488355328 := by omega
    clear hwt hrr hle hk120
    have zb0 : eW.w.cell? ⟨w.heap.size + 1, 0, none⟩ = some (.int .i64 y.Grid.W) := (HBb.out.cell (p := ⟨w.heap.size + 1, 0, none⟩) (by show w.heap.size + 1 < _; omega)).trans v0
    have zb1 : eW.w.cell? ⟨w.heap.size + 1, 1, none⟩ = some (.int .i64 y.Grid.H) := (HBb.out.cell (p := ⟨w.heap.size + 1, 1, none⟩) (by show w.heap.size + 1 < _; omega)).trans v1
    have zb2 : eW.w.cell? ⟨w.heap.size + 1, 2, none⟩ = some (.slice a1 y.Grid.Cells.length c1) := (HBb.out.cell (p := ⟨w.heap.size + 1, 2, none⟩) (by show w.heap.size + 1 < _; omega)).trans v2
    go_wp2_with (first | (go_at_call 31; refine (spec_Run' _ [_, _, _] y.Grid (k : Int) (j : Int) (t : Int) (Rep.mono HRY.out HBq.out)).mono ?_; rintro ee W7 ⟨v7, rfl, hF7, hb⟩; obtain ⟨a7, n7, c7, rfl⟩ := hF7.repS.shape; have HF7 := Lib.hid hF7.repS; have HB7 := Lib.hid (bel_next HBb.out hb); have HW7 := Lib.hid (HW5.out.grow hb); clear hb hF7) | (at_builtin; refine wpList_append_bytes_any rfl _ _ 28 rfl Tryd.underlying28 info_u8 a n c _ rfl HW7.out a7 n7 c7 (runOut y.Grid (k : Int) (j : Int) (t : Int)) rfl HF7.out hsum ?_; intro a8 n8 c8 W8 HO8 hg8 hat8; have HW8 := Lib.hid HO8; have HB8 := Lib.hid (HB7.out.grown hg8 HB7.out.size (fun j hj => by cases hj; exact hab)); have ha8 : wb.heap.size ≤ a8.block := (by rcases hat8 with e | e; (rw [e]; exact hab); (rw [e]; exact HB7.out.size)); clear HO8 hg8 hat8))
    go_roundw
    case rel => exact ⟨t + 1, a8, n8, c8, _, by omega, by go_num, rfl, ha8, HW8.out, HR1.out, HB8.out⟩
    case measure => simp [intOf]; omega
  have d1 : decide ((t : Int) < y.Grid.W) = true := decide_eq_true (by have := HM.out; omega)
  obtain ⟨i, hi⟩ : ∃ i, i = lo' + t := ⟨_, rfl⟩
  have hiw : IntKind.i64.wrap ((lo' : Int) + (t : Int)) = (i : Int) := by rw [IntKind.wrap_i64]; omega
  have hia : i < x.Grid.Cells.length := by omega
  have hib : i < y.Grid.Cells.length := by omega
  have hi00 : (0 : Int) ≤ (i : Int) := by omega
  have hi01 : (i : Int) < (x.Grid.Cells.length : Int) := by omega
  have hi02 : (i : Int) < (y.Grid.Cells.length : Int) := by omega
  have HBk := Lib.hid (bel_next HB.out HB4.out)
  have HB4w := Lib.hid (HWB.out.trans (HBk.out.mono hwz0))
  have hB0 := HB4w.out
  have hne : x.Grid.Cells ≠ [] := by intro e; have h := hia; rw [e] at h; simp at h
  obtain ⟨bq, oq, rfl, hc⟩ := HCX.out hne
  obtain ⟨q, hx⟩ : ∃ q, x.Grid.Cells[i]? = some q := ⟨x.Grid.Cells[i]'hia, by simp [hia]⟩
  obtain ⟨rr, hrep, hcell⟩ := hc i q hx
  have HLq := Lib.hid (show ∀ (j : Nat) u, rr[j]? = some u → wr.cell? ⟨bq, oq + i * 6 + j, none⟩ = some u from fun j u hu => (hB0.cell (p := ⟨bq, _, none⟩) (World.block_lt_of_cell? w _ (hcell j u hu))).trans (hcell j u hu))
  have HXq := Lib.hid hx
  obtain rfl := DCell.shape hrep
  clear hc hcell hrep hne hx
  have hne : y.Grid.Cells ≠ [] := by intro e; have h := hib; rw [e] at h; simp at h
  obtain ⟨bp, op, rfl, hc⟩ := HCY.out hne
  obtain ⟨p, hx⟩ : ∃ p, y.Grid.Cells[i]? = some p := ⟨y.Grid.Cells[i]'hib, by simp [hib]⟩
  obtain ⟨rr, hrep, hcell⟩ := hc i p hx
  have HLp := Lib.hid (show ∀ (j : Nat) u, rr[j]? = some u → wr.cell? ⟨bp, op + i * 6 + j, none⟩ = some u from fun j u hu => (hB0.cell (p := ⟨bp, _, none⟩) (World.block_lt_of_cell? w _ (hcell j u hu))).trans (hcell j u hu))
  have HXp := Lib.hid hx
  obtain rfl := DCell.shape hrep
  clear hc hcell hrep hne hx
  have fq0 := ext_cell (W := wr) (b := bq) (o := oq + i * 6) (v := .int .i64 q.R) (by simpa using HLq.out 0 _ rfl)
  have fq1 := ext_cell (W := wr) (b := bq) (o := oq + i * 6 + 1) (v := .int .i64 q.A.Fg) (HLq.out 1 _ rfl)
  have fq2 := ext_cell (W := wr) (b := bq) (o := oq + i * 6 + 2) (v := .int .i64 q.A.Bg) (HLq.out 2 _ rfl)
  have fq3 := ext_cell (W := wr) (b := bq) (o := oq + i * 6 + 3) (v := .bool q.A.Bold) (HLq.out 3 _ rfl)
  have fq4 := ext_cell (W := wr) (b := bq) (o := oq + i * 6 + 4) (v := .bool q.A.Under) (HLq.out 4 _ rfl)
  have fq5 := ext_cell (W := wr) (b := bq) (o := oq + i * 6 + 5) (v := .bool q.A.Turn) (HLq.out 5 _ rfl)
  have fp0 := ext_cell (W := wr) (b := bp) (o := op + i * 6) (v := .int .i64 p.R) (by simpa using HLp.out 0 _ rfl)
  have fp1 := ext_cell (W := wr) (b := bp) (o := op + i * 6 + 1) (v := .int .i64 p.A.Fg) (HLp.out 1 _ rfl)
  have fp2 := ext_cell (W := wr) (b := bp) (o := op + i * 6 + 2) (v := .int .i64 p.A.Bg) (HLp.out 2 _ rfl)
  have fp3 := ext_cell (W := wr) (b := bp) (o := op + i * 6 + 3) (v := .bool p.A.Bold) (HLp.out 3 _ rfl)
  have fp4 := ext_cell (W := wr) (b := bp) (o := op + i * 6 + 4) (v := .bool p.A.Under) (HLp.out 4 _ rfl)
  have fp5 := ext_cell (W := wr) (b := bp) (o := op + i * 6 + 5) (v := .bool p.A.Turn) (HLp.out 5 _ rfl)
  have HXr := Lib.hid (show (rowOf x.Grid (k : Int))[t]? = some q from by rw [row_at HF7.out htl, ← hi]; exact HXq.out)
  have HXs := Lib.hid (show (rowOf y.Grid (k : Int))[t]? = some p from by rw [row_at HE7.out htl, ← hi]; exact HXp.out)
  have ma2 := ext_cell (W := wr) (b := w.heap.size) (o := 2) (v := .slice (some ⟨bq, oq, none⟩) x.Grid.Cells.length c0) ((HBk.out.cell (p := ⟨w.heap.size, 2, none⟩) (by show w.heap.size < _; omega)).trans u2)
  have mb2 := ext_cell (W := wr) (b := w.heap.size + 1) (o := 2) (v := .slice (some ⟨bp, op, none⟩) y.Grid.Cells.length c1) ((HBk.out.cell (p := ⟨w.heap.size + 1, 2, none⟩) (by show w.heap.size + 1 < _; omega)).trans v2)
  have hgd : Tryd.prog.eqGuardType Tryd.prog.depth 66 = false := by kernel_rfl
  clear hB0 hi
  cases hs : cellSame q p
  · have heq : ∀ w : World, (Op.equalIn 10000 66 (.agg #[.int .i64 q.R, .int .i64 q.A.Fg, .int .i64 q.A.Bg, .bool q.A.Bold, .bool q.A.Under, .bool q.A.Turn]) (.agg #[.int .i64 p.R, .int .i64 p.A.Fg, .int .i64 p.A.Bg, .bool p.A.Bold, .bool p.A.Under, .bool p.A.Turn])).run Tryd.prog w = .ok false w := fun w => (eq_cell q p w).trans (by rw [hs])
    have HT3 := Lib.hid (show alike (rowOf x.Grid (k : Int)) (rowOf y.Grid (k : Int)) m' j = alike (rowOf x.Grid (k : Int)) (rowOf y.Grid (k : Int)) m' (t + 1) from by rw [HAT.out, alike_diff htl HXr.out HXs.out hs])
    clear hs
    go_wp2_with fail
    refine wp_region_ext (by kernel_rfl) (by kernel_rfl) ?_
    repeat (go_big_quiet_step (fail))
    refine wpQuiet_nil ?_
    intro _ hw'
    obtain ⟨eW, rfl⟩ := hw'
    have HB5 := Lib.hid (bel_next HB4.out eW.bel)
    have HBb := Lib.hid (bel_next HB.out HB5.out)
    have HBq := Lib.hid (HWB.out.trans (HBb.out.mono hwz0))
    have HW5 := Lib.hid (HW.out.grow HB5.out)
    go_wp2_with fail
    go_roundw
    case rel => exact ⟨t + 1, by omega, by omega, by go_num, HT3.out, HB5.out⟩
    case measure => simp [intOf]; omega
  · have heq : ∀ w : World, (Op.equalIn 10000 66 (.agg #[.int .i64 q.R, .int .i64 q.A.Fg, .int .i64 q.A.Bg, .bool q.A.Bold, .bool q.A.Under, .bool q.A.Turn]) (.agg #[.int .i64 p.R, .int .i64 p.A.Fg, .int .i64 p.A.Bg, .bool p.A.Bold, .bool p.A.Under, .bool p.A.Turn])).run Tryd.prog w = .ok true w := fun w => (eq_cell q p w).trans (by rw [hs])
    have HT2 := Lib.hid (show alike (rowOf x.Grid (k : Int)) (rowOf y.Grid (k : Int)) m' j = t from by rw [HAT.out, alike_same htl HXr.out HXs.out hs])
    clear hs
    go_wp2_with fail
    refine wp_region_ext (by kernel_rfl) (by kernel_rfl) ?_
    repeat (go_big_quiet_step (fail))
    refine wpQuiet_nil ?_
    intro _ hw'
    obtain ⟨eW, rfl⟩ := hw'
    have HB5 := Lib.hid (bel_next HB4.out eW.bel)
    have HBb := Lib.hid (bel_next HB.out HB5.out)
    have HBq := Lib.hid (HWB.out.trans (HBb.out.mono hwz0))
    have HW5 := Lib.hid (HW.out.grow HB5.out)
    clear fq0 fq1 fq2 fq3 fq4 fq5 fp0 fp1 fp2 fp3 fp4 fp5 heq d1 ma2 mb2
    have HR1 := Lib.hid (show (l ++ runOut y.Grid (k : Int) (j : Int) (t : Int)) ++ repRow y.Grid (k : Int) (rowOf x.Grid (k : Int)) (rowOf y.Grid (k : Int)) m' (t + 1) = repRows x.Grid y.Grid (k + 1) from by rw [← HE.out, repRow_step _ _ _ _ (show j < m' by omega), HT2.out, List.append_assoc])
    have hwt := runOut_wt y.Grid (k : Int) (j : Int) (t : Int)
    have hrr := repRows_len x.Grid y.Grid HGY.out (k + 1) (by omega)
    have hle := congrArg List.length HE.out
    rw [List.length_append] at hle
    have hk120 : (k + 1) * 1966080 ≤ 120 * 1966080 := Nat.mul_le_mul_right _ (by omega)
    have hsum : l.length + (runOut y.Grid (k : Int) (j : Int) (t : Int)).length ≤ 140737488355328 := by omega
    clear hwt hrr hle hk120
    have zb0 : eW.w.cell? ⟨w.heap.size + 1, 0, none⟩ = some (.int .i64 y.Grid.W) := (HBb.out.cell (p := ⟨w.heap.size + 1, 0, none⟩) (by show w.heap.size + 1 < _; omega)).trans v0
    have zb1 : eW.w.cell? ⟨w.heap.size + 1, 1, none⟩ = some (.int .i64 y.Grid.H) := (HBb.out.cell (p := ⟨w.heap.size + 1, 1, none⟩) (by show w.heap.size + 1 < _; omega)).trans v1
    have zb2 : eW.w.cell? ⟨w.heap.size + 1, 2, none⟩ = some (.slice (some ⟨bp, op, none⟩) y.Grid.Cells.length c1) := (HBb.out.cell (p := ⟨w.heap.size + 1, 2, none⟩) (by show w.heap.size + 1 < _; omega)).trans v2
    go_wp2_with (first | (go_at_call 31; refine (spec_Run' _ [_, _, _] y.Grid (k : Int) (j : Int) (t : Int) (Rep.mono HRY.out HBq.out)).mono ?_; rintro ee W7 ⟨v7, rfl, hF7, hb⟩; obtain ⟨a7, n7, c7, rfl⟩ := hF7.repS.shape; have HF7 := Lib.hid hF7.repS; have HB7 := Lib.hid (bel_next HBb.out hb); have HW7 := Lib.hid (HW5.out.grow hb); clear hb hF7) | (at_builtin; refine wpList_append_bytes_any rfl _ _ 28 rfl Tryd.underlying28 info_u8 a n c _ rfl HW7.out a7 n7 c7 (runOut y.Grid (k : Int) (j : Int) (t : Int)) rfl HF7.out hsum ?_; intro a8 n8 c8 W8 HO8 hg8 hat8; have HW8 := Lib.hid HO8; have HB8 := Lib.hid (HB7.out.grown hg8 HB7.out.size (fun j hj => by cases hj; exact hab)); have ha8 : wb.heap.size ≤ a8.block := (by rcases hat8 with e | e; (rw [e]; exact hab); (rw [e]; exact HB7.out.size)); clear HO8 hg8 hat8))
    go_roundw
    case rel => exact ⟨t + 1, a8, n8, c8, _, by omega, by go_num, rfl, ha8, HW8.out, HR1.out, HB8.out⟩
    case measure => simp [intOf]; omega
end Go.Proofs.YtlkadeaomjoiiaaDoor
