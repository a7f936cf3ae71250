/- The walk of ScrOk, the reference's. -/
import Derived.Test.YtaobgfneeijpmaaFnScrT1
import Derived.Test.YtaobgfneeijpmaaFnScrT2
import Derived.Test.YtaobgfneeijpmaaFnScrU
set_option linter.unusedSimpArgs false
set_option linter.unusedVariables false
namespace Go.Proofs.Ytaobgfneeijpmaa
open Go.RowKit Go.Mux
theorem spec_ScrOk_sized (w : World) (cs : List Value) (x : DScr) (h : Rep.rep w cs x) (hg1 : gridOkB x.Main = true) (hg2 : gridOkB x.Alt = true) (hs : scrSize x = true) : Calls Try.prog 27 #[.agg cs.toArray] w (Says w (scrOkB x)) := by
  by_cases p1 : 0 ≤ x.X
  rotate_left
  · rw [scr_no (fun hh => by obtain ⟨q1, q2, q3, q4, q5, q6, q7, q8, q9, q10, q11, q12, q13, q14, q15, q16, q17, q18, q19, q20, q21, q22, q23⟩ := scrOkB_true hh; omega)]; exact spec_ScrOk_fail1 w cs x h hg1 hg2 hs  (by omega)
  by_cases p2 : x.X < x.W
  rotate_left
  · rw [scr_no (fun hh => by obtain ⟨q1, q2, q3, q4, q5, q6, q7, q8, q9, q10, q11, q12, q13, q14, q15, q16, q17, q18, q19, q20, q21, q22, q23⟩ := scrOkB_true hh; omega)]; exact spec_ScrOk_fail2 w cs x h hg1 hg2 hs p1 (by omega)
  by_cases p3 : 0 ≤ x.Y
  rotate_left
  · rw [scr_no (fun hh => by obtain ⟨q1, q2, q3, q4, q5, q6, q7, q8, q9, q10, q11, q12, q13, q14, q15, q16, q17, q18, q19, q20, q21, q22, q23⟩ := scrOkB_true hh; omega)]; exact spec_ScrOk_fail3 w cs x h hg1 hg2 hs p1 p2 (by omega)
  by_cases p4 : x.Y < x.H
  rotate_left
  · rw [scr_no (fun hh => by obtain ⟨q1, q2, q3, q4, q5, q6, q7, q8, q9, q10, q11, q12, q13, q14, q15, q16, q17, q18, q19, q20, q21, q22, q23⟩ := scrOkB_true hh; omega)]; exact spec_ScrOk_fail4 w cs x h hg1 hg2 hs p1 p2 p3 (by omega)
  by_cases p5 : (x.Wrap = true → x.X = x.W - 1)
  rotate_left
  · rw [scr_no (fun hh => by obtain ⟨q1, q2, q3, q4, q5, q6, q7, q8, q9, q10, q11, q12, q13, q14, q15, q16, q17, q18, q19, q20, q21, q22, q23⟩ := scrOkB_true hh; exact p5 q17)]; exact spec_ScrOk_fail5 w cs x h hg1 hg2 hs p1 p2 p3 p4 (Classical.not_imp.1 p5)
  by_cases p6 : 0 ≤ x.SaveX
  rotate_left
  · rw [scr_no (fun hh => by obtain ⟨q1, q2, q3, q4, q5, q6, q7, q8, q9, q10, q11, q12, q13, q14, q15, q16, q17, q18, q19, q20, q21, q22, q23⟩ := scrOkB_true hh; omega)]; exact spec_ScrOk_fail6 w cs x h hg1 hg2 hs p1 p2 p3 p4 p5 (by omega)
  by_cases p7 : x.SaveX < x.W
  rotate_left
  · rw [scr_no (fun hh => by obtain ⟨q1, q2, q3, q4, q5, q6, q7, q8, q9, q10, q11, q12, q13, q14, q15, q16, q17, q18, q19, q20, q21, q22, q23⟩ := scrOkB_true hh; omega)]; exact spec_ScrOk_fail7 w cs x h hg1 hg2 hs p1 p2 p3 p4 p5 p6 (by omega)
  by_cases p8 : 0 ≤ x.SaveY
  rotate_left
  · rw [scr_no (fun hh => by obtain ⟨q1, q2, q3, q4, q5, q6, q7, q8, q9, q10, q11, q12, q13, q14, q15, q16, q17, q18, q19, q20, q21, q22, q23⟩ := scrOkB_true hh; omega)]; exact spec_ScrOk_fail8 w cs x h hg1 hg2 hs p1 p2 p3 p4 p5 p6 p7 (by omega)
  by_cases p9 : x.SaveY < x.H
  rotate_left
  · rw [scr_no (fun hh => by obtain ⟨q1, q2, q3, q4, q5, q6, q7, q8, q9, q10, q11, q12, q13, q14, q15, q16, q17, q18, q19, q20, q21, q22, q23⟩ := scrOkB_true hh; omega)]; exact spec_ScrOk_fail9 w cs x h hg1 hg2 hs p1 p2 p3 p4 p5 p6 p7 p8 (by omega)
  by_cases p10 : attrOkB x.A = true
  rotate_left
  · rw [scr_no (fun hh => by obtain ⟨q1, q2, q3, q4, q5, q6, q7, q8, q9, q10, q11, q12, q13, q14, q15, q16, q17, q18, q19, q20, q21, q22, q23⟩ := scrOkB_true hh; exact p10 q3)]; exact spec_ScrOk_fail10 w cs x h hg1 hg2 hs p1 p2 p3 p4 p5 p6 p7 p8 p9 (by simpa using p10)
  by_cases p11 : attrOkB x.SaveA = true
  rotate_left
  · rw [scr_no (fun hh => by obtain ⟨q1, q2, q3, q4, q5, q6, q7, q8, q9, q10, q11, q12, q13, q14, q15, q16, q17, q18, q19, q20, q21, q22, q23⟩ := scrOkB_true hh; exact p11 q4)]; exact spec_ScrOk_fail11 w cs x h hg1 hg2 hs p1 p2 p3 p4 p5 p6 p7 p8 p9 p10 (by simpa using p11)
  by_cases p12 : 0 ≤ x.Top
  rotate_left
  · rw [scr_no (fun hh => by obtain ⟨q1, q2, q3, q4, q5, q6, q7, q8, q9, q10, q11, q12, q13, q14, q15, q16, q17, q18, q19, q20, q21, q22, q23⟩ := scrOkB_true hh; omega)]; exact spec_ScrOk_fail12 w cs x h hg1 hg2 hs p1 p2 p3 p4 p5 p6 p7 p8 p9 p10 p11 (by omega)
  by_cases p13 : x.Bot < x.H
  rotate_left
  · rw [scr_no (fun hh => by obtain ⟨q1, q2, q3, q4, q5, q6, q7, q8, q9, q10, q11, q12, q13, q14, q15, q16, q17, q18, q19, q20, q21, q22, q23⟩ := scrOkB_true hh; omega)]; exact spec_ScrOk_fail13 w cs x h hg1 hg2 hs p1 p2 p3 p4 p5 p6 p7 p8 p9 p10 p11 p12 (by omega)
  by_cases p14 : x.Top ≤ x.Bot
  rotate_left
  · rw [scr_no (fun hh => by obtain ⟨q1, q2, q3, q4, q5, q6, q7, q8, q9, q10, q11, q12, q13, q14, q15, q16, q17, q18, q19, q20, q21, q22, q23⟩ := scrOkB_true hh; omega)]; exact spec_ScrOk_fail14 w cs x h hg1 hg2 hs p1 p2 p3 p4 p5 p6 p7 p8 p9 p10 p11 p12 p13 (by omega)
  by_cases p15 : (x.Top = x.Bot → x.H = 1)
  rotate_left
  · rw [scr_no (fun hh => by obtain ⟨q1, q2, q3, q4, q5, q6, q7, q8, q9, q10, q11, q12, q13, q14, q15, q16, q17, q18, q19, q20, q21, q22, q23⟩ := scrOkB_true hh; exact p15 q21)]; exact spec_ScrOk_fail15 w cs x h hg1 hg2 hs p1 p2 p3 p4 p5 p6 p7 p8 p9 p10 p11 p12 p13 p14 (Classical.not_imp.1 p15)
  by_cases p16 : 0 ≤ x.Limit
  rotate_left
  · rw [scr_no (fun hh => by obtain ⟨q1, q2, q3, q4, q5, q6, q7, q8, q9, q10, q11, q12, q13, q14, q15, q16, q17, q18, q19, q20, q21, q22, q23⟩ := scrOkB_true hh; omega)]; exact spec_ScrOk_fail16 w cs x h hg1 hg2 hs p1 p2 p3 p4 p5 p6 p7 p8 p9 p10 p11 p12 p13 p14 p15 (by omega)
  by_cases p17 : x.Limit ≤ 100
  rotate_left
  · rw [scr_no (fun hh => by obtain ⟨q1, q2, q3, q4, q5, q6, q7, q8, q9, q10, q11, q12, q13, q14, q15, q16, q17, q18, q19, q20, q21, q22, q23⟩ := scrOkB_true hh; omega)]; exact spec_ScrOk_fail17 w cs x h hg1 hg2 hs p1 p2 p3 p4 p5 p6 p7 p8 p9 p10 p11 p12 p13 p14 p15 p16 (by omega)
  by_cases p18 : (x.Back.length : Int) ≤ x.Limit
  rotate_left
  · rw [scr_no (fun hh => by obtain ⟨q1, q2, q3, q4, q5, q6, q7, q8, q9, q10, q11, q12, q13, q14, q15, q16, q17, q18, q19, q20, q21, q22, q23⟩ := scrOkB_true hh; omega)]; exact spec_ScrOk_fail18 w cs x h hg1 hg2 hs p1 p2 p3 p4 p5 p6 p7 p8 p9 p10 p11 p12 p13 p14 p15 p16 p17 (by omega)
  have e := scr_eq (b := (ascB x.Tabs (x.W - 1) && x.Back.all rowOkB)) hg1 hg2 hs ((gridHas_of hs).2 ⟨p1, p2, p3, p4⟩) ((gridHas_of hs).2 ⟨p6, p7, p8, p9⟩) p10 p11 p5 p12 p14 p13 p15 (by rw [withinB_true.2 ⟨p16, p17⟩, decide_eq_true p18]; simp)
  rw [← e]
  exact spec_ScrOk_good w cs x h hg1 hg2 hs p1 p2 p3 p4 p5 p6 p7 p8 p9 p10 p11 p12 p13 p14 p15 p16 p17 p18
set_option maxRecDepth 100000 in
set_option maxHeartbeats 1000000 in
theorem spec_ScrOk_bad1 (w : World) (cs : List Value) (x : DScr) (h : Rep.rep w cs x) (g1 : gridOkB x.Main = false) : Calls Try.prog 27 #[.agg cs.toArray] w (Says w false) := by
  obtain ⟨v0, v1, v2, v3, rfl, h0, h1, h2, h3, h4, h5, h6, h7, h8, h9, h10, h11, h12, h13, h14, h15, h16, h17, h18, h19, h20⟩ := DScr.rep_iff.1 h
  have HM := Lib.hid (fun (W : World) (hb : Below w.heap.size w W) => (DGrid.rep_iff (w := W) (x := x.Main)).2 ⟨v0, rfl, h2, h3, h4.mono hb⟩)
  have HA := Lib.hid (fun (W : World) (hb : Below w.heap.size w W) => (DGrid.rep_iff (w := W) (x := x.Alt)).2 ⟨v1, rfl, h5, h6, h7.mono hb⟩)
  have H1 := Lib.hid (fun (W : World) => (DAttr.rep_iff (w := W) (x := x.A)).2 ⟨rfl, h10, h11⟩)
  have H2 := Lib.hid (fun (W : World) => (DAttr.rep_iff (w := W) (x := x.SaveA)).2 ⟨rfl, h16, h17⟩)
  have HT := Lib.hid h18
  have HK := Lib.hid h20
  obtain ⟨a0, n0, c0, rfl⟩ := h4.shape
  obtain ⟨a1, n1, c1, rfl⟩ := h7.shape
  obtain ⟨a3, c3, rfl, ⟨hl3, -⟩, -⟩ := h20
  obtain ⟨a2, n2, c2, rfl⟩ := h18.shape
  clear h h4 h7 h18 h2 h3 h5 h6 h10 h11 h16 h17
  have G1 := Lib.hid g1
  clear g1
  go_enter Try.func27, Try.ntmps27
  go_wp2_with fail
  generalize hwb : World.alloc w _ = W0
  have HB0 := Lib.hid (show Below w.heap.size w W0 from by rw [← hwb]; exact bel_alloc (Below.refl _ _) _)
  have hz0 : w.heap.size < W0.heap.size := by rw [← hwb]; simp
  have hr0 : W0.heap[w.heap.size]? = some (.cells #[.int .i64 x.W, .int .i64 x.H, .int .i64 x.Main.W, .int .i64 x.Main.H, .slice a0 n0 c0, .int .i64 x.Alt.W, .int .i64 x.Alt.H, .slice a1 n1 c1, .bool x.OnAlt, .int .i64 x.X, .int .i64 x.Y, .bool x.Wrap, .int .i64 x.A.Fg, .int .i64 x.A.Bg, .bool x.A.Bold, .bool x.A.Under, .bool x.A.Turn, .int .i64 x.Top, .int .i64 x.Bot, .bool x.NoWrap, .bool x.Hide, .int .i64 x.SaveX, .int .i64 x.SaveY, .int .i64 x.SaveA.Fg, .int .i64 x.SaveA.Bg, .bool x.SaveA.Bold, .bool x.SaveA.Under, .bool x.SaveA.Turn, .slice a2 n2 c2, .int .i64 x.Limit, .slice a3 x.Back.length c3] 31 (0, 0)) := by rw [← hwb]; exact new_at _ _ rfl
  have b0 : W0.cell? ⟨w.heap.size, 0, none⟩ = some (.int .i64 x.W) := by simp only [World.cell?, hr0]; rfl
  have b1 : W0.cell? ⟨w.heap.size, 1, none⟩ = some (.int .i64 x.H) := by simp only [World.cell?, hr0]; rfl
  have b2 : W0.cell? ⟨w.heap.size, 2, none⟩ = some (.int .i64 x.Main.W) := by simp only [World.cell?, hr0]; rfl
  have b3 : W0.cell? ⟨w.heap.size, 3, none⟩ = some (.int .i64 x.Main.H) := by simp only [World.cell?, hr0]; rfl
  have b4 : W0.cell? ⟨w.heap.size, 4, none⟩ = some (.slice a0 n0 c0) := by simp only [World.cell?, hr0]; rfl
  have b5 : W0.cell? ⟨w.heap.size, 5, none⟩ = some (.int .i64 x.Alt.W) := by simp only [World.cell?, hr0]; rfl
  have b6 : W0.cell? ⟨w.heap.size, 6, none⟩ = some (.int .i64 x.Alt.H) := by simp only [World.cell?, hr0]; rfl
  have b7 : W0.cell? ⟨w.heap.size, 7, none⟩ = some (.slice a1 n1 c1) := by simp only [World.cell?, hr0]; rfl
  clear hwb hr0
  have HB := Lib.hid (Below.refl W0.heap.size W0)
  have kA := fun o => cell_of_heap (HB.out.block w.heap.size (by omega)) o
  go_wp2_with (go_at_call 64; refine (spec_GridOk _ [_, _, _] x.Main (HM.out _ (bel_next HB0.out HB.out))).mono ?_; rintro e W1 ⟨_, rfl, rfl, hb⟩; rw [G1.out]; have HB := Lib.hid (bel_next HB.out hb); clear hb kA; have kA := fun o => cell_of_heap (HB.out.block w.heap.size (by omega)) o)
  go_ret
  exact says_ret rfl (bel_next HB0.out HB.out)
set_option maxRecDepth 100000 in
set_option maxHeartbeats 1000000 in
theorem spec_ScrOk_bad2 (w : World) (cs : List Value) (x : DScr) (h : Rep.rep w cs x) (g1 : gridOkB x.Main = true) (g2 : gridOkB x.Alt = false) : Calls Try.prog 27 #[.agg cs.toArray] w (Says w false) := by
  obtain ⟨v0, v1, v2, v3, rfl, h0, h1, h2, h3, h4, h5, h6, h7, h8, h9, h10, h11, h12, h13, h14, h15, h16, h17, h18, h19, h20⟩ := DScr.rep_iff.1 h
  have HM := Lib.hid (fun (W : World) (hb : Below w.heap.size w W) => (DGrid.rep_iff (w := W) (x := x.Main)).2 ⟨v0, rfl, h2, h3, h4.mono hb⟩)
  have HA := Lib.hid (fun (W : World) (hb : Below w.heap.size w W) => (DGrid.rep_iff (w := W) (x := x.Alt)).2 ⟨v1, rfl, h5, h6, h7.mono hb⟩)
  have H1 := Lib.hid (fun (W : World) => (DAttr.rep_iff (w := W) (x := x.A)).2 ⟨rfl, h10, h11⟩)
  have H2 := Lib.hid (fun (W : World) => (DAttr.rep_iff (w := W) (x := x.SaveA)).2 ⟨rfl, h16, h17⟩)
  have HT := Lib.hid h18
  have HK := Lib.hid h20
  obtain ⟨a0, n0, c0, rfl⟩ := h4.shape
  obtain ⟨a1, n1, c1, rfl⟩ := h7.shape
  obtain ⟨a3, c3, rfl, ⟨hl3, -⟩, -⟩ := h20
  obtain ⟨a2, n2, c2, rfl⟩ := h18.shape
  clear h h4 h7 h18 h2 h3 h5 h6 h10 h11 h16 h17
  have G1 := Lib.hid g1
  clear g1
  have G2 := Lib.hid g2
  clear g2
  go_enter Try.func27, Try.ntmps27
  go_wp2_with fail
  generalize hwb : World.alloc w _ = W0
  have HB0 := Lib.hid (show Below w.heap.size w W0 from by rw [← hwb]; exact bel_alloc (Below.refl _ _) _)
  have hz0 : w.heap.size < W0.heap.size := by rw [← hwb]; simp
  have hr0 : W0.heap[w.heap.size]? = some (.cells #[.int .i64 x.W, .int .i64 x.H, .int .i64 x.Main.W, .int .i64 x.Main.H, .slice a0 n0 c0, .int .i64 x.Alt.W, .int .i64 x.Alt.H, .slice a1 n1 c1, .bool x.OnAlt, .int .i64 x.X, .int .i64 x.Y, .bool x.Wrap, .int .i64 x.A.Fg, .int .i64 x.A.Bg, .bool x.A.Bold, .bool x.A.Under, .bool x.A.Turn, .int .i64 x.Top, .int .i64 x.Bot, .bool x.NoWrap, .bool x.Hide, .int .i64 x.SaveX, .int .i64 x.SaveY, .int .i64 x.SaveA.Fg, .int .i64 x.SaveA.Bg, .bool x.SaveA.Bold, .bool x.SaveA.Under, .bool x.SaveA.Turn, .slice a2 n2 c2, .int .i64 x.Limit, .slice a3 x.Back.length c3] 31 (0, 0)) := by rw [← hwb]; exact new_at _ _ rfl
  have b0 : W0.cell? ⟨w.heap.size, 0, none⟩ = some (.int .i64 x.W) := by simp only [World.cell?, hr0]; rfl
  have b1 : W0.cell? ⟨w.heap.size, 1, none⟩ = some (.int .i64 x.H) := by simp only [World.cell?, hr0]; rfl
  have b2 : W0.cell? ⟨w.heap.size, 2, none⟩ = some (.int .i64 x.Main.W) := by simp only [World.cell?, hr0]; rfl
  have b3 : W0.cell? ⟨w.heap.size, 3, none⟩ = some (.int .i64 x.Main.H) := by simp only [World.cell?, hr0]; rfl
  have b4 : W0.cell? ⟨w.heap.size, 4, none⟩ = some (.slice a0 n0 c0) := by simp only [World.cell?, hr0]; rfl
  have b5 : W0.cell? ⟨w.heap.size, 5, none⟩ = some (.int .i64 x.Alt.W) := by simp only [World.cell?, hr0]; rfl
  have b6 : W0.cell? ⟨w.heap.size, 6, none⟩ = some (.int .i64 x.Alt.H) := by simp only [World.cell?, hr0]; rfl
  have b7 : W0.cell? ⟨w.heap.size, 7, none⟩ = some (.slice a1 n1 c1) := by simp only [World.cell?, hr0]; rfl
  clear hwb hr0
  have HB := Lib.hid (Below.refl W0.heap.size W0)
  have kA := fun o => cell_of_heap (HB.out.block w.heap.size (by omega)) o
  go_wp2_with (first | (have _ := mkG; go_at_call 64; refine (spec_GridOk _ [_, _, _] x.Alt (HA.out _ (bel_next HB0.out HB.out))).mono ?_; rintro e W1 ⟨_, rfl, rfl, hb⟩; rw [G2.out]; have HB := Lib.hid (bel_next HB.out hb); clear hb kA; have kA := fun o => cell_of_heap (HB.out.block w.heap.size (by omega)) o) | (go_at_call 64; refine (spec_GridOk _ [_, _, _] x.Main (HM.out _ (bel_next HB0.out HB.out))).mono ?_; rintro e W1 ⟨_, rfl, rfl, hb⟩; rw [G1.out]; have HB := Lib.hid (bel_next HB.out hb); clear hb kA; have kA := fun o => cell_of_heap (HB.out.block w.heap.size (by omega)) o; have mkG : True := trivial))
  go_ret
  exact says_ret rfl (bel_next HB0.out HB.out)
set_option maxRecDepth 100000 in
set_option maxHeartbeats 1000000 in
theorem spec_ScrOk_bad3 (w : World) (cs : List Value) (x : DScr) (h : Rep.rep w cs x) (g1 : gridOkB x.Main = true) (g2 : gridOkB x.Alt = true) (w1 : (x.Main.W != x.W) = true) : Calls Try.prog 27 #[.agg cs.toArray] w (Says w false) := by
  obtain ⟨v0, v1, v2, v3, rfl, h0, h1, h2, h3, h4, h5, h6, h7, h8, h9, h10, h11, h12, h13, h14, h15, h16, h17, h18, h19, h20⟩ := DScr.rep_iff.1 h
  have HM := Lib.hid (fun (W : World) (hb : Below w.heap.size w W) => (DGrid.rep_iff (w := W) (x := x.Main)).2 ⟨v0, rfl, h2, h3, h4.mono hb⟩)
  have HA := Lib.hid (fun (W : World) (hb : Below w.heap.size w W) => (DGrid.rep_iff (w := W) (x := x.Alt)).2 ⟨v1, rfl, h5, h6, h7.mono hb⟩)
  have H1 := Lib.hid (fun (W : World) => (DAttr.rep_iff (w := W) (x := x.A)).2 ⟨rfl, h10, h11⟩)
  have H2 := Lib.hid (fun (W : World) => (DAttr.rep_iff (w := W) (x := x.SaveA)).2 ⟨rfl, h16, h17⟩)
  have HT := Lib.hid h18
  have HK := Lib.hid h20
  obtain ⟨a0, n0, c0, rfl⟩ := h4.shape
  obtain ⟨a1, n1, c1, rfl⟩ := h7.shape
  obtain ⟨a3, c3, rfl, ⟨hl3, -⟩, -⟩ := h20
  obtain ⟨a2, n2, c2, rfl⟩ := h18.shape
  clear h h4 h7 h18 h2 h3 h5 h6 h10 h11 h16 h17
  have G1 := Lib.hid g1
  clear g1
  have G2 := Lib.hid g2
  clear g2
  go_enter Try.func27, Try.ntmps27
  go_wp2_with fail
  generalize hwb : World.alloc w _ = W0
  have HB0 := Lib.hid (show Below w.heap.size w W0 from by rw [← hwb]; exact bel_alloc (Below.refl _ _) _)
  have hz0 : w.heap.size < W0.heap.size := by rw [← hwb]; simp
  have hr0 : W0.heap[w.heap.size]? = some (.cells #[.int .i64 x.W, .int .i64 x.H, .int .i64 x.Main.W, .int .i64 x.Main.H, .slice a0 n0 c0, .int .i64 x.Alt.W, .int .i64 x.Alt.H, .slice a1 n1 c1, .bool x.OnAlt, .int .i64 x.X, .int .i64 x.Y, .bool x.Wrap, .int .i64 x.A.Fg, .int .i64 x.A.Bg, .bool x.A.Bold, .bool x.A.Under, .bool x.A.Turn, .int .i64 x.Top, .int .i64 x.Bot, .bool x.NoWrap, .bool x.Hide, .int .i64 x.SaveX, .int .i64 x.SaveY, .int .i64 x.SaveA.Fg, .int .i64 x.SaveA.Bg, .bool x.SaveA.Bold, .bool x.SaveA.Under, .bool x.SaveA.Turn, .slice a2 n2 c2, .int .i64 x.Limit, .slice a3 x.Back.length c3] 31 (0, 0)) := by rw [← hwb]; exact new_at _ _ rfl
  have b0 : W0.cell? ⟨w.heap.size, 0, none⟩ = some (.int .i64 x.W) := by simp only [World.cell?, hr0]; rfl
  have b1 : W0.cell? ⟨w.heap.size, 1, none⟩ = some (.int .i64 x.H) := by simp only [World.cell?, hr0]; rfl
  have b2 : W0.cell? ⟨w.heap.size, 2, none⟩ = some (.int .i64 x.Main.W) := by simp only [World.cell?, hr0]; rfl
  have b3 : W0.cell? ⟨w.heap.size, 3, none⟩ = some (.int .i64 x.Main.H) := by simp only [World.cell?, hr0]; rfl
  have b4 : W0.cell? ⟨w.heap.size, 4, none⟩ = some (.slice a0 n0 c0) := by simp only [World.cell?, hr0]; rfl
  have b5 : W0.cell? ⟨w.heap.size, 5, none⟩ = some (.int .i64 x.Alt.W) := by simp only [World.cell?, hr0]; rfl
  have b6 : W0.cell? ⟨w.heap.size, 6, none⟩ = some (.int .i64 x.Alt.H) := by simp only [World.cell?, hr0]; rfl
  have b7 : W0.cell? ⟨w.heap.size, 7, none⟩ = some (.slice a1 n1 c1) := by simp only [World.cell?, hr0]; rfl
  clear hwb hr0
  have HB := Lib.hid (Below.refl W0.heap.size W0)
  have kA := fun o => cell_of_heap (HB.out.block w.heap.size (by omega)) o
  go_wp2_with (first | (have _ := mkG; go_at_call 64; refine (spec_GridOk _ [_, _, _] x.Alt (HA.out _ (bel_next HB0.out HB.out))).mono ?_; rintro e W1 ⟨_, rfl, rfl, hb⟩; rw [G2.out]; have HB := Lib.hid (bel_next HB.out hb); clear hb kA; have kA := fun o => cell_of_heap (HB.out.block w.heap.size (by omega)) o) | (go_at_call 64; refine (spec_GridOk _ [_, _, _] x.Main (HM.out _ (bel_next HB0.out HB.out))).mono ?_; rintro e W1 ⟨_, rfl, rfl, hb⟩; rw [G1.out]; have HB := Lib.hid (bel_next HB.out hb); clear hb kA; have kA := fun o => cell_of_heap (HB.out.block w.heap.size (by omega)) o; have mkG : True := trivial))
  go_ret
  exact says_ret rfl (bel_next HB0.out HB.out)
set_option maxRecDepth 100000 in
set_option maxHeartbeats 1000000 in
theorem spec_ScrOk_bad4 (w : World) (cs : List Value) (x : DScr) (h : Rep.rep w cs x) (g1 : gridOkB x.Main = true) (g2 : gridOkB x.Alt = true) (w1 : (x.Main.W != x.W) = false) (w2 : (x.Main.H != x.H) = true) : Calls Try.prog 27 #[.agg cs.toArray] w (Says w false) := by
  obtain ⟨v0, v1, v2, v3, rfl, h0, h1, h2, h3, h4, h5, h6, h7, h8, h9, h10, h11, h12, h13, h14, h15, h16, h17, h18, h19, h20⟩ := DScr.rep_iff.1 h
  have HM := Lib.hid (fun (W : World) (hb : Below w.heap.size w W) => (DGrid.rep_iff (w := W) (x := x.Main)).2 ⟨v0, rfl, h2, h3, h4.mono hb⟩)
  have HA := Lib.hid (fun (W : World) (hb : Below w.heap.size w W) => (DGrid.rep_iff (w := W) (x := x.Alt)).2 ⟨v1, rfl, h5, h6, h7.mono hb⟩)
  have H1 := Lib.hid (fun (W : World) => (DAttr.rep_iff (w := W) (x := x.A)).2 ⟨rfl, h10, h11⟩)
  have H2 := Lib.hid (fun (W : World) => (DAttr.rep_iff (w := W) (x := x.SaveA)).2 ⟨rfl, h16, h17⟩)
  have HT := Lib.hid h18
  have HK := Lib.hid h20
  obtain ⟨a0, n0, c0, rfl⟩ := h4.shape
  obtain ⟨a1, n1, c1, rfl⟩ := h7.shape
  obtain ⟨a3, c3, rfl, ⟨hl3, -⟩, -⟩ := h20
  obtain ⟨a2, n2, c2, rfl⟩ := h18.shape
  clear h h4 h7 h18 h2 h3 h5 h6 h10 h11 h16 h17
  have G1 := Lib.hid g1
  clear g1
  have G2 := Lib.hid g2
  clear g2
  go_enter Try.func27, Try.ntmps27
  go_wp2_with fail
  generalize hwb : World.alloc w _ = W0
  have HB0 := Lib.hid (show Below w.heap.size w W0 from by rw [← hwb]; exact bel_alloc (Below.refl _ _) _)
  have hz0 : w.heap.size < W0.heap.size := by rw [← hwb]; simp
  have hr0 : W0.heap[w.heap.size]? = some (.cells #[.int .i64 x.W, .int .i64 x.H, .int .i64 x.Main.W, .int .i64 x.Main.H, .slice a0 n0 c0, .int .i64 x.Alt.W, .int .i64 x.Alt.H, .slice a1 n1 c1, .bool x.OnAlt, .int .i64 x.X, .int .i64 x.Y, .bool x.Wrap, .int .i64 x.A.Fg, .int .i64 x.A.Bg, .bool x.A.Bold, .bool x.A.Under, .bool x.A.Turn, .int .i64 x.Top, .int .i64 x.Bot, .bool x.NoWrap, .bool x.Hide, .int .i64 x.SaveX, .int .i64 x.SaveY, .int .i64 x.SaveA.Fg, .int .i64 x.SaveA.Bg, .bool x.SaveA.Bold, .bool x.SaveA.Under, .bool x.SaveA.Turn, .slice a2 n2 c2, .int .i64 x.Limit, .slice a3 x.Back.length c3] 31 (0, 0)) := by rw [← hwb]; exact new_at _ _ rfl
  have b0 : W0.cell? ⟨w.heap.size, 0, none⟩ = some (.int .i64 x.W) := by simp only [World.cell?, hr0]; rfl
  have b1 : W0.cell? ⟨w.heap.size, 1, none⟩ = some (.int .i64 x.H) := by simp only [World.cell?, hr0]; rfl
  have b2 : W0.cell? ⟨w.heap.size, 2, none⟩ = some (.int .i64 x.Main.W) := by simp only [World.cell?, hr0]; rfl
  have b3 : W0.cell? ⟨w.heap.size, 3, none⟩ = some (.int .i64 x.Main.H) := by simp only [World.cell?, hr0]; rfl
  have b4 : W0.cell? ⟨w.heap.size, 4, none⟩ = some (.slice a0 n0 c0) := by simp only [World.cell?, hr0]; rfl
  have b5 : W0.cell? ⟨w.heap.size, 5, none⟩ = some (.int .i64 x.Alt.W) := by simp only [World.cell?, hr0]; rfl
  have b6 : W0.cell? ⟨w.heap.size, 6, none⟩ = some (.int .i64 x.Alt.H) := by simp only [World.cell?, hr0]; rfl
  have b7 : W0.cell? ⟨w.heap.size, 7, none⟩ = some (.slice a1 n1 c1) := by simp only [World.cell?, hr0]; rfl
  clear hwb hr0
  have HB := Lib.hid (Below.refl W0.heap.size W0)
  have kA := fun o => cell_of_heap (HB.out.block w.heap.size (by omega)) o
  go_wp2_with (first | (have _ := mkG; go_at_call 64; refine (spec_GridOk _ [_, _, _] x.Alt (HA.out _ (bel_next HB0.out HB.out))).mono ?_; rintro e W1 ⟨_, rfl, rfl, hb⟩; rw [G2.out]; have HB := Lib.hid (bel_next HB.out hb); clear hb kA; have kA := fun o => cell_of_heap (HB.out.block w.heap.size (by omega)) o) | (go_at_call 64; refine (spec_GridOk _ [_, _, _] x.Main (HM.out _ (bel_next HB0.out HB.out))).mono ?_; rintro e W1 ⟨_, rfl, rfl, hb⟩; rw [G1.out]; have HB := Lib.hid (bel_next HB.out hb); clear hb kA; have kA := fun o => cell_of_heap (HB.out.block w.heap.size (by omega)) o; have mkG : True := trivial))
  go_ret
  exact says_ret rfl (bel_next HB0.out HB.out)
set_option maxRecDepth 100000 in
set_option maxHeartbeats 1000000 in
theorem spec_ScrOk_bad5 (w : World) (cs : List Value) (x : DScr) (h : Rep.rep w cs x) (g1 : gridOkB x.Main = true) (g2 : gridOkB x.Alt = true) (w1 : (x.Main.W != x.W) = false) (w2 : (x.Main.H != x.H) = false) (w3 : (x.Alt.W != x.W) = true) : Calls Try.prog 27 #[.agg cs.toArray] w (Says w false) := by
  obtain ⟨v0, v1, v2, v3, rfl, h0, h1, h2, h3, h4, h5, h6, h7, h8, h9, h10, h11, h12, h13, h14, h15, h16, h17, h18, h19, h20⟩ := DScr.rep_iff.1 h
  have HM := Lib.hid (fun (W : World) (hb : Below w.heap.size w W) => (DGrid.rep_iff (w := W) (x := x.Main)).2 ⟨v0, rfl, h2, h3, h4.mono hb⟩)
  have HA := Lib.hid (fun (W : World) (hb : Below w.heap.size w W) => (DGrid.rep_iff (w := W) (x := x.Alt)).2 ⟨v1, rfl, h5, h6, h7.mono hb⟩)
  have H1 := Lib.hid (fun (W : World) => (DAttr.rep_iff (w := W) (x := x.A)).2 ⟨rfl, h10, h11⟩)
  have H2 := Lib.hid (fun (W : World) => (DAttr.rep_iff (w := W) (x := x.SaveA)).2 ⟨rfl, h16, h17⟩)
  have HT := Lib.hid h18
  have HK := Lib.hid h20
  obtain ⟨a0, n0, c0, rfl⟩ := h4.shape
  obtain ⟨a1, n1, c1, rfl⟩ := h7.shape
  obtain ⟨a3, c3, rfl, ⟨hl3, -⟩, -⟩ := h20
  obtain ⟨a2, n2, c2, rfl⟩ := h18.shape
  clear h h4 h7 h18 h2 h3 h5 h6 h10 h11 h16 h17
  have G1 := Lib.hid g1
  clear g1
  have G2 := Lib.hid g2
  clear g2
  go_enter Try.func27, Try.ntmps27
  go_wp2_with fail
  generalize hwb : World.alloc w _ = W0
  have HB0 := Lib.hid (show Below w.heap.size w W0 from by rw [← hwb]; exact bel_alloc (Below.refl _ _) _)
  have hz0 : w.heap.size < W0.heap.size := by rw [← hwb]; simp
  have hr0 : W0.heap[w.heap.size]? = some (.cells #[.int .i64 x.W, .int .i64 x.H, .int .i64 x.Main.W, .int .i64 x.Main.H, .slice a0 n0 c0, .int .i64 x.Alt.W, .int .i64 x.Alt.H, .slice a1 n1 c1, .bool x.OnAlt, .int .i64 x.X, .int .i64 x.Y, .bool x.Wrap, .int .i64 x.A.Fg, .int .i64 x.A.Bg, .bool x.A.Bold, .bool x.A.Under, .bool x.A.Turn, .int .i64 x.Top, .int .i64 x.Bot, .bool x.NoWrap, .bool x.Hide, .int .i64 x.SaveX, .int .i64 x.SaveY, .int .i64 x.SaveA.Fg, .int .i64 x.SaveA.Bg, .bool x.SaveA.Bold, .bool x.SaveA.Under, .bool x.SaveA.Turn, .slice a2 n2 c2, .int .i64 x.Limit, .slice a3 x.Back.length c3] 31 (0, 0)) := by rw [← hwb]; exact new_at _ _ rfl
  have b0 : W0.cell? ⟨w.heap.size, 0, none⟩ = some (.int .i64 x.W) := by simp only [World.cell?, hr0]; rfl
  have b1 : W0.cell? ⟨w.heap.size, 1, none⟩ = some (.int .i64 x.H) := by simp only [World.cell?, hr0]; rfl
  have b2 : W0.cell? ⟨w.heap.size, 2, none⟩ = some (.int .i64 x.Main.W) := by simp only [World.cell?, hr0]; rfl
  have b3 : W0.cell? ⟨w.heap.size, 3, none⟩ = some (.int .i64 x.Main.H) := by simp only [World.cell?, hr0]; rfl
  have b4 : W0.cell? ⟨w.heap.size, 4, none⟩ = some (.slice a0 n0 c0) := by simp only [World.cell?, hr0]; rfl
  have b5 : W0.cell? ⟨w.heap.size, 5, none⟩ = some (.int .i64 x.Alt.W) := by simp only [World.cell?, hr0]; rfl
  have b6 : W0.cell? ⟨w.heap.size, 6, none⟩ = some (.int .i64 x.Alt.H) := by simp only [World.cell?, hr0]; rfl
  have b7 : W0.cell? ⟨w.heap.size, 7, none⟩ = some (.slice a1 n1 c1) := by simp only [World.cell?, hr0]; rfl
  clear hwb hr0
  have HB := Lib.hid (Below.refl W0.heap.size W0)
  have kA := fun o => cell_of_heap (HB.out.block w.heap.size (by omega)) o
  go_wp2_with (first | (have _ := mkG; go_at_call 64; refine (spec_GridOk _ [_, _, _] x.Alt (HA.out _ (bel_next HB0.out HB.out))).mono ?_; rintro e W1 ⟨_, rfl, rfl, hb⟩; rw [G2.out]; have HB := Lib.hid (bel_next HB.out hb); clear hb kA; have kA := fun o => cell_of_heap (HB.out.block w.heap.size (by omega)) o) | (go_at_call 64; refine (spec_GridOk _ [_, _, _] x.Main (HM.out _ (bel_next HB0.out HB.out))).mono ?_; rintro e W1 ⟨_, rfl, rfl, hb⟩; rw [G1.out]; have HB := Lib.hid (bel_next HB.out hb); clear hb kA; have kA := fun o => cell_of_heap (HB.out.block w.heap.size (by omega)) o; have mkG : True := trivial))
  go_ret
  exact says_ret rfl (bel_next HB0.out HB.out)
set_option maxRecDepth 100000 in
set_option maxHeartbeats 1000000 in
theorem spec_ScrOk_bad6 (w : World) (cs : List Value) (x : DScr) (h : Rep.rep w cs x) (g1 : gridOkB x.Main = true) (g2 : gridOkB x.Alt = true) (w1 : (x.Main.W != x.W) = false) (w2 : (x.Main.H != x.H) = false) (w3 : (x.Alt.W != x.W) = false) (w4 : (x.Alt.H != x.H) = true) : Calls Try.prog 27 #[.agg cs.toArray] w (Says w false) := by
  obtain ⟨v0, v1, v2, v3, rfl, h0, h1, h2, h3, h4, h5, h6, h7, h8, h9, h10, h11, h12, h13, h14, h15, h16, h17, h18, h19, h20⟩ := DScr.rep_iff.1 h
  have HM := Lib.hid (fun (W : World) (hb : Below w.heap.size w W) => (DGrid.rep_iff (w := W) (x := x.Main)).2 ⟨v0, rfl, h2, h3, h4.mono hb⟩)
  have HA := Lib.hid (fun (W : World) (hb : Below w.heap.size w W) => (DGrid.rep_iff (w := W) (x := x.Alt)).2 ⟨v1, rfl, h5, h6, h7.mono hb⟩)
  have H1 := Lib.hid (fun (W : World) => (DAttr.rep_iff (w := W) (x := x.A)).2 ⟨rfl, h10, h11⟩)
  have H2 := Lib.hid (fun (W : World) => (DAttr.rep_iff (w := W) (x := x.SaveA)).2 ⟨rfl, h16, h17⟩)
  have HT := Lib.hid h18
  have HK := Lib.hid h20
  obtain ⟨a0, n0, c0, rfl⟩ := h4.shape
  obtain ⟨a1, n1, c1, rfl⟩ := h7.shape
  obtain ⟨a3, c3, rfl, ⟨hl3, -⟩, -⟩ := h20
  obtain ⟨a2, n2, c2, rfl⟩ := h18.shape
  clear h h4 h7 h18 h2 h3 h5 h6 h10 h11 h16 h17
  have G1 := Lib.hid g1
  clear g1
  have G2 := Lib.hid g2
  clear g2
  go_enter Try.func27, Try.ntmps27
  go_wp2_with fail
  generalize hwb : World.alloc w _ = W0
  have HB0 := Lib.hid (show Below w.heap.size w W0 from by rw [← hwb]; exact bel_alloc (Below.refl _ _) _)
  have hz0 : w.heap.size < W0.heap.size := by rw [← hwb]; simp
  have hr0 : W0.heap[w.heap.size]? = some (.cells #[.int .i64 x.W, .int .i64 x.H, .int .i64 x.Main.W, .int .i64 x.Main.H, .slice a0 n0 c0, .int .i64 x.Alt.W, .int .i64 x.Alt.H, .slice a1 n1 c1, .bool x.OnAlt, .int .i64 x.X, .int .i64 x.Y, .bool x.Wrap, .int .i64 x.A.Fg, .int .i64 x.A.Bg, .bool x.A.Bold, .bool x.A.Under, .bool x.A.Turn, .int .i64 x.Top, .int .i64 x.Bot, .bool x.NoWrap, .bool x.Hide, .int .i64 x.SaveX, .int .i64 x.SaveY, .int .i64 x.SaveA.Fg, .int .i64 x.SaveA.Bg, .bool x.SaveA.Bold, .bool x.SaveA.Under, .bool x.SaveA.Turn, .slice a2 n2 c2, .int .i64 x.Limit, .slice a3 x.Back.length c3] 31 (0, 0)) := by rw [← hwb]; exact new_at _ _ rfl
  have b0 : W0.cell? ⟨w.heap.size, 0, none⟩ = some (.int .i64 x.W) := by simp only [World.cell?, hr0]; rfl
  have b1 : W0.cell? ⟨w.heap.size, 1, none⟩ = some (.int .i64 x.H) := by simp only [World.cell?, hr0]; rfl
  have b2 : W0.cell? ⟨w.heap.size, 2, none⟩ = some (.int .i64 x.Main.W) := by simp only [World.cell?, hr0]; rfl
  have b3 : W0.cell? ⟨w.heap.size, 3, none⟩ = some (.int .i64 x.Main.H) := by simp only [World.cell?, hr0]; rfl
  have b4 : W0.cell? ⟨w.heap.size, 4, none⟩ = some (.slice a0 n0 c0) := by simp only [World.cell?, hr0]; rfl
  have b5 : W0.cell? ⟨w.heap.size, 5, none⟩ = some (.int .i64 x.Alt.W) := by simp only [World.cell?, hr0]; rfl
  have b6 : W0.cell? ⟨w.heap.size, 6, none⟩ = some (.int .i64 x.Alt.H) := by simp only [World.cell?, hr0]; rfl
  have b7 : W0.cell? ⟨w.heap.size, 7, none⟩ = some (.slice a1 n1 c1) := by simp only [World.cell?, hr0]; rfl
  clear hwb hr0
  have HB := Lib.hid (Below.refl W0.heap.size W0)
  have kA := fun o => cell_of_heap (HB.out.block w.heap.size (by omega)) o
  go_wp2_with (first | (have _ := mkG; go_at_call 64; refine (spec_GridOk _ [_, _, _] x.Alt (HA.out _ (bel_next HB0.out HB.out))).mono ?_; rintro e W1 ⟨_, rfl, rfl, hb⟩; rw [G2.out]; have HB := Lib.hid (bel_next HB.out hb); clear hb kA; have kA := fun o => cell_of_heap (HB.out.block w.heap.size (by omega)) o) | (go_at_call 64; refine (spec_GridOk _ [_, _, _] x.Main (HM.out _ (bel_next HB0.out HB.out))).mono ?_; rintro e W1 ⟨_, rfl, rfl, hb⟩; rw [G1.out]; have HB := Lib.hid (bel_next HB.out hb); clear hb kA; have kA := fun o => cell_of_heap (HB.out.block w.heap.size (by omega)) o; have mkG : True := trivial))
  go_ret
  exact says_ret rfl (bel_next HB0.out HB.out)
theorem spec_ScrOk (w : World) (cs : List Value) (x : DScr) (h : Rep.rep w cs x) : Calls Try.prog 27 #[.agg cs.toArray] w (Says w (scrOkB x)) := by
  have ng1 : gridOkB x.Main = false → scrOkB x = false := fun h => scr_no fun hh => by have e := (scrOkB_true hh).2.2.2.2.1; rw [e] at h; cases h
  have ng2 : gridOkB x.Alt = false → scrOkB x = false := fun h => scr_no fun hh => by have e := (scrOkB_true hh).2.2.2.2.2.1; rw [e] at h; cases h
  have nw1 : (x.Main.W != x.W) = true → scrOkB x = false := fun h => scr_no fun hh => by have e := scrSize_true (scrOkB_true hh).2.2.2.2.2.2.1; simp [e] at h
  have nw2 : (x.Main.H != x.H) = true → scrOkB x = false := fun h => scr_no fun hh => by have e := scrSize_true (scrOkB_true hh).2.2.2.2.2.2.1; simp [e] at h
  have nw3 : (x.Alt.W != x.W) = true → scrOkB x = false := fun h => scr_no fun hh => by have e := scrSize_true (scrOkB_true hh).2.2.2.2.2.2.1; simp [e] at h
  have nw4 : (x.Alt.H != x.H) = true → scrOkB x = false := fun h => scr_no fun hh => by have e := scrSize_true (scrOkB_true hh).2.2.2.2.2.2.1; simp [e] at h
  rcases Bool.eq_false_or_eq_true (gridOkB x.Main) with g1 | g1
  rotate_left
  · rw [ng1 g1]; exact spec_ScrOk_bad1 w cs x h g1
  rcases Bool.eq_false_or_eq_true (gridOkB x.Alt) with g2 | g2
  rotate_left
  · rw [ng2 g2]; exact spec_ScrOk_bad2 w cs x h g1 g2
  rcases Bool.eq_false_or_eq_true (x.Main.W != x.W) with w1 | w1
  · rw [nw1 w1]; exact spec_ScrOk_bad3 w cs x h g1 g2 w1
  rcases Bool.eq_false_or_eq_true (x.Main.H != x.H) with w2 | w2
  · rw [nw2 w2]; exact spec_ScrOk_bad4 w cs x h g1 g2 w1 w2
  rcases Bool.eq_false_or_eq_true (x.Alt.W != x.W) with w3 | w3
  · rw [nw3 w3]; exact spec_ScrOk_bad5 w cs x h g1 g2 w1 w2 w3
  rcases Bool.eq_false_or_eq_true (x.Alt.H != x.H) with w4 | w4
  · rw [nw4 w4]; exact spec_ScrOk_bad6 w cs x h g1 g2 w1 w2 w3 w4
  exact spec_ScrOk_sized w cs x h g1 g2 (by unfold scrSize; simp only [Bool.and_eq_true, beq_iff_eq]; simp only [bne_eq_false_iff_eq] at w1 w2 w3 w4; exact ⟨⟨⟨w1, w2⟩, w3⟩, w4⟩)
end Go.Proofs.Ytaobgfneeijpmaa
