/- The walk of ScrOk, the program's. -/
import Derived.Test.YtaobgfneeijpmaaFnScr
import Derived.Test.YtaobgfneeijpmaaBig
set_option linter.unusedSimpArgs false
set_option linter.unusedVariables false
namespace Go.Mux
open Go.RowKit
theorem scrSize_true {x : DScr} (h : scrSize x = true) : x.Main.W = x.W ∧ x.Main.H = x.H ∧ x.Alt.W = x.W ∧ x.Alt.H = x.H := by
  unfold scrSize at h
  simp only [Bool.and_eq_true, beq_iff_eq] at h
  exact ⟨h.1.1.1, h.1.1.2, h.1.2, h.2⟩
theorem gridHas_of {x : DScr} (hs : scrSize x = true) {a b : Int} : gridHasB x.Main a b = true ↔ 0 ≤ a ∧ a < x.W ∧ 0 ≤ b ∧ b < x.H := by
  obtain ⟨e1, e2, _, _⟩ := scrSize_true hs
  unfold gridHasB
  rw [e1, e2, Bool.and_eq_true, withinB_true, withinB_true]
  omega
theorem scr_no {x : DScr} (h : scrOkB x = true → False) : scrOkB x = false := by
  cases e : scrOkB x
  · rfl
  · exact (h e).elim
theorem scrOkB_true {x : DScr} (h : scrOkB x = true) : gridHasB x.Main x.X x.Y = true ∧ gridHasB x.Main x.SaveX x.SaveY = true ∧ attrOkB x.A = true ∧ attrOkB x.SaveA = true ∧ gridOkB x.Main = true ∧ gridOkB x.Alt = true ∧ scrSize x = true ∧ x.Back.all rowOkB = true ∧
    0 ≤ x.X ∧ x.X < x.W ∧ 0 ≤ x.Y ∧ x.Y < x.H ∧ 0 ≤ x.SaveX ∧ x.SaveX < x.W ∧ 0 ≤ x.SaveY ∧ x.SaveY < x.H ∧ (x.Wrap = true → x.X = x.W - 1) ∧ 0 ≤ x.Top ∧ x.Top ≤ x.Bot ∧ x.Bot < x.H ∧ (x.Top = x.Bot → x.H = 1) ∧ ascB x.Tabs (x.W - 1) = true ∧ (0 ≤ x.Limit ∧ x.Limit ≤ 100 ∧ (x.Back.length : Int) ≤ x.Limit) := by
  unfold scrOkB scrNums at h
  simp only [Bool.and_eq_true, decide_eq_true_eq] at h
  obtain ⟨⟨⟨⟨⟨⟨⟨h1, h2⟩, h3⟩, h4⟩, h5⟩, p1, p2, p3, p4, p5, p6, p7, p8, p9, p10, p11, p12, p13, p14, p15, p16⟩, h7⟩, h8⟩ := h
  exact ⟨(gridHas_of h3).2 ⟨p1, p2, p3, p4⟩, (gridHas_of h3).2 ⟨p5, p6, p7, p8⟩, h4, h5, h1, h2, h3, h8, p1, p2, p3, p4, p5, p6, p7, p8, p9, p10, p11, p12, p13, h7, p14, p15, p16⟩
theorem scr_eq {x : DScr} {b : Bool} (h1 : gridOkB x.Main = true) (h2 : gridOkB x.Alt = true) (h3 : scrSize x = true) (q1 : gridHasB x.Main x.X x.Y = true) (q2 : gridHasB x.Main x.SaveX x.SaveY = true) (q3 : attrOkB x.A = true) (q4 : attrOkB x.SaveA = true)
    (p9 : x.Wrap = true → x.X = x.W - 1) (p10 : 0 ≤ x.Top) (p11 : x.Top ≤ x.Bot) (p12 : x.Bot < x.H) (p13 : x.Top = x.Bot → x.H = 1) (hb : b = (ascB x.Tabs (x.W - 1) && (withinB x.Limit 0 100 && (decide ((x.Back.length : Int) ≤ x.Limit) && x.Back.all rowOkB)))) : b = scrOkB x := by
  obtain ⟨r1, r2, r3, r4⟩ := (gridHas_of h3).1 q1
  obtain ⟨r5, r6, r7, r8⟩ := (gridHas_of h3).1 q2
  rw [hb]
  unfold scrOkB scrNums
  rw [Bool.eq_iff_iff]
  simp only [h1, h2, h3, q3, q4, Bool.true_and, Bool.and_eq_true, decide_eq_true_eq, withinB_true]
  constructor
  · rintro ⟨a, ⟨b1, b2⟩, c, d⟩
    exact ⟨⟨⟨r1, r2, r3, r4, r5, r6, r7, r8, p9, p10, p11, p12, p13, b1, b2, c⟩, a⟩, d⟩
  · rintro ⟨⟨⟨_, _, _, _, _, _, _, _, _, _, _, _, _, b1, b2, c⟩, a⟩, d⟩
    exact ⟨a, ⟨b1, b2⟩, c, d⟩
end Go.Mux
namespace Go.Proofs.Ytaobgfneeijpmaa
open Go.RowKit Go.Mux
set_option maxRecDepth 100000 in
set_option maxHeartbeats 4000000 in
theorem impl_ScrOk_good (w : World) (cs : List Value) (x : DScr) (h : Rep.rep w cs x) (hg1 : gridOkB x.Main = true) (hg2 : gridOkB x.Alt = true) (hs : scrSize x = true) : Calls Try.prog 23 #[.agg cs.toArray] w (Says w (scrOkB x)) := by
  obtain ⟨v0, v1, v2, v3, rfl, h0, h1, h2, h3, h4, h5, h6, h7, h8, h9, h10, h11, h12, h13, h14, h15, h16, h17, h18, h19, h20⟩ := DScr.rep_iff.1 h
  have HM := Lib.hid (fun (W : World) (hb : Below w.heap.size w W) => (DGrid.rep_iff (w := W) (x := x.Main)).2 ⟨v0, rfl, h2, h3, h4.mono hb⟩)
  have HA := Lib.hid (fun (W : World) (hb : Below w.heap.size w W) => (DGrid.rep_iff (w := W) (x := x.Alt)).2 ⟨v1, rfl, h5, h6, h7.mono hb⟩)
  have H1 := Lib.hid (fun (W : World) => (DAttr.rep_iff (w := W) (x := x.A)).2 ⟨rfl, h10, h11⟩)
  have H2 := Lib.hid (fun (W : World) => (DAttr.rep_iff (w := W) (x := x.SaveA)).2 ⟨rfl, h16, h17⟩)
  have HT := Lib.hid h18
  have HK := Lib.hid h20
  obtain ⟨a0, n0, c0, rfl⟩ := h4.shape
  obtain ⟨a1, n1, c1, rfl⟩ := h7.shape
  obtain ⟨a3, c3, rfl, ⟨hl3, -⟩, -⟩ := h20
  obtain ⟨a2, n2, c2, rfl⟩ := h18.shape
  clear h h4 h7 h18 h2 h3 h5 h6 h10 h11 h16 h17
  obtain ⟨s1, s2, s3, s4, _, _, _⟩ := gridOkB_size hg1
  have G1 := Lib.hid hg1
  have G2 := Lib.hid hg2
  clear hg1 hg2
  have HS1 := Lib.hid s1
  have HS3 := Lib.hid s3
  rw [(scrSize_true hs).1] at s1 s2
  rw [(scrSize_true hs).2.1] at s3 s4
  obtain ⟨e1, e2, e3, e4⟩ := scrSize_true hs
  simp only [e1, e2] at HM
  simp only [e3, e4] at HA
  simp only [e1, e2, e3, e4]
  have HS := Lib.hid hs
  clear hs e1 e2 e3 e4
  go_enter Try.func23, Try.ntmps23
  go_wp2_with fail
  generalize hwb : World.alloc (World.alloc w _) _ = W0
  have HB0 := Lib.hid (show Below w.heap.size w W0 from by rw [← hwb]; exact bel_alloc (bel_alloc (Below.refl _ _) _) _)
  have hz0 : w.heap.size + 1 < W0.heap.size := by rw [← hwb]; simp
  have hr0 : W0.heap[w.heap.size]? = some (.cells #[.int .i64 x.W, .int .i64 x.H, .int .i64 x.W, .int .i64 x.H, .slice a0 n0 c0, .int .i64 x.W, .int .i64 x.H, .slice a1 n1 c1, .bool x.OnAlt, .int .i64 x.X, .int .i64 x.Y, .bool x.Wrap, .int .i64 x.A.Fg, .int .i64 x.A.Bg, .bool x.A.Bold, .bool x.A.Under, .bool x.A.Turn, .int .i64 x.Top, .int .i64 x.Bot, .bool x.NoWrap, .bool x.Hide, .int .i64 x.SaveX, .int .i64 x.SaveY, .int .i64 x.SaveA.Fg, .int .i64 x.SaveA.Bg, .bool x.SaveA.Bold, .bool x.SaveA.Under, .bool x.SaveA.Turn, .slice a2 n2 c2, .int .i64 x.Limit, .slice a3 x.Back.length c3] 31 (0, 0)) := by rw [← hwb]; exact (Below.heap_alloc _ _ _ (by simp)).trans (new_at _ _ rfl)
  have hr1 : W0.heap[w.heap.size + 1]? = some (.cells #[.int .i64 x.W, .int .i64 x.H, .slice a0 n0 c0, .int .i64 x.W, .int .i64 x.H, .slice a1 n1 c1] 25 (0, 0)) := by rw [← hwb]; exact new_at _ _ (by simp)
  have e0 : W0.cell? ⟨w.heap.size + 1, 0, none⟩ = some (.int .i64 x.W) := by simp only [World.cell?, hr1]; rfl
  have e1 : W0.cell? ⟨w.heap.size + 1, 1, none⟩ = some (.int .i64 x.H) := by simp only [World.cell?, hr1]; rfl
  have e2 : W0.cell? ⟨w.heap.size + 1, 2, none⟩ = some (.slice a0 n0 c0) := by simp only [World.cell?, hr1]; rfl
  have e3 : W0.cell? ⟨w.heap.size + 1, 3, none⟩ = some (.int .i64 x.W) := by simp only [World.cell?, hr1]; rfl
  have e4 : W0.cell? ⟨w.heap.size + 1, 4, none⟩ = some (.int .i64 x.H) := by simp only [World.cell?, hr1]; rfl
  have e5 : W0.cell? ⟨w.heap.size + 1, 5, none⟩ = some (.slice a1 n1 c1) := by simp only [World.cell?, hr1]; rfl
  have b0 : W0.cell? ⟨w.heap.size, 0, none⟩ = some (.int .i64 x.W) := by simp only [World.cell?, hr0]; rfl
  have b1 : W0.cell? ⟨w.heap.size, 1, none⟩ = some (.int .i64 x.H) := by simp only [World.cell?, hr0]; rfl
  have b2 : W0.cell? ⟨w.heap.size, 2, none⟩ = some (.int .i64 x.W) := by simp only [World.cell?, hr0]; rfl
  have b3 : W0.cell? ⟨w.heap.size, 3, none⟩ = some (.int .i64 x.H) := by simp only [World.cell?, hr0]; rfl
  have b4 : W0.cell? ⟨w.heap.size, 4, none⟩ = some (.slice a0 n0 c0) := by simp only [World.cell?, hr0]; rfl
  have b5 : W0.cell? ⟨w.heap.size, 5, none⟩ = some (.int .i64 x.W) := by simp only [World.cell?, hr0]; rfl
  have b6 : W0.cell? ⟨w.heap.size, 6, none⟩ = some (.int .i64 x.H) := by simp only [World.cell?, hr0]; rfl
  have b7 : W0.cell? ⟨w.heap.size, 7, none⟩ = some (.slice a1 n1 c1) := by simp only [World.cell?, hr0]; rfl
  have b8 : W0.cell? ⟨w.heap.size, 8, none⟩ = some (.bool x.OnAlt) := by simp only [World.cell?, hr0]; rfl
  have b9 : W0.cell? ⟨w.heap.size, 9, none⟩ = some (.int .i64 x.X) := by simp only [World.cell?, hr0]; rfl
  have b10 : W0.cell? ⟨w.heap.size, 10, none⟩ = some (.int .i64 x.Y) := by simp only [World.cell?, hr0]; rfl
  have b11 : W0.cell? ⟨w.heap.size, 11, none⟩ = some (.bool x.Wrap) := by simp only [World.cell?, hr0]; rfl
  have b12 : W0.cell? ⟨w.heap.size, 12, none⟩ = some (.int .i64 x.A.Fg) := by simp only [World.cell?, hr0]; rfl
  have b13 : W0.cell? ⟨w.heap.size, 13, none⟩ = some (.int .i64 x.A.Bg) := by simp only [World.cell?, hr0]; rfl
  have b14 : W0.cell? ⟨w.heap.size, 14, none⟩ = some (.bool x.A.Bold) := by simp only [World.cell?, hr0]; rfl
  have b15 : W0.cell? ⟨w.heap.size, 15, none⟩ = some (.bool x.A.Under) := by simp only [World.cell?, hr0]; rfl
  have b16 : W0.cell? ⟨w.heap.size, 16, none⟩ = some (.bool x.A.Turn) := by simp only [World.cell?, hr0]; rfl
  have b17 : W0.cell? ⟨w.heap.size, 17, none⟩ = some (.int .i64 x.Top) := by simp only [World.cell?, hr0]; rfl
  have b18 : W0.cell? ⟨w.heap.size, 18, none⟩ = some (.int .i64 x.Bot) := by simp only [World.cell?, hr0]; rfl
  have b19 : W0.cell? ⟨w.heap.size, 19, none⟩ = some (.bool x.NoWrap) := by simp only [World.cell?, hr0]; rfl
  have b20 : W0.cell? ⟨w.heap.size, 20, none⟩ = some (.bool x.Hide) := by simp only [World.cell?, hr0]; rfl
  have b21 : W0.cell? ⟨w.heap.size, 21, none⟩ = some (.int .i64 x.SaveX) := by simp only [World.cell?, hr0]; rfl
  have b22 : W0.cell? ⟨w.heap.size, 22, none⟩ = some (.int .i64 x.SaveY) := by simp only [World.cell?, hr0]; rfl
  have b23 : W0.cell? ⟨w.heap.size, 23, none⟩ = some (.int .i64 x.SaveA.Fg) := by simp only [World.cell?, hr0]; rfl
  have b24 : W0.cell? ⟨w.heap.size, 24, none⟩ = some (.int .i64 x.SaveA.Bg) := by simp only [World.cell?, hr0]; rfl
  have b25 : W0.cell? ⟨w.heap.size, 25, none⟩ = some (.bool x.SaveA.Bold) := by simp only [World.cell?, hr0]; rfl
  have b26 : W0.cell? ⟨w.heap.size, 26, none⟩ = some (.bool x.SaveA.Under) := by simp only [World.cell?, hr0]; rfl
  have b27 : W0.cell? ⟨w.heap.size, 27, none⟩ = some (.bool x.SaveA.Turn) := by simp only [World.cell?, hr0]; rfl
  have b28 : W0.cell? ⟨w.heap.size, 28, none⟩ = some (.slice a2 n2 c2) := by simp only [World.cell?, hr0]; rfl
  have b29 : W0.cell? ⟨w.heap.size, 29, none⟩ = some (.int .i64 x.Limit) := by simp only [World.cell?, hr0]; rfl
  have b30 : W0.cell? ⟨w.heap.size, 30, none⟩ = some (.slice a3 x.Back.length c3) := by simp only [World.cell?, hr0]; rfl
  clear hwb hr0 hr1
  go_loopw [11] (fun i wr => ∃ k : Nat, k ≤ 2 ∧ i = .int .i64 k ∧ Hid (Below W0.heap.size W0 wr)) (fun i _ => 2 - (intOf i).toNat)
  case atStart => exact ⟨0, by omega, rfl, Below.refl _ _⟩
  case round =>
    obtain ⟨k, hk, rfl, HB⟩ := hrel
    have kA := fun o => cell_of_heap (HB.out.block w.heap.size (by omega)) o
    have kE := fun o => cell_of_heap (HB.out.block (w.heap.size + 1) (by omega)) o
    rcases (show k = 0 ∨ k = 1 ∨ k = 2 by omega) with rfl | rfl | rfl
    · go_wp2_with (go_at_call 30; refine (impl_GridOk _ [_, _, _] x.Main (HM.out _ (bel_next HB0.out (bel_alloc HB.out _)))).mono ?_; rintro e W1 ⟨_, rfl, rfl, hb⟩; rw [G1.out]; have kG := (fun o => cell_of_heap (hb.block wr.heap.size (by simp)) o); have HB := Lib.hid (bel_next (bel_alloc HB.out _) hb); clear hb kA kE; have kA := fun o => cell_of_heap (HB.out.block w.heap.size (by omega)) o; have kE := fun o => cell_of_heap (HB.out.block (w.heap.size + 1) (by omega)) o)
      go_roundw
      case rel => exact ⟨1, by omega, by go_num, HB.out⟩
      case measure => simp [intOf]
    · go_wp2_with (go_at_call 30; refine (impl_GridOk _ [_, _, _] x.Alt (HA.out _ (bel_next HB0.out (bel_alloc HB.out _)))).mono ?_; rintro e W1 ⟨_, rfl, rfl, hb⟩; rw [G2.out]; have kG := (fun o => cell_of_heap (hb.block wr.heap.size (by simp)) o); have HB := Lib.hid (bel_next (bel_alloc HB.out _) hb); clear hb kA kE; have kA := fun o => cell_of_heap (HB.out.block w.heap.size (by omega)) o; have kE := fun o => cell_of_heap (HB.out.block (w.heap.size + 1) (by omega)) o)
      go_roundw
      case rel => exact ⟨2, by omega, by go_num, HB.out⟩
      case measure => simp [intOf]
    · clear kE
      go_wp2_with (first | (go_at_call 31; refine (impl_Grid_has _ [_, _, _] x.Main _ _ (HM.out _ (bel_next HB0.out HB.out)) HS1.out HS3.out).mono ?_; rintro e W1 ⟨_, rfl, rfl, hb⟩; have HB := Lib.hid (bel_next HB.out hb); clear hb kA; have kA := fun o => cell_of_heap (HB.out.block w.heap.size (by omega)) o) | (have _ := mkA; go_at_call 58; refine (impl_AttrOk _ [_, _, _, _, _] x.SaveA (H2.out _)).mono ?_; rintro e W1 ⟨_, rfl, rfl, hb⟩; have HB := Lib.hid (bel_next HB.out hb); clear hb kA; have kA := fun o => cell_of_heap (HB.out.block w.heap.size (by omega)) o) | (go_at_call 58; refine (impl_AttrOk _ [_, _, _, _, _] x.A (H1.out _)).mono ?_; rintro e W1 ⟨_, rfl, rfl, hb⟩; have HB := Lib.hid (bel_next HB.out hb); clear hb kA; have kA := fun o => cell_of_heap (HB.out.block w.heap.size (by omega)) o; have mkA : True := trivial) | (go_at_call 59; refine (impl_isAscending _ _ x.Tabs _ (HT.out.mono (bel_next HB0.out HB.out))).mono ?_; rintro e W1 ⟨_, rfl, rfl, hb⟩; have HB := Lib.hid (bel_next HB.out hb); clear hb kA; have kA := fun o => cell_of_heap (HB.out.block w.heap.size (by omega)) o) | (go_at_call 60; refine (impl_within _ _ _ _).mono ?_; rintro e w' ⟨rfl, rfl⟩) | (go_at_call 61; refine (impl_backOk _ _ x.Back _ (HK.out.mono (bel_next HB0.out HB.out))).mono ?_; rintro e W1 ⟨_, rfl, rfl, hb⟩; have HB := Lib.hid (bel_next HB.out hb); clear hb kA; have kA := fun o => cell_of_heap (HB.out.block w.heap.size (by omega)) o))
      all_goals first
        | (go_ret; exact says_ret (scr_no (fun hh => by (obtain ⟨q1, q2, q3, q4, q5, q6, q7, q8, q9, q10, q11, q12, q13, q14, q15, q16, q17, q18, q19, q20, q21, q22, q23⟩ := scrOkB_true hh; first | omega | exact absurd q1 (by assumption) | exact absurd q2 (by assumption) | exact absurd q3 (by assumption) | (have h : (!attrOkB x.SaveA) = true := (by assumption); rw [q4] at h; cases h) | (have := q17 (by assumption); omega) | (rcases (by assumption : (x.Bot < 0 ∨ x.H ≤ x.Bot) ∨ (x.H != 1) = true) with h | h <;> first | omega | (have e := q21 (by omega); rw [e] at h; cases h))))).symm (bel_next HB0.out HB.out))
        | (go_ret; exact says_ret (scr_eq G1.out G2.out HS.out (by assumption) (by assumption) (by assumption) (by have h : (!attrOkB x.SaveA) = false := (by assumption); simpa using h) (by first | (intro _; assumption) | (intro hw; exact absurd hw (by assumption))) (by omega) (by omega) (by omega) (by first | (intro hw; omega) | (intro _; have h := (by assumption : (0 ≤ x.Bot ∧ x.Bot < x.H) ∧ (x.H != 1) = false).2; simpa using h)) (by first | (simp only [Bool.eq_false_iff.2 (by assumption : ¬ascB x.Tabs (x.W - 1) = true), Bool.false_and]; (try rfl); done) | (simp only [(by assumption : ascB x.Tabs (x.W - 1) = true), Bool.eq_false_iff.2 (by assumption : ¬withinB x.Limit 0 100 = true), Bool.false_and, Bool.and_false]; (try rfl); done) | (simp only [(by assumption : ascB x.Tabs (x.W - 1) = true), (by assumption : withinB x.Limit 0 100 = true), Bool.true_and]; (try rfl); done))) (bel_next HB0.out HB.out))
set_option maxRecDepth 100000 in
set_option maxHeartbeats 1000000 in
theorem impl_ScrOk_bad1 (w : World) (cs : List Value) (x : DScr) (h : Rep.rep w cs x) (g1 : gridOkB x.Main = false) : Calls Try.prog 23 #[.agg cs.toArray] w (Says w false) := by
  obtain ⟨v0, v1, v2, v3, rfl, h0, h1, h2, h3, h4, h5, h6, h7, h8, h9, h10, h11, h12, h13, h14, h15, h16, h17, h18, h19, h20⟩ := DScr.rep_iff.1 h
  have HM := Lib.hid (fun (W : World) (hb : Below w.heap.size w W) => (DGrid.rep_iff (w := W) (x := x.Main)).2 ⟨v0, rfl, h2, h3, h4.mono hb⟩)
  have HA := Lib.hid (fun (W : World) (hb : Below w.heap.size w W) => (DGrid.rep_iff (w := W) (x := x.Alt)).2 ⟨v1, rfl, h5, h6, h7.mono hb⟩)
  have H1 := Lib.hid (fun (W : World) => (DAttr.rep_iff (w := W) (x := x.A)).2 ⟨rfl, h10, h11⟩)
  have H2 := Lib.hid (fun (W : World) => (DAttr.rep_iff (w := W) (x := x.SaveA)).2 ⟨rfl, h16, h17⟩)
  have HT := Lib.hid h18
  have HK := Lib.hid h20
  obtain ⟨a0, n0, c0, rfl⟩ := h4.shape
  obtain ⟨a1, n1, c1, rfl⟩ := h7.shape
  obtain ⟨a3, c3, rfl, ⟨hl3, -⟩, -⟩ := h20
  obtain ⟨a2, n2, c2, rfl⟩ := h18.shape
  clear h h4 h7 h18 h2 h3 h5 h6 h10 h11 h16 h17
  have G1 := Lib.hid g1
  clear g1
  go_enter Try.func23, Try.ntmps23
  go_wp2_with fail
  generalize hwb : World.alloc (World.alloc w _) _ = W0
  have HB0 := Lib.hid (show Below w.heap.size w W0 from by rw [← hwb]; exact bel_alloc (bel_alloc (Below.refl _ _) _) _)
  have hz0 : w.heap.size + 1 < W0.heap.size := by rw [← hwb]; simp
  have hr0 : W0.heap[w.heap.size]? = some (.cells #[.int .i64 x.W, .int .i64 x.H, .int .i64 x.Main.W, .int .i64 x.Main.H, .slice a0 n0 c0, .int .i64 x.Alt.W, .int .i64 x.Alt.H, .slice a1 n1 c1, .bool x.OnAlt, .int .i64 x.X, .int .i64 x.Y, .bool x.Wrap, .int .i64 x.A.Fg, .int .i64 x.A.Bg, .bool x.A.Bold, .bool x.A.Under, .bool x.A.Turn, .int .i64 x.Top, .int .i64 x.Bot, .bool x.NoWrap, .bool x.Hide, .int .i64 x.SaveX, .int .i64 x.SaveY, .int .i64 x.SaveA.Fg, .int .i64 x.SaveA.Bg, .bool x.SaveA.Bold, .bool x.SaveA.Under, .bool x.SaveA.Turn, .slice a2 n2 c2, .int .i64 x.Limit, .slice a3 x.Back.length c3] 31 (0, 0)) := by rw [← hwb]; exact (Below.heap_alloc _ _ _ (by simp)).trans (new_at _ _ rfl)
  have hr1 : W0.heap[w.heap.size + 1]? = some (.cells #[.int .i64 x.Main.W, .int .i64 x.Main.H, .slice a0 n0 c0, .int .i64 x.Alt.W, .int .i64 x.Alt.H, .slice a1 n1 c1] 25 (0, 0)) := by rw [← hwb]; exact new_at _ _ (by simp)
  have e0 : W0.cell? ⟨w.heap.size + 1, 0, none⟩ = some (.int .i64 x.Main.W) := by simp only [World.cell?, hr1]; rfl
  have e1 : W0.cell? ⟨w.heap.size + 1, 1, none⟩ = some (.int .i64 x.Main.H) := by simp only [World.cell?, hr1]; rfl
  have e2 : W0.cell? ⟨w.heap.size + 1, 2, none⟩ = some (.slice a0 n0 c0) := by simp only [World.cell?, hr1]; rfl
  have e3 : W0.cell? ⟨w.heap.size + 1, 3, none⟩ = some (.int .i64 x.Alt.W) := by simp only [World.cell?, hr1]; rfl
  have e4 : W0.cell? ⟨w.heap.size + 1, 4, none⟩ = some (.int .i64 x.Alt.H) := by simp only [World.cell?, hr1]; rfl
  have e5 : W0.cell? ⟨w.heap.size + 1, 5, none⟩ = some (.slice a1 n1 c1) := by simp only [World.cell?, hr1]; rfl
  have b0 : W0.cell? ⟨w.heap.size, 0, none⟩ = some (.int .i64 x.W) := by simp only [World.cell?, hr0]; rfl
  have b1 : W0.cell? ⟨w.heap.size, 1, none⟩ = some (.int .i64 x.H) := by simp only [World.cell?, hr0]; rfl
  clear hwb hr0 hr1
  go_loopw [11] (fun i wr => ∃ k : Nat, k ≤ 0 ∧ i = .int .i64 k ∧ Hid (Below W0.heap.size W0 wr)) (fun i _ => 0 - (intOf i).toNat)
  case atStart => exact ⟨0, by omega, rfl, Below.refl _ _⟩
  case round =>
    obtain ⟨k, hk, rfl, HB⟩ := hrel
    have kA := fun o => cell_of_heap (HB.out.block w.heap.size (by omega)) o
    have kE := fun o => cell_of_heap (HB.out.block (w.heap.size + 1) (by omega)) o
    obtain rfl : k = 0 := by omega
    go_wp2_with (go_at_call 30; refine (impl_GridOk _ [_, _, _] x.Main (HM.out _ (bel_next HB0.out (bel_alloc HB.out _)))).mono ?_; rintro e W1 ⟨_, rfl, rfl, hb⟩; rw [G1.out]; have kG := (fun o => cell_of_heap (hb.block wr.heap.size (by simp)) o); have HB := Lib.hid (bel_next (bel_alloc HB.out _) hb); clear hb kA kE; have kA := fun o => cell_of_heap (HB.out.block w.heap.size (by omega)) o; have kE := fun o => cell_of_heap (HB.out.block (w.heap.size + 1) (by omega)) o)
    go_ret
    exact says_ret rfl (bel_next HB0.out HB.out)
set_option maxRecDepth 100000 in
set_option maxHeartbeats 1000000 in
theorem impl_ScrOk_bad2 (w : World) (cs : List Value) (x : DScr) (h : Rep.rep w cs x) (g1 : gridOkB x.Main = true) (w1 : (x.Main.W != x.W) = true) : Calls Try.prog 23 #[.agg cs.toArray] w (Says w false) := by
  obtain ⟨v0, v1, v2, v3, rfl, h0, h1, h2, h3, h4, h5, h6, h7, h8, h9, h10, h11, h12, h13, h14, h15, h16, h17, h18, h19, h20⟩ := DScr.rep_iff.1 h
  have HM := Lib.hid (fun (W : World) (hb : Below w.heap.size w W) => (DGrid.rep_iff (w := W) (x := x.Main)).2 ⟨v0, rfl, h2, h3, h4.mono hb⟩)
  have HA := Lib.hid (fun (W : World) (hb : Below w.heap.size w W) => (DGrid.rep_iff (w := W) (x := x.Alt)).2 ⟨v1, rfl, h5, h6, h7.mono hb⟩)
  have H1 := Lib.hid (fun (W : World) => (DAttr.rep_iff (w := W) (x := x.A)).2 ⟨rfl, h10, h11⟩)
  have H2 := Lib.hid (fun (W : World) => (DAttr.rep_iff (w := W) (x := x.SaveA)).2 ⟨rfl, h16, h17⟩)
  have HT := Lib.hid h18
  have HK := Lib.hid h20
  obtain ⟨a0, n0, c0, rfl⟩ := h4.shape
  obtain ⟨a1, n1, c1, rfl⟩ := h7.shape
  obtain ⟨a3, c3, rfl, ⟨hl3, -⟩, -⟩ := h20
  obtain ⟨a2, n2, c2, rfl⟩ := h18.shape
  clear h h4 h7 h18 h2 h3 h5 h6 h10 h11 h16 h17
  have G1 := Lib.hid g1
  clear g1
  go_enter Try.func23, Try.ntmps23
  go_wp2_with fail
  generalize hwb : World.alloc (World.alloc w _) _ = W0
  have HB0 := Lib.hid (show Below w.heap.size w W0 from by rw [← hwb]; exact bel_alloc (bel_alloc (Below.refl _ _) _) _)
  have hz0 : w.heap.size + 1 < W0.heap.size := by rw [← hwb]; simp
  have hr0 : W0.heap[w.heap.size]? = some (.cells #[.int .i64 x.W, .int .i64 x.H, .int .i64 x.Main.W, .int .i64 x.Main.H, .slice a0 n0 c0, .int .i64 x.Alt.W, .int .i64 x.Alt.H, .slice a1 n1 c1, .bool x.OnAlt, .int .i64 x.X, .int .i64 x.Y, .bool x.Wrap, .int .i64 x.A.Fg, .int .i64 x.A.Bg, .bool x.A.Bold, .bool x.A.Under, .bool x.A.Turn, .int .i64 x.Top, .int .i64 x.Bot, .bool x.NoWrap, .bool x.Hide, .int .i64 x.SaveX, .int .i64 x.SaveY, .int .i64 x.SaveA.Fg, .int .i64 x.SaveA.Bg, .bool x.SaveA.Bold, .bool x.SaveA.Under, .bool x.SaveA.Turn, .slice a2 n2 c2, .int .i64 x.Limit, .slice a3 x.Back.length c3] 31 (0, 0)) := by rw [← hwb]; exact (Below.heap_alloc _ _ _ (by simp)).trans (new_at _ _ rfl)
  have hr1 : W0.heap[w.heap.size + 1]? = some (.cells #[.int .i64 x.Main.W, .int .i64 x.Main.H, .slice a0 n0 c0, .int .i64 x.Alt.W, .int .i64 x.Alt.H, .slice a1 n1 c1] 25 (0, 0)) := by rw [← hwb]; exact new_at _ _ (by simp)
  have e0 : W0.cell? ⟨w.heap.size + 1, 0, none⟩ = some (.int .i64 x.Main.W) := by simp only [World.cell?, hr1]; rfl
  have e1 : W0.cell? ⟨w.heap.size + 1, 1, none⟩ = some (.int .i64 x.Main.H) := by simp only [World.cell?, hr1]; rfl
  have e2 : W0.cell? ⟨w.heap.size + 1, 2, none⟩ = some (.slice a0 n0 c0) := by simp only [World.cell?, hr1]; rfl
  have e3 : W0.cell? ⟨w.heap.size + 1, 3, none⟩ = some (.int .i64 x.Alt.W) := by simp only [World.cell?, hr1]; rfl
  have e4 : W0.cell? ⟨w.heap.size + 1, 4, none⟩ = some (.int .i64 x.Alt.H) := by simp only [World.cell?, hr1]; rfl
  have e5 : W0.cell? ⟨w.heap.size + 1, 5, none⟩ = some (.slice a1 n1 c1) := by simp only [World.cell?, hr1]; rfl
  have b0 : W0.cell? ⟨w.heap.size, 0, none⟩ = some (.int .i64 x.W) := by simp only [World.cell?, hr0]; rfl
  have b1 : W0.cell? ⟨w.heap.size, 1, none⟩ = some (.int .i64 x.H) := by simp only [World.cell?, hr0]; rfl
  clear hwb hr0 hr1
  go_loopw [11] (fun i wr => ∃ k : Nat, k ≤ 0 ∧ i = .int .i64 k ∧ Hid (Below W0.heap.size W0 wr)) (fun i _ => 0 - (intOf i).toNat)
  case atStart => exact ⟨0, by omega, rfl, Below.refl _ _⟩
  case round =>
    obtain ⟨k, hk, rfl, HB⟩ := hrel
    have kA := fun o => cell_of_heap (HB.out.block w.heap.size (by omega)) o
    have kE := fun o => cell_of_heap (HB.out.block (w.heap.size + 1) (by omega)) o
    obtain rfl : k = 0 := by omega
    go_wp2_with (go_at_call 30; refine (impl_GridOk _ [_, _, _] x.Main (HM.out _ (bel_next HB0.out (bel_alloc HB.out _)))).mono ?_; rintro e W1 ⟨_, rfl, rfl, hb⟩; rw [G1.out]; have kG := (fun o => cell_of_heap (hb.block wr.heap.size (by simp)) o); have HB := Lib.hid (bel_next (bel_alloc HB.out _) hb); clear hb kA kE; have kA := fun o => cell_of_heap (HB.out.block w.heap.size (by omega)) o; have kE := fun o => cell_of_heap (HB.out.block (w.heap.size + 1) (by omega)) o)
    go_ret
    exact says_ret rfl (bel_next HB0.out HB.out)
set_option maxRecDepth 100000 in
set_option maxHeartbeats 1000000 in
theorem impl_ScrOk_bad3 (w : World) (cs : List Value) (x : DScr) (h : Rep.rep w cs x) (g1 : gridOkB x.Main = true) (w1 : (x.Main.W != x.W) = false) (w2 : (x.Main.H != x.H) = true) : Calls Try.prog 23 #[.agg cs.toArray] w (Says w false) := by
  obtain ⟨v0, v1, v2, v3, rfl, h0, h1, h2, h3, h4, h5, h6, h7, h8, h9, h10, h11, h12, h13, h14, h15, h16, h17, h18, h19, h20⟩ := DScr.rep_iff.1 h
  have HM := Lib.hid (fun (W : World) (hb : Below w.heap.size w W) => (DGrid.rep_iff (w := W) (x := x.Main)).2 ⟨v0, rfl, h2, h3, h4.mono hb⟩)
  have HA := Lib.hid (fun (W : World) (hb : Below w.heap.size w W) => (DGrid.rep_iff (w := W) (x := x.Alt)).2 ⟨v1, rfl, h5, h6, h7.mono hb⟩)
  have H1 := Lib.hid (fun (W : World) => (DAttr.rep_iff (w := W) (x := x.A)).2 ⟨rfl, h10, h11⟩)
  have H2 := Lib.hid (fun (W : World) => (DAttr.rep_iff (w := W) (x := x.SaveA)).2 ⟨rfl, h16, h17⟩)
  have HT := Lib.hid h18
  have HK := Lib.hid h20
  obtain ⟨a0, n0, c0, rfl⟩ := h4.shape
  obtain ⟨a1, n1, c1, rfl⟩ := h7.shape
  obtain ⟨a3, c3, rfl, ⟨hl3, -⟩, -⟩ := h20
  obtain ⟨a2, n2, c2, rfl⟩ := h18.shape
  clear h h4 h7 h18 h2 h3 h5 h6 h10 h11 h16 h17
  have G1 := Lib.hid g1
  clear g1
  go_enter Try.func23, Try.ntmps23
  go_wp2_with fail
  generalize hwb : World.alloc (World.alloc w _) _ = W0
  have HB0 := Lib.hid (show Below w.heap.size w W0 from by rw [← hwb]; exact bel_alloc (bel_alloc (Below.refl _ _) _) _)
  have hz0 : w.heap.size + 1 < W0.heap.size := by rw [← hwb]; simp
  have hr0 : W0.heap[w.heap.size]? = some (.cells #[.int .i64 x.W, .int .i64 x.H, .int .i64 x.Main.W, .int .i64 x.Main.H, .slice a0 n0 c0, .int .i64 x.Alt.W, .int .i64 x.Alt.H, .slice a1 n1 c1, .bool x.OnAlt, .int .i64 x.X, .int .i64 x.Y, .bool x.Wrap, .int .i64 x.A.Fg, .int .i64 x.A.Bg, .bool x.A.Bold, .bool x.A.Under, .bool x.A.Turn, .int .i64 x.Top, .int .i64 x.Bot, .bool x.NoWrap, .bool x.Hide, .int .i64 x.SaveX, .int .i64 x.SaveY, .int .i64 x.SaveA.Fg, .int .i64 x.SaveA.Bg, .bool x.SaveA.Bold, .bool x.SaveA.Under, .bool x.SaveA.Turn, .slice a2 n2 c2, .int .i64 x.Limit, .slice a3 x.Back.length c3] 31 (0, 0)) := by rw [← hwb]; exact (Below.heap_alloc _ _ _ (by simp)).trans (new_at _ _ rfl)
  have hr1 : W0.heap[w.heap.size + 1]? = some (.cells #[.int .i64 x.Main.W, .int .i64 x.Main.H, .slice a0 n0 c0, .int .i64 x.Alt.W, .int .i64 x.Alt.H, .slice a1 n1 c1] 25 (0, 0)) := by rw [← hwb]; exact new_at _ _ (by simp)
  have e0 : W0.cell? ⟨w.heap.size + 1, 0, none⟩ = some (.int .i64 x.Main.W) := by simp only [World.cell?, hr1]; rfl
  have e1 : W0.cell? ⟨w.heap.size + 1, 1, none⟩ = some (.int .i64 x.Main.H) := by simp only [World.cell?, hr1]; rfl
  have e2 : W0.cell? ⟨w.heap.size + 1, 2, none⟩ = some (.slice a0 n0 c0) := by simp only [World.cell?, hr1]; rfl
  have e3 : W0.cell? ⟨w.heap.size + 1, 3, none⟩ = some (.int .i64 x.Alt.W) := by simp only [World.cell?, hr1]; rfl
  have e4 : W0.cell? ⟨w.heap.size + 1, 4, none⟩ = some (.int .i64 x.Alt.H) := by simp only [World.cell?, hr1]; rfl
  have e5 : W0.cell? ⟨w.heap.size + 1, 5, none⟩ = some (.slice a1 n1 c1) := by simp only [World.cell?, hr1]; rfl
  have b0 : W0.cell? ⟨w.heap.size, 0, none⟩ = some (.int .i64 x.W) := by simp only [World.cell?, hr0]; rfl
  have b1 : W0.cell? ⟨w.heap.size, 1, none⟩ = some (.int .i64 x.H) := by simp only [World.cell?, hr0]; rfl
  clear hwb hr0 hr1
  go_loopw [11] (fun i wr => ∃ k : Nat, k ≤ 0 ∧ i = .int .i64 k ∧ Hid (Below W0.heap.size W0 wr)) (fun i _ => 0 - (intOf i).toNat)
  case atStart => exact ⟨0, by omega, rfl, Below.refl _ _⟩
  case round =>
    obtain ⟨k, hk, rfl, HB⟩ := hrel
    have kA := fun o => cell_of_heap (HB.out.block w.heap.size (by omega)) o
    have kE := fun o => cell_of_heap (HB.out.block (w.heap.size + 1) (by omega)) o
    obtain rfl : k = 0 := by omega
    go_wp2_with (go_at_call 30; refine (impl_GridOk _ [_, _, _] x.Main (HM.out _ (bel_next HB0.out (bel_alloc HB.out _)))).mono ?_; rintro e W1 ⟨_, rfl, rfl, hb⟩; rw [G1.out]; have kG := (fun o => cell_of_heap (hb.block wr.heap.size (by simp)) o); have HB := Lib.hid (bel_next (bel_alloc HB.out _) hb); clear hb kA kE; have kA := fun o => cell_of_heap (HB.out.block w.heap.size (by omega)) o; have kE := fun o => cell_of_heap (HB.out.block (w.heap.size + 1) (by omega)) o)
    go_ret
    exact says_ret rfl (bel_next HB0.out HB.out)
set_option maxRecDepth 100000 in
set_option maxHeartbeats 1000000 in
theorem impl_ScrOk_bad4 (w : World) (cs : List Value) (x : DScr) (h : Rep.rep w cs x) (g1 : gridOkB x.Main = true) (w1 : (x.Main.W != x.W) = false) (w2 : (x.Main.H != x.H) = false) (g2 : gridOkB x.Alt = false) : Calls Try.prog 23 #[.agg cs.toArray] w (Says w false) := by
  obtain ⟨v0, v1, v2, v3, rfl, h0, h1, h2, h3, h4, h5, h6, h7, h8, h9, h10, h11, h12, h13, h14, h15, h16, h17, h18, h19, h20⟩ := DScr.rep_iff.1 h
  have HM := Lib.hid (fun (W : World) (hb : Below w.heap.size w W) => (DGrid.rep_iff (w := W) (x := x.Main)).2 ⟨v0, rfl, h2, h3, h4.mono hb⟩)
  have HA := Lib.hid (fun (W : World) (hb : Below w.heap.size w W) => (DGrid.rep_iff (w := W) (x := x.Alt)).2 ⟨v1, rfl, h5, h6, h7.mono hb⟩)
  have H1 := Lib.hid (fun (W : World) => (DAttr.rep_iff (w := W) (x := x.A)).2 ⟨rfl, h10, h11⟩)
  have H2 := Lib.hid (fun (W : World) => (DAttr.rep_iff (w := W) (x := x.SaveA)).2 ⟨rfl, h16, h17⟩)
  have HT := Lib.hid h18
  have HK := Lib.hid h20
  obtain ⟨a0, n0, c0, rfl⟩ := h4.shape
  obtain ⟨a1, n1, c1, rfl⟩ := h7.shape
  obtain ⟨a3, c3, rfl, ⟨hl3, -⟩, -⟩ := h20
  obtain ⟨a2, n2, c2, rfl⟩ := h18.shape
  clear h h4 h7 h18 h2 h3 h5 h6 h10 h11 h16 h17
  have G1 := Lib.hid g1
  clear g1
  have G2 := Lib.hid g2
  clear g2
  go_enter Try.func23, Try.ntmps23
  go_wp2_with fail
  generalize hwb : World.alloc (World.alloc w _) _ = W0
  have HB0 := Lib.hid (show Below w.heap.size w W0 from by rw [← hwb]; exact bel_alloc (bel_alloc (Below.refl _ _) _) _)
  have hz0 : w.heap.size + 1 < W0.heap.size := by rw [← hwb]; simp
  have hr0 : W0.heap[w.heap.size]? = some (.cells #[.int .i64 x.W, .int .i64 x.H, .int .i64 x.Main.W, .int .i64 x.Main.H, .slice a0 n0 c0, .int .i64 x.Alt.W, .int .i64 x.Alt.H, .slice a1 n1 c1, .bool x.OnAlt, .int .i64 x.X, .int .i64 x.Y, .bool x.Wrap, .int .i64 x.A.Fg, .int .i64 x.A.Bg, .bool x.A.Bold, .bool x.A.Under, .bool x.A.Turn, .int .i64 x.Top, .int .i64 x.Bot, .bool x.NoWrap, .bool x.Hide, .int .i64 x.SaveX, .int .i64 x.SaveY, .int .i64 x.SaveA.Fg, .int .i64 x.SaveA.Bg, .bool x.SaveA.Bold, .bool x.SaveA.Under, .bool x.SaveA.Turn, .slice a2 n2 c2, .int .i64 x.Limit, .slice a3 x.Back.length c3] 31 (0, 0)) := by rw [← hwb]; exact (Below.heap_alloc _ _ _ (by simp)).trans (new_at _ _ rfl)
  have hr1 : W0.heap[w.heap.size + 1]? = some (.cells #[.int .i64 x.Main.W, .int .i64 x.Main.H, .slice a0 n0 c0, .int .i64 x.Alt.W, .int .i64 x.Alt.H, .slice a1 n1 c1] 25 (0, 0)) := by rw [← hwb]; exact new_at _ _ (by simp)
  have e0 : W0.cell? ⟨w.heap.size + 1, 0, none⟩ = some (.int .i64 x.Main.W) := by simp only [World.cell?, hr1]; rfl
  have e1 : W0.cell? ⟨w.heap.size + 1, 1, none⟩ = some (.int .i64 x.Main.H) := by simp only [World.cell?, hr1]; rfl
  have e2 : W0.cell? ⟨w.heap.size + 1, 2, none⟩ = some (.slice a0 n0 c0) := by simp only [World.cell?, hr1]; rfl
  have e3 : W0.cell? ⟨w.heap.size + 1, 3, none⟩ = some (.int .i64 x.Alt.W) := by simp only [World.cell?, hr1]; rfl
  have e4 : W0.cell? ⟨w.heap.size + 1, 4, none⟩ = some (.int .i64 x.Alt.H) := by simp only [World.cell?, hr1]; rfl
  have e5 : W0.cell? ⟨w.heap.size + 1, 5, none⟩ = some (.slice a1 n1 c1) := by simp only [World.cell?, hr1]; rfl
  have b0 : W0.cell? ⟨w.heap.size, 0, none⟩ = some (.int .i64 x.W) := by simp only [World.cell?, hr0]; rfl
  have b1 : W0.cell? ⟨w.heap.size, 1, none⟩ = some (.int .i64 x.H) := by simp only [World.cell?, hr0]; rfl
  clear hwb hr0 hr1
  go_loopw [11] (fun i wr => ∃ k : Nat, k ≤ 1 ∧ i = .int .i64 k ∧ Hid (Below W0.heap.size W0 wr)) (fun i _ => 1 - (intOf i).toNat)
  case atStart => exact ⟨0, by omega, rfl, Below.refl _ _⟩
  case round =>
    obtain ⟨k, hk, rfl, HB⟩ := hrel
    have kA := fun o => cell_of_heap (HB.out.block w.heap.size (by omega)) o
    have kE := fun o => cell_of_heap (HB.out.block (w.heap.size + 1) (by omega)) o
    rcases (show k = 0 ∨ k = 1 by omega) with rfl | rfl
    · go_wp2_with (go_at_call 30; refine (impl_GridOk _ [_, _, _] x.Main (HM.out _ (bel_next HB0.out (bel_alloc HB.out _)))).mono ?_; rintro e W1 ⟨_, rfl, rfl, hb⟩; rw [G1.out]; have kG := (fun o => cell_of_heap (hb.block wr.heap.size (by simp)) o); have HB := Lib.hid (bel_next (bel_alloc HB.out _) hb); clear hb kA kE; have kA := fun o => cell_of_heap (HB.out.block w.heap.size (by omega)) o; have kE := fun o => cell_of_heap (HB.out.block (w.heap.size + 1) (by omega)) o)
      go_roundw
      case rel => exact ⟨1, by omega, by go_num, HB.out⟩
      case measure => simp [intOf]
    · go_wp2_with (go_at_call 30; refine (impl_GridOk _ [_, _, _] x.Alt (HA.out _ (bel_next HB0.out (bel_alloc HB.out _)))).mono ?_; rintro e W1 ⟨_, rfl, rfl, hb⟩; rw [G2.out]; have kG := (fun o => cell_of_heap (hb.block wr.heap.size (by simp)) o); have HB := Lib.hid (bel_next (bel_alloc HB.out _) hb); clear hb kA kE; have kA := fun o => cell_of_heap (HB.out.block w.heap.size (by omega)) o; have kE := fun o => cell_of_heap (HB.out.block (w.heap.size + 1) (by omega)) o)
      go_ret
      exact says_ret rfl (bel_next HB0.out HB.out)
set_option maxRecDepth 100000 in
set_option maxHeartbeats 1000000 in
theorem impl_ScrOk_bad5 (w : World) (cs : List Value) (x : DScr) (h : Rep.rep w cs x) (g1 : gridOkB x.Main = true) (w1 : (x.Main.W != x.W) = false) (w2 : (x.Main.H != x.H) = false) (g2 : gridOkB x.Alt = true) (w3 : (x.Alt.W != x.W) = true) : Calls Try.prog 23 #[.agg cs.toArray] w (Says w false) := by
  obtain ⟨v0, v1, v2, v3, rfl, h0, h1, h2, h3, h4, h5, h6, h7, h8, h9, h10, h11, h12, h13, h14, h15, h16, h17, h18, h19, h20⟩ := DScr.rep_iff.1 h
  have HM := Lib.hid (fun (W : World) (hb : Below w.heap.size w W) => (DGrid.rep_iff (w := W) (x := x.Main)).2 ⟨v0, rfl, h2, h3, h4.mono hb⟩)
  have HA := Lib.hid (fun (W : World) (hb : Below w.heap.size w W) => (DGrid.rep_iff (w := W) (x := x.Alt)).2 ⟨v1, rfl, h5, h6, h7.mono hb⟩)
  have H1 := Lib.hid (fun (W : World) => (DAttr.rep_iff (w := W) (x := x.A)).2 ⟨rfl, h10, h11⟩)
  have H2 := Lib.hid (fun (W : World) => (DAttr.rep_iff (w := W) (x := x.SaveA)).2 ⟨rfl, h16, h17⟩)
  have HT := Lib.hid h18
  have HK := Lib.hid h20
  obtain ⟨a0, n0, c0, rfl⟩ := h4.shape
  obtain ⟨a1, n1, c1, rfl⟩ := h7.shape
  obtain ⟨a3, c3, rfl, ⟨hl3, -⟩, -⟩ := h20
  obtain ⟨a2, n2, c2, rfl⟩ := h18.shape
  clear h h4 h7 h18 h2 h3 h5 h6 h10 h11 h16 h17
  have G1 := Lib.hid g1
  clear g1
  have G2 := Lib.hid g2
  clear g2
  go_enter Try.func23, Try.ntmps23
  go_wp2_with fail
  generalize hwb : World.alloc (World.alloc w _) _ = W0
  have HB0 := Lib.hid (show Below w.heap.size w W0 from by rw [← hwb]; exact bel_alloc (bel_alloc (Below.refl _ _) _) _)
  have hz0 : w.heap.size + 1 < W0.heap.size := by rw [← hwb]; simp
  have hr0 : W0.heap[w.heap.size]? = some (.cells #[.int .i64 x.W, .int .i64 x.H, .int .i64 x.Main.W, .int .i64 x.Main.H, .slice a0 n0 c0, .int .i64 x.Alt.W, .int .i64 x.Alt.H, .slice a1 n1 c1, .bool x.OnAlt, .int .i64 x.X, .int .i64 x.Y, .bool x.Wrap, .int .i64 x.A.Fg, .int .i64 x.A.Bg, .bool x.A.Bold, .bool x.A.Under, .bool x.A.Turn, .int .i64 x.Top, .int .i64 x.Bot, .bool x.NoWrap, .bool x.Hide, .int .i64 x.SaveX, .int .i64 x.SaveY, .int .i64 x.SaveA.Fg, .int .i64 x.SaveA.Bg, .bool x.SaveA.Bold, .bool x.SaveA.Under, .bool x.SaveA.Turn, .slice a2 n2 c2, .int .i64 x.Limit, .slice a3 x.Back.length c3] 31 (0, 0)) := by rw [← hwb]; exact (Below.heap_alloc _ _ _ (by simp)).trans (new_at _ _ rfl)
  have hr1 : W0.heap[w.heap.size + 1]? = some (.cells #[.int .i64 x.Main.W, .int .i64 x.Main.H, .slice a0 n0 c0, .int .i64 x.Alt.W, .int .i64 x.Alt.H, .slice a1 n1 c1] 25 (0, 0)) := by rw [← hwb]; exact new_at _ _ (by simp)
  have e0 : W0.cell? ⟨w.heap.size + 1, 0, none⟩ = some (.int .i64 x.Main.W) := by simp only [World.cell?, hr1]; rfl
  have e1 : W0.cell? ⟨w.heap.size + 1, 1, none⟩ = some (.int .i64 x.Main.H) := by simp only [World.cell?, hr1]; rfl
  have e2 : W0.cell? ⟨w.heap.size + 1, 2, none⟩ = some (.slice a0 n0 c0) := by simp only [World.cell?, hr1]; rfl
  have e3 : W0.cell? ⟨w.heap.size + 1, 3, none⟩ = some (.int .i64 x.Alt.W) := by simp only [World.cell?, hr1]; rfl
  have e4 : W0.cell? ⟨w.heap.size + 1, 4, none⟩ = some (.int .i64 x.Alt.H) := by simp only [World.cell?, hr1]; rfl
  have e5 : W0.cell? ⟨w.heap.size + 1, 5, none⟩ = some (.slice a1 n1 c1) := by simp only [World.cell?, hr1]; rfl
  have b0 : W0.cell? ⟨w.heap.size, 0, none⟩ = some (.int .i64 x.W) := by simp only [World.cell?, hr0]; rfl
  have b1 : W0.cell? ⟨w.heap.size, 1, none⟩ = some (.int .i64 x.H) := by simp only [World.cell?, hr0]; rfl
  clear hwb hr0 hr1
  go_loopw [11] (fun i wr => ∃ k : Nat, k ≤ 1 ∧ i = .int .i64 k ∧ Hid (Below W0.heap.size W0 wr)) (fun i _ => 1 - (intOf i).toNat)
  case atStart => exact ⟨0, by omega, rfl, Below.refl _ _⟩
  case round =>
    obtain ⟨k, hk, rfl, HB⟩ := hrel
    have kA := fun o => cell_of_heap (HB.out.block w.heap.size (by omega)) o
    have kE := fun o => cell_of_heap (HB.out.block (w.heap.size + 1) (by omega)) o
    rcases (show k = 0 ∨ k = 1 by omega) with rfl | rfl
    · go_wp2_with (go_at_call 30; refine (impl_GridOk _ [_, _, _] x.Main (HM.out _ (bel_next HB0.out (bel_alloc HB.out _)))).mono ?_; rintro e W1 ⟨_, rfl, rfl, hb⟩; rw [G1.out]; have kG := (fun o => cell_of_heap (hb.block wr.heap.size (by simp)) o); have HB := Lib.hid (bel_next (bel_alloc HB.out _) hb); clear hb kA kE; have kA := fun o => cell_of_heap (HB.out.block w.heap.size (by omega)) o; have kE := fun o => cell_of_heap (HB.out.block (w.heap.size + 1) (by omega)) o)
      go_roundw
      case rel => exact ⟨1, by omega, by go_num, HB.out⟩
      case measure => simp [intOf]
    · go_wp2_with (go_at_call 30; refine (impl_GridOk _ [_, _, _] x.Alt (HA.out _ (bel_next HB0.out (bel_alloc HB.out _)))).mono ?_; rintro e W1 ⟨_, rfl, rfl, hb⟩; rw [G2.out]; have kG := (fun o => cell_of_heap (hb.block wr.heap.size (by simp)) o); have HB := Lib.hid (bel_next (bel_alloc HB.out _) hb); clear hb kA kE; have kA := fun o => cell_of_heap (HB.out.block w.heap.size (by omega)) o; have kE := fun o => cell_of_heap (HB.out.block (w.heap.size + 1) (by omega)) o)
      go_ret
      exact says_ret rfl (bel_next HB0.out HB.out)
set_option maxRecDepth 100000 in
set_option maxHeartbeats 1000000 in
theorem impl_ScrOk_bad6 (w : World) (cs : List Value) (x : DScr) (h : Rep.rep w cs x) (g1 : gridOkB x.Main = true) (w1 : (x.Main.W != x.W) = false) (w2 : (x.Main.H != x.H) = false) (g2 : gridOkB x.Alt = true) (w3 : (x.Alt.W != x.W) = false) (w4 : (x.Alt.H != x.H) = true) : Calls Try.prog 23 #[.agg cs.toArray] w (Says w false) := by
  obtain ⟨v0, v1, v2, v3, rfl, h0, h1, h2, h3, h4, h5, h6, h7, h8, h9, h10, h11, h12, h13, h14, h15, h16, h17, h18, h19, h20⟩ := DScr.rep_iff.1 h
  have HM := Lib.hid (fun (W : World) (hb : Below w.heap.size w W) => (DGrid.rep_iff (w := W) (x := x.Main)).2 ⟨v0, rfl, h2, h3, h4.mono hb⟩)
  have HA := Lib.hid (fun (W : World) (hb : Below w.heap.size w W) => (DGrid.rep_iff (w := W) (x := x.Alt)).2 ⟨v1, rfl, h5, h6, h7.mono hb⟩)
  have H1 := Lib.hid (fun (W : World) => (DAttr.rep_iff (w := W) (x := x.A)).2 ⟨rfl, h10, h11⟩)
  have H2 := Lib.hid (fun (W : World) => (DAttr.rep_iff (w := W) (x := x.SaveA)).2 ⟨rfl, h16, h17⟩)
  have HT := Lib.hid h18
  have HK := Lib.hid h20
  obtain ⟨a0, n0, c0, rfl⟩ := h4.shape
  obtain ⟨a1, n1, c1, rfl⟩ := h7.shape
  obtain ⟨a3, c3, rfl, ⟨hl3, -⟩, -⟩ := h20
  obtain ⟨a2, n2, c2, rfl⟩ := h18.shape
  clear h h4 h7 h18 h2 h3 h5 h6 h10 h11 h16 h17
  have G1 := Lib.hid g1
  clear g1
  have G2 := Lib.hid g2
  clear g2
  go_enter Try.func23, Try.ntmps23
  go_wp2_with fail
  generalize hwb : World.alloc (World.alloc w _) _ = W0
  have HB0 := Lib.hid (show Below w.heap.size w W0 from by rw [← hwb]; exact bel_alloc (bel_alloc (Below.refl _ _) _) _)
  have hz0 : w.heap.size + 1 < W0.heap.size := by rw [← hwb]; simp
  have hr0 : W0.heap[w.heap.size]? = some (.cells #[.int .i64 x.W, .int .i64 x.H, .int .i64 x.Main.W, .int .i64 x.Main.H, .slice a0 n0 c0, .int .i64 x.Alt.W, .int .i64 x.Alt.H, .slice a1 n1 c1, .bool x.OnAlt, .int .i64 x.X, .int .i64 x.Y, .bool x.Wrap, .int .i64 x.A.Fg, .int .i64 x.A.Bg, .bool x.A.Bold, .bool x.A.Under, .bool x.A.Turn, .int .i64 x.Top, .int .i64 x.Bot, .bool x.NoWrap, .bool x.Hide, .int .i64 x.SaveX, .int .i64 x.SaveY, .int .i64 x.SaveA.Fg, .int .i64 x.SaveA.Bg, .bool x.SaveA.Bold, .bool x.SaveA.Under, .bool x.SaveA.Turn, .slice a2 n2 c2, .int .i64 x.Limit, .slice a3 x.Back.length c3] 31 (0, 0)) := by rw [← hwb]; exact (Below.heap_alloc _ _ _ (by simp)).trans (new_at _ _ rfl)
  have hr1 : W0.heap[w.heap.size + 1]? = some (.cells #[.int .i64 x.Main.W, .int .i64 x.Main.H, .slice a0 n0 c0, .int .i64 x.Alt.W, .int .i64 x.Alt.H, .slice a1 n1 c1] 25 (0, 0)) := by rw [← hwb]; exact new_at _ _ (by simp)
  have e0 : W0.cell? ⟨w.heap.size + 1, 0, none⟩ = some (.int .i64 x.Main.W) := by simp only [World.cell?, hr1]; rfl
  have e1 : W0.cell? ⟨w.heap.size + 1, 1, none⟩ = some (.int .i64 x.Main.H) := by simp only [World.cell?, hr1]; rfl
  have e2 : W0.cell? ⟨w.heap.size + 1, 2, none⟩ = some (.slice a0 n0 c0) := by simp only [World.cell?, hr1]; rfl
  have e3 : W0.cell? ⟨w.heap.size + 1, 3, none⟩ = some (.int .i64 x.Alt.W) := by simp only [World.cell?, hr1]; rfl
  have e4 : W0.cell? ⟨w.heap.size + 1, 4, none⟩ = some (.int .i64 x.Alt.H) := by simp only [World.cell?, hr1]; rfl
  have e5 : W0.cell? ⟨w.heap.size + 1, 5, none⟩ = some (.slice a1 n1 c1) := by simp only [World.cell?, hr1]; rfl
  have b0 : W0.cell? ⟨w.heap.size, 0, none⟩ = some (.int .i64 x.W) := by simp only [World.cell?, hr0]; rfl
  have b1 : W0.cell? ⟨w.heap.size, 1, none⟩ = some (.int .i64 x.H) := by simp only [World.cell?, hr0]; rfl
  clear hwb hr0 hr1
  go_loopw [11] (fun i wr => ∃ k : Nat, k ≤ 1 ∧ i = .int .i64 k ∧ Hid (Below W0.heap.size W0 wr)) (fun i _ => 1 - (intOf i).toNat)
  case atStart => exact ⟨0, by omega, rfl, Below.refl _ _⟩
  case round =>
    obtain ⟨k, hk, rfl, HB⟩ := hrel
    have kA := fun o => cell_of_heap (HB.out.block w.heap.size (by omega)) o
    have kE := fun o => cell_of_heap (HB.out.block (w.heap.size + 1) (by omega)) o
    rcases (show k = 0 ∨ k = 1 by omega) with rfl | rfl
    · go_wp2_with (go_at_call 30; refine (impl_GridOk _ [_, _, _] x.Main (HM.out _ (bel_next HB0.out (bel_alloc HB.out _)))).mono ?_; rintro e W1 ⟨_, rfl, rfl, hb⟩; rw [G1.out]; have kG := (fun o => cell_of_heap (hb.block wr.heap.size (by simp)) o); have HB := Lib.hid (bel_next (bel_alloc HB.out _) hb); clear hb kA kE; have kA := fun o => cell_of_heap (HB.out.block w.heap.size (by omega)) o; have kE := fun o => cell_of_heap (HB.out.block (w.heap.size + 1) (by omega)) o)
      go_roundw
      case rel => exact ⟨1, by omega, by go_num, HB.out⟩
      case measure => simp [intOf]
    · go_wp2_with (go_at_call 30; refine (impl_GridOk _ [_, _, _] x.Alt (HA.out _ (bel_next HB0.out (bel_alloc HB.out _)))).mono ?_; rintro e W1 ⟨_, rfl, rfl, hb⟩; rw [G2.out]; have kG := (fun o => cell_of_heap (hb.block wr.heap.size (by simp)) o); have HB := Lib.hid (bel_next (bel_alloc HB.out _) hb); clear hb kA kE; have kA := fun o => cell_of_heap (HB.out.block w.heap.size (by omega)) o; have kE := fun o => cell_of_heap (HB.out.block (w.heap.size + 1) (by omega)) o)
      go_ret
      exact says_ret rfl (bel_next HB0.out HB.out)
theorem impl_ScrOk (w : World) (cs : List Value) (x : DScr) (h : Rep.rep w cs x) : Calls Try.prog 23 #[.agg cs.toArray] w (Says w (scrOkB x)) := by
  have ng1 : gridOkB x.Main = false → scrOkB x = false := fun h => scr_no fun hh => by have e := (scrOkB_true hh).2.2.2.2.1; rw [e] at h; cases h
  have ng2 : gridOkB x.Alt = false → scrOkB x = false := fun h => scr_no fun hh => by have e := (scrOkB_true hh).2.2.2.2.2.1; rw [e] at h; cases h
  have nw1 : (x.Main.W != x.W) = true → scrOkB x = false := fun h => scr_no fun hh => by have e := scrSize_true (scrOkB_true hh).2.2.2.2.2.2.1; simp [e] at h
  have nw2 : (x.Main.H != x.H) = true → scrOkB x = false := fun h => scr_no fun hh => by have e := scrSize_true (scrOkB_true hh).2.2.2.2.2.2.1; simp [e] at h
  have nw3 : (x.Alt.W != x.W) = true → scrOkB x = false := fun h => scr_no fun hh => by have e := scrSize_true (scrOkB_true hh).2.2.2.2.2.2.1; simp [e] at h
  have nw4 : (x.Alt.H != x.H) = true → scrOkB x = false := fun h => scr_no fun hh => by have e := scrSize_true (scrOkB_true hh).2.2.2.2.2.2.1; simp [e] at h
  rcases Bool.eq_false_or_eq_true (gridOkB x.Main) with g1 | g1
  rotate_left
  · rw [ng1 g1]; exact impl_ScrOk_bad1 w cs x h g1
  rcases Bool.eq_false_or_eq_true (x.Main.W != x.W) with w1 | w1
  · rw [nw1 w1]; exact impl_ScrOk_bad2 w cs x h g1 w1
  rcases Bool.eq_false_or_eq_true (x.Main.H != x.H) with w2 | w2
  · rw [nw2 w2]; exact impl_ScrOk_bad3 w cs x h g1 w1 w2
  rcases Bool.eq_false_or_eq_true (gridOkB x.Alt) with g2 | g2
  rotate_left
  · rw [ng2 g2]; exact impl_ScrOk_bad4 w cs x h g1 w1 w2 g2
  rcases Bool.eq_false_or_eq_true (x.Alt.W != x.W) with w3 | w3
  · rw [nw3 w3]; exact impl_ScrOk_bad5 w cs x h g1 w1 w2 g2 w3
  rcases Bool.eq_false_or_eq_true (x.Alt.H != x.H) with w4 | w4
  · rw [nw4 w4]; exact impl_ScrOk_bad6 w cs x h g1 w1 w2 g2 w3 w4
  exact impl_ScrOk_good w cs x h g1 g2 (by unfold scrSize; simp only [Bool.and_eq_true, beq_iff_eq]; simp only [bne_eq_false_iff_eq] at w1 w2 w3 w4; exact ⟨⟨⟨w1, w2⟩, w3⟩, w4⟩)
end Go.Proofs.Ytaobgfneeijpmaa
