/- The walk of the reference's ScrOk: the numbers are right. -/
import Derived.Test.YtaobgfneeijpmaaFnScrI
import Derived.Deep.CutRange
set_option linter.unusedSimpArgs false
set_option linter.unusedVariables false
namespace Go.Proofs.Ytaobgfneeijpmaa
open Go.RowKit Go.Mux
set_option maxRecDepth 100000 in
set_option maxHeartbeats 4000000 in
theorem spec_ScrOk_good (w : World) (cs : List Value) (x : DScr) (h : Rep.rep w cs x) (hg1 : gridOkB x.Main = true) (hg2 : gridOkB x.Alt = true) (hs : scrSize x = true) (p1 : 0 ≤ x.X) (p2 : x.X < x.W) (p3 : 0 ≤ x.Y) (p4 : x.Y < x.H) (p5 : (x.Wrap = true → x.X = x.W - 1)) (p6 : 0 ≤ x.SaveX) (p7 : x.SaveX < x.W) (p8 : 0 ≤ x.SaveY) (p9 : x.SaveY < x.H) (p10 : attrOkB x.A = true) (p11 : attrOkB x.SaveA = true) (p12 : 0 ≤ x.Top) (p13 : x.Bot < x.H) (p14 : x.Top ≤ x.Bot) (p15 : (x.Top = x.Bot → x.H = 1)) (p16 : 0 ≤ x.Limit) (p17 : x.Limit ≤ 100) (p18 : (x.Back.length : Int) ≤ x.Limit) : Calls Try.prog 27 #[.agg cs.toArray] w (Says w (ascB x.Tabs (x.W - 1) && x.Back.all rowOkB)) := by
  obtain ⟨v0, v1, v2, v3, rfl, h0, h1, h2, h3, h4, h5, h6, h7, h8, h9, h10, h11, h12, h13, h14, h15, h16, h17, h18, h19, h20⟩ := DScr.rep_iff.1 h
  have HM := Lib.hid (fun (W : World) (hb : Below w.heap.size w W) => (DGrid.rep_iff (w := W) (x := x.Main)).2 ⟨v0, rfl, h2, h3, h4.mono hb⟩)
  have HA := Lib.hid (fun (W : World) (hb : Below w.heap.size w W) => (DGrid.rep_iff (w := W) (x := x.Alt)).2 ⟨v1, rfl, h5, h6, h7.mono hb⟩)
  have H1 := Lib.hid (fun (W : World) => (DAttr.rep_iff (w := W) (x := x.A)).2 ⟨rfl, h10, h11⟩)
  have H2 := Lib.hid (fun (W : World) => (DAttr.rep_iff (w := W) (x := x.SaveA)).2 ⟨rfl, h16, h17⟩)
  obtain ⟨a0, n0, c0, rfl⟩ := h4.shape
  obtain ⟨a1, n1, c1, rfl⟩ := h7.shape
  obtain ⟨a3, c3, rfl, ⟨hl3, -⟩, hc3⟩ := h20
  have HC := Lib.hid hc3
  obtain ⟨a2, c2, rfl, hlt2, hct⟩ := ints_open h18
  have HCT := Lib.hid hct
  clear hct
  clear hc3 h h4 h7 h18 h2 h3 h5 h6 h10 h11 h16 h17
  obtain ⟨s1, s2, s3, s4, _, _, _⟩ := gridOkB_size hg1
  have G1 := Lib.hid hg1
  have G2 := Lib.hid hg2
  clear hg1 hg2
  rw [(scrSize_true hs).1] at s1 s2
  rw [(scrSize_true hs).2.1] at s3 s4
  obtain ⟨e1, e2, e3, e4⟩ := scrSize_true hs
  simp only [e1, e2] at HM
  simp only [e3, e4] at HA
  simp only [e1, e2, e3, e4]
  have HS := Lib.hid hs
  clear hs e1 e2 e3 e4
  have dw : x.Wrap = false ∨ (x.Wrap = true ∧ (x.X != x.W - 1) = false ∧ decide (x.X = x.W - 1) = true) := by
    cases hw : x.Wrap
    · exact .inl rfl
    · exact .inr ⟨rfl, by simpa using p5 hw, decide_eq_true (p5 hw)⟩
  have DW := Lib.hid dw
  clear p5 dw
  have dt : ((x.Top == x.Bot) = false ∧ decide (x.Top = x.Bot) = false) ∨ ((x.Top == x.Bot) = true ∧ decide (x.Top = x.Bot) = true ∧ (x.H != 1) = false ∧ decide (x.H = 1) = true) := by
    by_cases ht : x.Top = x.Bot
    · exact .inr ⟨by simpa using ht, decide_eq_true ht, by simpa using p15 ht, decide_eq_true (p15 ht)⟩
    · exact .inl ⟨by simpa using ht, decide_eq_false ht⟩
  have DT := Lib.hid dt
  clear p15 dt
  have d1 : decide (x.X < 0) = false := decide_eq_false (by omega)
  have d2 : decide (x.W ≤ x.X) = false := decide_eq_false (by omega)
  have d3 : decide (x.Y < 0) = false := decide_eq_false (by omega)
  have d4 : decide (x.H ≤ x.Y) = false := decide_eq_false (by omega)
  have d6 : decide (x.SaveX < 0) = false := decide_eq_false (by omega)
  have d7 : decide (x.W ≤ x.SaveX) = false := decide_eq_false (by omega)
  have d8 : decide (x.SaveY < 0) = false := decide_eq_false (by omega)
  have d9 : decide (x.H ≤ x.SaveY) = false := decide_eq_false (by omega)
  have A1 := Lib.hid p10
  clear p10
  have A2 := Lib.hid p11
  clear p11
  have d12 : decide (x.Top < 0) = false := decide_eq_false (by omega)
  have d13 : decide (x.H ≤ x.Bot) = false := decide_eq_false (by omega)
  have d14 : decide (x.Bot < x.Top) = false := decide_eq_false (by omega)
  have d16 : decide (x.Limit < 0) = false := decide_eq_false (by omega)
  have d17 : decide (100 < x.Limit) = false := decide_eq_false (by omega)
  have d18 : decide (x.Limit < (x.Back.length : Int)) = false := decide_eq_false (by omega)
  go_enter Try.func27, Try.ntmps27
  go_wp2_with fail
  generalize hwb : World.alloc w _ = W0
  have HB0 := Lib.hid (show Below w.heap.size w W0 from by rw [← hwb]; exact bel_alloc (Below.refl _ _) _)
  have hz0 : w.heap.size < W0.heap.size := by rw [← hwb]; simp
  have hr0 : W0.heap[w.heap.size]? = some (.cells #[.int .i64 x.W, .int .i64 x.H, .int .i64 x.W, .int .i64 x.H, .slice a0 n0 c0, .int .i64 x.W, .int .i64 x.H, .slice a1 n1 c1, .bool x.OnAlt, .int .i64 x.X, .int .i64 x.Y, .bool x.Wrap, .int .i64 x.A.Fg, .int .i64 x.A.Bg, .bool x.A.Bold, .bool x.A.Under, .bool x.A.Turn, .int .i64 x.Top, .int .i64 x.Bot, .bool x.NoWrap, .bool x.Hide, .int .i64 x.SaveX, .int .i64 x.SaveY, .int .i64 x.SaveA.Fg, .int .i64 x.SaveA.Bg, .bool x.SaveA.Bold, .bool x.SaveA.Under, .bool x.SaveA.Turn, .slice a2 x.Tabs.length c2, .int .i64 x.Limit, .slice a3 x.Back.length c3] 31 (0, 0)) := by rw [← hwb]; exact new_at _ _ rfl
  have b0 : W0.cell? ⟨w.heap.size, 0, none⟩ = some (.int .i64 x.W) := by simp only [World.cell?, hr0]; rfl
  have b1 : W0.cell? ⟨w.heap.size, 1, none⟩ = some (.int .i64 x.H) := by simp only [World.cell?, hr0]; rfl
  have b2 : W0.cell? ⟨w.heap.size, 2, none⟩ = some (.int .i64 x.W) := by simp only [World.cell?, hr0]; rfl
  have b3 : W0.cell? ⟨w.heap.size, 3, none⟩ = some (.int .i64 x.H) := by simp only [World.cell?, hr0]; rfl
  have b4 : W0.cell? ⟨w.heap.size, 4, none⟩ = some (.slice a0 n0 c0) := by simp only [World.cell?, hr0]; rfl
  have b5 : W0.cell? ⟨w.heap.size, 5, none⟩ = some (.int .i64 x.W) := by simp only [World.cell?, hr0]; rfl
  have b6 : W0.cell? ⟨w.heap.size, 6, none⟩ = some (.int .i64 x.H) := by simp only [World.cell?, hr0]; rfl
  have b7 : W0.cell? ⟨w.heap.size, 7, none⟩ = some (.slice a1 n1 c1) := by simp only [World.cell?, hr0]; rfl
  have b8 : W0.cell? ⟨w.heap.size, 8, none⟩ = some (.bool x.OnAlt) := by simp only [World.cell?, hr0]; rfl
  have b9 : W0.cell? ⟨w.heap.size, 9, none⟩ = some (.int .i64 x.X) := by simp only [World.cell?, hr0]; rfl
  have b10 : W0.cell? ⟨w.heap.size, 10, none⟩ = some (.int .i64 x.Y) := by simp only [World.cell?, hr0]; rfl
  have b11 : W0.cell? ⟨w.heap.size, 11, none⟩ = some (.bool x.Wrap) := by simp only [World.cell?, hr0]; rfl
  have b12 : W0.cell? ⟨w.heap.size, 12, none⟩ = some (.int .i64 x.A.Fg) := by simp only [World.cell?, hr0]; rfl
  have b13 : W0.cell? ⟨w.heap.size, 13, none⟩ = some (.int .i64 x.A.Bg) := by simp only [World.cell?, hr0]; rfl
  have b14 : W0.cell? ⟨w.heap.size, 14, none⟩ = some (.bool x.A.Bold) := by simp only [World.cell?, hr0]; rfl
  have b15 : W0.cell? ⟨w.heap.size, 15, none⟩ = some (.bool x.A.Under) := by simp only [World.cell?, hr0]; rfl
  have b16 : W0.cell? ⟨w.heap.size, 16, none⟩ = some (.bool x.A.Turn) := by simp only [World.cell?, hr0]; rfl
  have b17 : W0.cell? ⟨w.heap.size, 17, none⟩ = some (.int .i64 x.Top) := by simp only [World.cell?, hr0]; rfl
  have b18 : W0.cell? ⟨w.heap.size, 18, none⟩ = some (.int .i64 x.Bot) := by simp only [World.cell?, hr0]; rfl
  have b19 : W0.cell? ⟨w.heap.size, 19, none⟩ = some (.bool x.NoWrap) := by simp only [World.cell?, hr0]; rfl
  have b20 : W0.cell? ⟨w.heap.size, 20, none⟩ = some (.bool x.Hide) := by simp only [World.cell?, hr0]; rfl
  have b21 : W0.cell? ⟨w.heap.size, 21, none⟩ = some (.int .i64 x.SaveX) := by simp only [World.cell?, hr0]; rfl
  have b22 : W0.cell? ⟨w.heap.size, 22, none⟩ = some (.int .i64 x.SaveY) := by simp only [World.cell?, hr0]; rfl
  have b23 : W0.cell? ⟨w.heap.size, 23, none⟩ = some (.int .i64 x.SaveA.Fg) := by simp only [World.cell?, hr0]; rfl
  have b24 : W0.cell? ⟨w.heap.size, 24, none⟩ = some (.int .i64 x.SaveA.Bg) := by simp only [World.cell?, hr0]; rfl
  have b25 : W0.cell? ⟨w.heap.size, 25, none⟩ = some (.bool x.SaveA.Bold) := by simp only [World.cell?, hr0]; rfl
  have b26 : W0.cell? ⟨w.heap.size, 26, none⟩ = some (.bool x.SaveA.Under) := by simp only [World.cell?, hr0]; rfl
  have b27 : W0.cell? ⟨w.heap.size, 27, none⟩ = some (.bool x.SaveA.Turn) := by simp only [World.cell?, hr0]; rfl
  have b28 : W0.cell? ⟨w.heap.size, 28, none⟩ = some (.slice a2 x.Tabs.length c2) := by simp only [World.cell?, hr0]; rfl
  have b29 : W0.cell? ⟨w.heap.size, 29, none⟩ = some (.int .i64 x.Limit) := by simp only [World.cell?, hr0]; rfl
  have b30 : W0.cell? ⟨w.heap.size, 30, none⟩ = some (.slice a3 x.Back.length c3) := by simp only [World.cell?, hr0]; rfl
  clear hwb hr0
  have HB := Lib.hid (Below.refl W0.heap.size W0)
  have kA := fun o => cell_of_heap (HB.out.block w.heap.size (by omega)) o
  have dw := DW.out
  have dt := DT.out
  rcases dw with dw | ⟨dw, dw1, dw2⟩
  all_goals rcases dt with ⟨dt1, dt2⟩ | ⟨dt1, dt2, dt3, dt4⟩
  all_goals go_upto_region 3 with (first | (have _ := mkG; go_at_call 64; refine (spec_GridOk _ [_, _, _] x.Alt (HA.out _ (bel_next HB0.out HB.out))).mono ?_; rintro e W1 ⟨_, rfl, rfl, hb⟩; rw [G2.out]; have HB := Lib.hid (bel_next HB.out hb); clear hb kA; have kA := fun o => cell_of_heap (HB.out.block w.heap.size (by omega)) o) | (go_at_call 64; refine (spec_GridOk _ [_, _, _] x.Main (HM.out _ (bel_next HB0.out HB.out))).mono ?_; rintro e W1 ⟨_, rfl, rfl, hb⟩; rw [G1.out]; have HB := Lib.hid (bel_next HB.out hb); clear hb kA; have kA := fun o => cell_of_heap (HB.out.block w.heap.size (by omega)) o; have mkG : True := trivial) | (have _ := mkA; go_at_call 65; refine (spec_AttrOk _ [_, _, _, _, _] x.SaveA (H2.out _)).mono ?_; rintro e W1 ⟨_, rfl, rfl, hb⟩; rw [A2.out]; have HB := Lib.hid (bel_next HB.out hb); clear hb kA; have kA := fun o => cell_of_heap (HB.out.block w.heap.size (by omega)) o) | (go_at_call 65; refine (spec_AttrOk _ [_, _, _, _, _] x.A (H1.out _)).mono ?_; rintro e W1 ⟨_, rfl, rfl, hb⟩; rw [A1.out]; have HB := Lib.hid (bel_next HB.out hb); clear hb kA; have kA := fun o => cell_of_heap (HB.out.block w.heap.size (by omega)) o; have mkA : True := trivial))
  all_goals simp only [List.append_eq, List.cons_append, List.nil_append]
  all_goals go_wp2_with (first | (have _ := mkG; go_at_call 64; refine (spec_GridOk _ [_, _, _] x.Alt (HA.out _ (bel_next HB0.out HB.out))).mono ?_; rintro e W1 ⟨_, rfl, rfl, hb⟩; rw [G2.out]; have HB := Lib.hid (bel_next HB.out hb); clear hb kA; have kA := fun o => cell_of_heap (HB.out.block w.heap.size (by omega)) o) | (go_at_call 64; refine (spec_GridOk _ [_, _, _] x.Main (HM.out _ (bel_next HB0.out HB.out))).mono ?_; rintro e W1 ⟨_, rfl, rfl, hb⟩; rw [G1.out]; have HB := Lib.hid (bel_next HB.out hb); clear hb kA; have kA := fun o => cell_of_heap (HB.out.block w.heap.size (by omega)) o; have mkG : True := trivial) | (have _ := mkA; go_at_call 65; refine (spec_AttrOk _ [_, _, _, _, _] x.SaveA (H2.out _)).mono ?_; rintro e W1 ⟨_, rfl, rfl, hb⟩; rw [A2.out]; have HB := Lib.hid (bel_next HB.out hb); clear hb kA; have kA := fun o => cell_of_heap (HB.out.block w.heap.size (by omega)) o) | (go_at_call 65; refine (spec_AttrOk _ [_, _, _, _, _] x.A (H1.out _)).mono ?_; rintro e W1 ⟨_, rfl, rfl, hb⟩; rw [A1.out]; have HB := Lib.hid (bel_next HB.out hb); clear hb kA; have kA := fun o => cell_of_heap (HB.out.block w.heap.size (by omega)) o; have mkA : True := trivial))
  all_goals
    go_loopw [169] (fun i wr => ∃ k : Nat, k ≤ x.Tabs.length ∧ i = .int .i64 k ∧ Hid (∀ j q, j < k → x.Tabs[j]? = some q → tabBad x.Tabs (x.W - 1) j q = false) ∧ Hid (Below W0.heap.size W0 wr)) (fun i _ => x.Tabs.length - (intOf i).toNat)
    case atStart => exact ⟨0, Nat.zero_le _, rfl, by intro j q hj; omega, HB.out⟩
    case round =>
      clear kA HB
      obtain ⟨k, hk, rfl, HN, HB⟩ := hrel
      have kA := fun o => cell_of_heap (HB.out.block w.heap.size (by omega)) o
      by_cases hlt : k < x.Tabs.length
      · have e1 : decide ((k : Int) < (x.Tabs.length : Int)) = true := decide_eq_true (by omega)
        have e2 : decide (k < x.Tabs.length) = true := decide_eq_true hlt
        have hne : x.Tabs ≠ [] := by intro e; rw [e] at hlt; simp at hlt
        obtain ⟨b, off, rfl, hc⟩ := HCT.out hne
        obtain ⟨y, hy⟩ : ∃ y, x.Tabs[k]? = some y := ⟨x.Tabs[k], by simp [hlt]⟩
        have c1 := (hc k y hy).1
        rw [← (bel_next HB0.out HB.out).cell (p := ⟨b, off + k, none⟩) (World.block_lt_of_cell? w _ c1)] at c1
        have k0 : (0 : Int) ≤ (k : Int) := by omega
        have k1 : (k : Int) < (x.Tabs.length : Int) := by omega
        have HY := Lib.hid hy
        have HCC := Lib.hid hc
        clear hc hne hy
        by_cases hy0 : y < 0
        · have f1 : decide (y < 0) = true := decide_eq_true hy0
          have HB1 := Lib.hid (tabBad_out (l := x.Tabs) (k := k) (withinB_false.2 (Or.inl hy0) : withinB y 0 (x.W - 1) = false))
          go_wp2_with fail
          go_ret
          exact says_ret (by rw [asc_no HY.out HB1.out]; rfl) (bel_next HB0.out HB.out)
        have f1 : decide (y < 0) = false := decide_eq_false hy0
        by_cases hyW : x.W ≤ y
        · have f2 : decide (x.W ≤ y) = true := decide_eq_true hyW
          have HB1 := Lib.hid (tabBad_out (l := x.Tabs) (k := k) (withinB_false.2 (Or.inr (by omega)) : withinB y 0 (x.W - 1) = false))
          go_wp2_with fail
          go_ret
          exact says_ret (by rw [asc_no HY.out HB1.out]; rfl) (bel_next HB0.out HB.out)
        have f2 : decide (x.W ≤ y) = false := decide_eq_false hyW
        have HW1 := Lib.hid (withinB_true.2 ⟨by omega, by omega⟩ : withinB y 0 (x.W - 1) = true)
        by_cases hk0 : k = 0
        · subst hk0
          simp only [Nat.add_zero] at c1
          go_wp2_with fail
          go_roundw
          case rel => exact ⟨1, by omega, by go_num, asc_snoc HN.out HY.out (tabBad_zero HW1.out), HB.out⟩
          case measure => simp [intOf]; omega
        · obtain ⟨j, hj⟩ : ∃ j, k = j + 1 := ⟨k - 1, by omega⟩
          have hsw : IntKind.i64.wrap ((k : Int) - 1) = (j : Int) := by rw [IntKind.wrap_i64]; omega
          obtain ⟨m, hm⟩ : ∃ m, x.Tabs[j]? = some m := ⟨x.Tabs[j]'(by omega), by simp⟩
          have c2' := (HCC.out j m hm).1
          rw [← (bel_next HB0.out HB.out).cell (p := ⟨b, off + j, none⟩) (World.block_lt_of_cell? w _ c2')] at c2'
          have j0 : (0 : Int) ≤ (j : Int) := by omega
          have j1 : (j : Int) < (x.Tabs.length : Int) := by omega
          have g3 : decide (0 < (k : Int)) = true := decide_eq_true (by omega)
          have g4 : decide (0 < k) = true := decide_eq_true (by omega)
          have HJ := Lib.hid hj
          have HMM := Lib.hid hm
          clear hj hm hk0
          by_cases hle : y ≤ m
          · have g5 : decide (y ≤ m) = true := decide_eq_true hle
            go_wp2_with fail
            go_ret
            exact says_ret (by rw [asc_no HY.out (tabBad_le HJ.out HMM.out hle)]; rfl) (bel_next HB0.out HB.out)
          · have g5 : decide (y ≤ m) = false := decide_eq_false hle
            go_wp2_with fail
            go_roundw
            case rel => exact ⟨k + 1, by omega, by go_num, asc_snoc HN.out HY.out (tabBad_lt HJ.out HMM.out (by omega) HW1.out), HB.out⟩
            case measure => simp [intOf]; omega
      · have e1 : decide ((k : Int) < (x.Tabs.length : Int)) = false := decide_eq_false (by omega)
        have e2 : decide (k < x.Tabs.length) = false := decide_eq_false hlt
        obtain rfl : k = x.Tabs.length := by omega
        have HASC := Lib.hid (asc_yes HN.out)
        go_wp2_with fail
        go_loopw [200] (fun i wr => ∃ k : Nat, k ≤ x.Back.length ∧ i = .int .i64 k ∧ Hid (∀ r ∈ x.Back.take k, (!rowOkB r) = false) ∧ Hid (Below W0.heap.size W0 wr)) (fun i _ => x.Back.length - (intOf i).toNat)
        case atStart => exact ⟨0, Nat.zero_le _, rfl, by show ∀ x ∈ _, _; simp, HB.out⟩
        case round =>
          clear kA HB
          obtain ⟨k, hk, rfl, HN2, HB⟩ := hrel
          have hB0 := bel_next HB0.out HB.out
          by_cases hlt : k < x.Back.length
          · have hne : x.Back ≠ [] := by intro e; rw [e] at hlt; simp at hlt
            obtain ⟨b, off, rfl, hc⟩ := HC.out hne
            obtain ⟨y, hx⟩ : ∃ y, x.Back[k]? = some y := ⟨x.Back[k], by simp [hlt]⟩
            obtain ⟨rr, hrep, hcell⟩ := hc k y hx
            simp only [show k * Rep.size DRow = k from Nat.mul_one k] at hcell
            have HI := Lib.hid (show (Try.prog.info? 39).map (·.size) = some rr.length by rw [Rep.len hrep]; exact size_implRow)
            have HL := Lib.hid (show ∀ (j : Nat) u, rr[j]? = some u → wr.cell? ⟨b, off + k + j, none⟩ = some u from fun j u hu => (hB0.cell (p := ⟨b, _, none⟩) (World.block_lt_of_cell? w _ (hcell j u hu))).trans (hcell j u hu))
            have HR := Lib.hid hrep
            have HX := Lib.hid hx
            obtain ⟨ya0, yn0, yc0, rfl⟩ := DRow.shape hrep
            clear hc hcell hrep hne hx
            have HBw := Lib.hid hB0
            clear hB0
            cases hp : rowOkB y
            all_goals
              have HP := Lib.hid hp
              clear hp
              go_wp2_with (first | (with_reducible (show wpList _ _ _ (Oper.mk _ (Op.load 39 _) _ _ _ _ :: _) _ _); refine wpList_load_agg rfl 39 _ rfl b _ rfl _ _ HL.out Try.underlying39 HI.out ?_) | (go_at_call 66; refine (spec_l09Row _ [_] y (Rep.mono HR.out (bel_alloc HBw.out _))).mono ?_; rintro e W1 ⟨_, rfl, rfl, hb⟩; rw [HP.out]; have HB1 := Lib.hid (bel_next (bel_alloc HB.out _) hb); clear hb))
            · go_ret
              exact says_ret (by rw [HASC.out, show x.Back.all rowOkB = false from by rw [List.all_eq_false]; exact ⟨y, List.mem_of_getElem? HX.out, by rw [HP.out]; simp⟩]; rfl) (bel_next HB0.out HB1.out)
            · go_roundw
              case rel => exact ⟨k + 1, by omega, by go_num, not_yet HN2.out HX.out (by rw [HP.out]; rfl), HB1.out⟩
              case measure => simp [intOf]; omega
          · obtain rfl : k = x.Back.length := by omega
            have ha : x.Back.all rowOkB = true := by
              have := HN2.out
              rw [List.take_length] at this
              rw [List.all_eq_true]
              intro c hc
              have := this c hc
              simpa using this
            have HAL := Lib.hid ha
            clear ha hB0
            go_wp2_with fail
            go_ret
            exact says_ret (by rw [HASC.out, HAL.out]; rfl) (bel_next HB0.out HB.out)
end Go.Proofs.Ytaobgfneeijpmaa
