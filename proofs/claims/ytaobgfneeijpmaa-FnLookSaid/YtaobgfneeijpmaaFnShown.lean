/- The walks of the program's Shown and GridAt. -/
import Derived.Test.YtaobgfneeijpmaaFnMakeScr
set_option linter.unusedSimpArgs false
set_option linter.unusedVariables false
namespace Go.Mux
open Go.RowKit
theorem cvs_get {l : List DCell} {k j : Nat} {c : DCell} {u : Value} (h : l[k]? = some c) (hu : (cv c)[j]? = some u) : (cvs l)[k * 6 + j]? = some u := by
  have e : l.drop k = c :: l.drop (k + 1) := by
    obtain ⟨hk, rfl⟩ := List.getElem?_eq_some_iff.1 h
    exact List.drop_eq_getElem_cons hk
  have : ((cvs l).drop (k * 6))[j]? = some u := by
    rw [← cvs_drop, e, cvs_cons, List.getElem?_append_left (List.getElem?_eq_some_iff.1 hu).1, hu]
  rwa [List.getElem?_drop] at this
end Go.Mux
namespace Go.Proofs.Ytaobgfneeijpmaa
open Go.RowKit Go.Mux
set_option maxRecDepth 100000 in
set_option maxHeartbeats 1000000 in
theorem impl_Shown' (w : World) (cs : List Value) (x : DScr) (h : Rep.rep w cs x) (hg : scrOkB x = true) : Calls Try.prog 8 #[.agg cs.toArray] w (Gives w fun r w' => ∃ cs', r = .agg cs'.toArray ∧ Fresh w.heap.size w' cs' (shownG x)) := by
  have HR := Lib.hid h
  have HOK := Lib.hid hg
  have hl : (Try.prog.info? 31).map (·.size) = some cs.toArray.size := by rw [List.size_toArray, Rep.len h]; exact size_implScr
  obtain ⟨v0, v1, v2, v3, hcs, o0, o1, o2, o3, h0, h1, h2, h3⟩ := scr_shape h
  have HCS := Lib.hid hcs
  have hq := h
  rw [hcs] at hq
  obtain ⟨_, _, _, _, e, _, _, i0, i1, h4, i2, i3, h5, -⟩ := DScr.rep_iff.1 hq
  obtain ⟨rfl, rfl, rfl, rfl⟩ := scrRow_inj (x := x) e
  have HM := Lib.hid (fun (W : World) (hb : Below w.heap.size w W) => (DGrid.rep_iff (w := W) (x := x.Main)).2 ⟨v0, rfl, i0, i1, h4.mono hb⟩)
  have HA := Lib.hid (fun (W : World) (hb : Below w.heap.size w W) => (DGrid.rep_iff (w := W) (x := x.Alt)).2 ⟨v1, rfl, i2, i3, h5.mono hb⟩)
  have q := scrOkB_true hg
  obtain ⟨_, _, _, _, _, m6, m7⟩ := gridOkB_size q.2.2.2.2.1
  obtain ⟨_, _, _, _, _, n6, n7⟩ := gridOkB_size q.2.2.2.2.2.1
  have hlM : x.Main.Cells.length ≤ 2097152 := by omega
  have hlA : x.Alt.Cells.length ≤ 2097152 := by omega
  obtain ⟨a0, b0, c0, rfl⟩ := h0.shape
  obtain ⟨a1, b1, c1, rfl⟩ := h1.shape
  clear h hg hcs hq i0 i1 h4 i2 i3 h5 q m6 m7 n6 n7 o0 o1 o2 o3 h0 h1 h2 h3 e
  go_enter Try.func8, Try.ntmps8
  go_upto_region 1 with (fail)
  generalize hwb : World.alloc (World.alloc w _) _ = W0
  obtain ⟨hb0, hr0, hr1, hz0⟩ := boxes2 hwb
  clear hwb
  have HB0 := Lib.hid hb0
  have hr1 : W0.heap[w.heap.size + 1]? = some (.cells #[.int .i64 0, .int .i64 0, .slice none 0 0] 25 (0, 0)) := hr1
  have hz0 : w.heap.size + 1 < W0.heap.size := by omega
  clear hb0
  go_upto_region 3 with (first
    | ((with_reducible (show wpList _ _ _ (Oper.mk _ (Op.load 31 _) _ _ _ _ :: _) _ _)); refine wpList_load_row rfl 31 _ rfl w.heap.size rfl 31 cs.toArray (0, 0) _ hr0 Try.underlying31 rfl hl ?_)
    | (go_at_call 23; refine (impl_ScrOk _ cs x (Rep.mono HR.out HB0.out)).mono ?_; rintro e W1 ⟨_, rfl, rfl, hb⟩; rw [HOK.out]; have HB1 := Lib.hid (bel_next HB0.out hb); have hs0 := (hb.block w.heap.size (by omega)).trans hr0; have hs1 := (hb.block (w.heap.size + 1) (by omega)).trans hr1; have hz1 : w.heap.size + 1 < W1.heap.size := Nat.lt_of_lt_of_le hz0 hb.size; clear hb hr0 hr1))
  have b2 : W1.cell? ⟨w.heap.size, 2, none⟩ = some (.int .i64 x.Main.W) := cell_at hs0 (by rw [HCS.out]; rfl)
  have b3 : W1.cell? ⟨w.heap.size, 3, none⟩ = some (.int .i64 x.Main.H) := cell_at hs0 (by rw [HCS.out]; rfl)
  have b4 : W1.cell? ⟨w.heap.size, 4, none⟩ = some (.slice a0 b0 c0) := cell_at hs0 (by rw [HCS.out]; rfl)
  have b5 : W1.cell? ⟨w.heap.size, 5, none⟩ = some (.int .i64 x.Alt.W) := cell_at hs0 (by rw [HCS.out]; rfl)
  have b6 : W1.cell? ⟨w.heap.size, 6, none⟩ = some (.int .i64 x.Alt.H) := cell_at hs0 (by rw [HCS.out]; rfl)
  have b7 : W1.cell? ⟨w.heap.size, 7, none⟩ = some (.slice a1 b1 c1) := cell_at hs0 (by rw [HCS.out]; rfl)
  have b8 : W1.cell? ⟨w.heap.size, 8, none⟩ = some (.bool x.OnAlt) := cell_at hs0 (by rw [HCS.out]; rfl)
  have hs1 : W1.heap[w.heap.size + 1]? = some (.cells [.int .i64 0, .int .i64 0, .slice none 0 0].toArray 25 (0, 0)) := hs1
  clear hs0
  (try simp only [Act.put, List.getElem_toArray, List.getElem_cons_succ, List.getElem_cons_zero, List.setIfInBounds_toArray, List.set_cons_zero, List.set_cons_succ])
  cases ho : x.OnAlt
  · rw [ho] at b8
    have HS := Lib.hid (show shownG x = x.Main from by unfold shownG; rw [ho]; rfl)
    clear ho
    go_wp2_with fail
    refine (impl_shown _ w.heap.size false b8).mono ?_
    rintro e w' ⟨rfl, rfl⟩
    go_wp2_with fail
    refine (impl_copyGrid _ [_, _, _] x.Main (HM.out _ HB1.out) hlM).mono ?_
    rintro e W2 ⟨_, rfl, ⟨cs1, rfl, HF⟩, hb⟩
    obtain ⟨a2, n2, c2, rfl⟩ := DGrid.shape HF.rep
    have HF1 := Lib.hid HF
    have HB2 := Lib.hid (bel_next HB1.out hb)
    have hs2 := (hb.block (w.heap.size + 1) hz1).trans hs1
    have hz2 := hb.size
    clear hb HF hs1 b2 b3 b4 b5 b6 b7 b8
    go_wp2_with ((with_reducible (show wpList _ _ _ (Oper.mk _ (Op.store 25 _ _) _ _ _ _ :: _) _ _)); refine wpList_store_at rfl 25 _ _ rfl (w.heap.size + 1) 0 rfl _ rfl [.int .i64 x.Main.W, .int .i64 x.Main.H, .slice a2 n2 c2] rfl [.int .i64 0, .int .i64 0, .slice none 0 0].toArray 25 hs2 (Nat.le_of_ble_eq_true rfl) (by simp [Value.oneCell']) size_implGrid ?_; intro W3 hW; have hM := Moved.row hW; have hr3 := (row_turn hs2 hW (cur' := [.int .i64 x.Main.W, .int .i64 x.Main.H, .slice a2 n2 c2]) rfl); clear hW)
    exact bodyPost_ret (results_cell_row Try.results8 _ _ (w.heap.size + 1) 25 [.int .i64 x.Main.W, .int .i64 x.Main.H, .slice a2 n2 c2].toArray (0, 0) _ rfl hr3 Try.underlying25 rfl size_implGrid) rfl ⟨_, rfl, ⟨_, rfl, by rw [HS.out]; exact fresh_le (fresh_moved HF1.out hM (by omega)) (by omega)⟩, hM.below HB2.out (by omega)⟩
  · rw [ho] at b8
    have HS := Lib.hid (show shownG x = x.Alt from by unfold shownG; rw [ho]; rfl)
    clear ho
    go_wp2_with fail
    refine (impl_shown _ w.heap.size true b8).mono ?_
    rintro e w' ⟨rfl, rfl⟩
    go_wp2_with fail
    refine (impl_copyGrid _ [_, _, _] x.Alt (HA.out _ HB1.out) hlA).mono ?_
    rintro e W2 ⟨_, rfl, ⟨cs1, rfl, HF⟩, hb⟩
    obtain ⟨a2, n2, c2, rfl⟩ := DGrid.shape HF.rep
    have HF1 := Lib.hid HF
    have HB2 := Lib.hid (bel_next HB1.out hb)
    have hs2 := (hb.block (w.heap.size + 1) hz1).trans hs1
    have hz2 := hb.size
    clear hb HF hs1 b2 b3 b4 b5 b6 b7 b8
    go_wp2_with ((with_reducible (show wpList _ _ _ (Oper.mk _ (Op.store 25 _ _) _ _ _ _ :: _) _ _)); refine wpList_store_at rfl 25 _ _ rfl (w.heap.size + 1) 0 rfl _ rfl [.int .i64 x.Alt.W, .int .i64 x.Alt.H, .slice a2 n2 c2] rfl [.int .i64 0, .int .i64 0, .slice none 0 0].toArray 25 hs2 (Nat.le_of_ble_eq_true rfl) (by simp [Value.oneCell']) size_implGrid ?_; intro W3 hW; have hM := Moved.row hW; have hr3 := (row_turn hs2 hW (cur' := [.int .i64 x.Alt.W, .int .i64 x.Alt.H, .slice a2 n2 c2]) rfl); clear hW)
    exact bodyPost_ret (results_cell_row Try.results8 _ _ (w.heap.size + 1) 25 [.int .i64 x.Alt.W, .int .i64 x.Alt.H, .slice a2 n2 c2].toArray (0, 0) _ rfl hr3 Try.underlying25 rfl size_implGrid) rfl ⟨_, rfl, ⟨_, rfl, by rw [HS.out]; exact fresh_le (fresh_moved HF1.out hM (by omega)) (by omega)⟩, hM.below HB2.out (by omega)⟩
set_option maxRecDepth 100000 in
set_option maxHeartbeats 1000000 in
theorem impl_GridAt' (w : World) (cs : List Value) (x : DGrid) (k : Nat) (h : Rep.rep w cs x) (hg : gridOkB x = true) (hk : (k : Int) < x.W) : Calls Try.prog 10 #[.agg cs.toArray, .int .i64 (k : Int), .int .i64 0] w (Gives w fun r _ => ∃ c, (rowOf x 0)[k]? = some c ∧ r = .agg (cv c).toArray) := by
  have HR := Lib.hid h
  have HG := Lib.hid hg
  obtain ⟨v0, rfl, i0, i1, hc⟩ := DGrid.rep_iff.1 h
  obtain ⟨a0, b0, c0, rfl⟩ := hc.shape
  obtain ⟨s1, s2, s3, s4, _⟩ := gridOkB_size hg
  obtain ⟨lo, m, e0, e1, e2, e3, e4, e5, e6, e7⟩ := row_arith hg (Int.le_refl 0) (by omega)
  have HH := Lib.hid (show gridHasB x (k : Int) 0 = true from by unfold gridHasB; rw [Bool.and_eq_true, withinB_true, withinB_true]; omega)
  have hlen : (rowOf x 0).length = m := by rw [e7, List.length_take, List.length_drop]; omega
  have hkm : k < m := by omega
  obtain ⟨c, hcx⟩ : ∃ c, (rowOf x 0)[k]? = some c := ⟨(rowOf x 0)[k]'(by omega), by simp [hlen, hkm]⟩
  have HC := Lib.hid hcx
  have HL := Lib.hid hlen
  have S1 := Lib.hid s1
  have S3 := Lib.hid s3
  clear h hg hc i0 i1 e0 e1 e2 e3 e7 hcx hlen
  go_enter Try.func10, Try.ntmps10
  go_upto_region 1 with (fail)
  generalize hwb : World.alloc (World.alloc w _) _ = W0
  obtain ⟨hb0, hr0, hr1, hz0⟩ := boxes2 hwb
  clear hwb
  have HB0 := Lib.hid hb0
  have hr0 : W0.heap[w.heap.size]? = some (.cells [.int .i64 x.W, .int .i64 x.H, .slice a0 b0 c0].toArray 25 (0, 0)) := hr0
  have hr1 : W0.heap[w.heap.size + 1]? = some (.cells [.int .i64 0, .int .i64 0, .int .i64 0, .bool false, .bool false, .bool false].toArray 37 (0, 0)) := hr1
  have hz0 : w.heap.size + 1 < W0.heap.size := by omega
  have k0 : W0.cell? ⟨w.heap.size, 0, none⟩ = some (.int .i64 x.W) := cell_at hr0 rfl
  have k1 : W0.cell? ⟨w.heap.size, 1, none⟩ = some (.int .i64 x.H) := cell_at hr0 rfl
  have k2 : W0.cell? ⟨w.heap.size, 2, none⟩ = some (.slice a0 b0 c0) := cell_at hr0 rfl
  clear hb0
  go_wp2_with fail
  refine (impl_GridOk _ [_, _, _] x (Rep.mono HR.out HB0.out)).mono ?_
  rintro e W1 ⟨_, rfl, rfl, hb⟩
  rw [HG.out]
  have HB1 := Lib.hid (bel_next HB0.out hb)
  have hs0 := (hb.block w.heap.size (by omega)).trans hr0
  have hs1 := (hb.block (w.heap.size + 1) (by omega)).trans hr1
  have hz1 : w.heap.size + 1 < W1.heap.size := Nat.lt_of_lt_of_le hz0 hb.size
  replace k0 : W1.cell? ⟨w.heap.size, 0, none⟩ = some (.int .i64 x.W) := cell_at hs0 rfl
  replace k1 : W1.cell? ⟨w.heap.size, 1, none⟩ = some (.int .i64 x.H) := cell_at hs0 rfl
  replace k2 : W1.cell? ⟨w.heap.size, 2, none⟩ = some (.slice a0 b0 c0) := cell_at hs0 rfl
  clear hb hr0 hr1
  go_wp2_with fail
  refine (impl_Grid_has _ [_, _, _] x (k : Int) 0 (Rep.mono HR.out HB1.out) S1.out S3.out).mono ?_
  rintro e W2 ⟨_, rfl, rfl, hb⟩
  rw [HH.out]
  have HB2 := Lib.hid (bel_next HB1.out hb)
  have ht0 := (hb.block w.heap.size (by omega)).trans hs0
  have ht1 := (hb.block (w.heap.size + 1) (by omega)).trans hs1
  have hz2 : w.heap.size + 1 < W2.heap.size := Nat.lt_of_lt_of_le hz1 hb.size
  replace k0 : W2.cell? ⟨w.heap.size, 0, none⟩ = some (.int .i64 x.W) := cell_at ht0 rfl
  replace k1 : W2.cell? ⟨w.heap.size, 1, none⟩ = some (.int .i64 x.H) := cell_at ht0 rfl
  replace k2 : W2.cell? ⟨w.heap.size, 2, none⟩ = some (.slice a0 b0 c0) := cell_at ht0 rfl
  clear hb hs0 hs1
  go_wp2_with fail
  refine (impl_Grid_row W2 W2 [_, _, _] x 0 (Rep.mono HR.out HB2.out) HG.out (Int.le_refl 0) (by have := S3.out; omega)).mono ?_
  rintro e W3 ⟨_, rfl, hrow, hb⟩
  obtain ⟨a3, c3, rfl, hl3, -, hc0⟩ := cells_open hrow
  have hne : rowOf x 0 ≠ [] := by intro e; have := HL.out; rw [e] at this; simp at this; omega
  obtain ⟨b3, o3, rfl, hcc⟩ := hc0 hne
  have HB3 := Lib.hid (bel_next HB2.out hb)
  have hu1 := (hb.block (w.heap.size + 1) (by omega)).trans ht1
  have hz3 : w.heap.size + 1 < W3.heap.size := Nat.lt_of_lt_of_le hz2 hb.size
  have HCC := Lib.hid (fun (j : Nat) u (hu : (cvs (rowOf x 0))[j]? = some u) => (hb.cell (p := ⟨b3, o3 + j, none⟩) (World.block_lt_of_cell? W2 _ (hcc j u hu))).trans (hcc j u hu))
  rw [HL.out] at *
  have n0 : (0 : Int) ≤ (k : Int) := by omega
  have n1 : (k : Int) < (m : Int) := by omega
  clear hb ht0 ht1 hcc hc0 hl3 k0 k1 k2 hrow hne
  go_wp2_with (first
    | ((with_reducible (show wpList _ _ _ (Oper.mk _ (Op.load 37 _) _ _ _ _ :: _) _ _)); refine wpList_load_agg rfl 37 _ rfl b3 (o3 + k * 6) rfl (cv c) _ (fun j u hu => by rw [Nat.add_assoc]; exact HCC.out _ u (cvs_get HC.out hu)) Try.underlying37 size_implCell ?_)
    | ((with_reducible (show wpList _ _ _ (Oper.mk _ (Op.store 37 _ _) _ _ _ _ :: _) _ _)); refine wpList_store_at rfl 37 _ _ rfl (w.heap.size + 1) 0 rfl _ rfl (cv c) rfl [.int .i64 0, .int .i64 0, .int .i64 0, .bool false, .bool false, .bool false].toArray 37 hu1 (Nat.le_of_ble_eq_true rfl) (by simp [cv, Value.oneCell']) size_implCell ?_; intro W9 hW; (try rw [act_put_none]); have hM9 := Moved.row hW; have hr9 := (row_turn hu1 hW (cur' := cv c) rfl); clear hW))
  exact bodyPost_ret (results_cell_row Try.results10 _ _ (w.heap.size + 1) 37 (cv c).toArray (0, 0) _ rfl hr9 Try.underlying37 rfl size_implCell) rfl ⟨_, rfl, ⟨c, HC.out, rfl⟩, hM9.below HB3.out (by omega)⟩
end Go.Proofs.Ytaobgfneeijpmaa
