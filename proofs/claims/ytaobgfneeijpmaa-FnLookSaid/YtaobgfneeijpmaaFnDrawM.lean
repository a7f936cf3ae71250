/- The walks of what moves and writes on a screen: ScrGo, ScrRune, ScrCtl. -/
import Derived.Test.YtaobgfneeijpmaaFnDrawR
set_option linter.unusedSimpArgs false
set_option linter.unusedVariables false
namespace Go.Mux
open Go.RowKit
theorem clamp_in {n most : Int} (h : 0 ≤ most) : 0 ≤ clampI n most ∧ clampI n most ≤ most := by
  unfold clampI
  split
  · omega
  · split <;> omega
theorem drawn_size {x : DScr} (h : drawn x) : 1 ≤ x.W ∧ x.W ≤ 120 ∧ 1 ≤ x.H ∧ x.H ≤ 120 := by
  have q := scrOkB_true (drawn_ok h)
  have := gridOkB_size q.2.2.2.2.1
  have := scrSize_true q.2.2.2.2.2.2.1
  omega
theorem drawn_in {x : DScr} (h : drawn x) : 0 ≤ x.X ∧ x.X < x.W ∧ 0 ≤ x.Y ∧ x.Y < x.H := by
  have q := scrOkB_true (drawn_ok h)
  exact ⟨q.2.2.2.2.2.2.2.2.1, q.2.2.2.2.2.2.2.2.2.1, q.2.2.2.2.2.2.2.2.2.2.1, q.2.2.2.2.2.2.2.2.2.2.2.1⟩
end Go.Mux
namespace Go.Proofs.Ytaobgfneeijpmaa
open Go.RowKit Go.Mux
set_option maxRecDepth 100000 in
set_option maxHeartbeats 1000000 in
theorem spec_ScrGo (w : World) (cs : List Value) (x : DScr) (X Y : Int) (h : Rep.rep w cs x) (hd : drawn x) :
    Calls Try.prog 54 #[.agg cs.toArray, .int .i64 X, .int .i64 Y] w (Gives w fun r w' => ∃ cs' y, r = .agg cs'.toArray ∧ RepAway 0 0 w.heap.size w' cs' y ∧ drawn y) := by
  have HD := Lib.hid hd
  have HR := Lib.hid h
  have HOK := Lib.hid (drawn_ok hd)
  obtain ⟨s1, s2, s3, s4⟩ := drawn_size hd
  have hl : (Try.prog.info? 31).map (·.size) = some cs.toArray.size := by rw [List.size_toArray, Rep.len h]; exact size_implScr
  obtain ⟨cx, hcx⟩ : ∃ cx, cx = clampI X (x.W - 1) := ⟨_, rfl⟩
  obtain ⟨cy, hcy⟩ : ∃ cy, cy = clampI Y (x.H - 1) := ⟨_, rfl⟩
  have HCX := Lib.hid hcx
  have HCY := Lib.hid hcy
  have hcx1 : 0 ≤ cx ∧ cx ≤ x.W - 1 := by rw [hcx]; exact clamp_in (by omega)
  have hcy1 : 0 ≤ cy ∧ cy ≤ x.H - 1 := by rw [hcy]; exact clamp_in (by omega)
  have HYD := Lib.hid (move_drawn (X := cx) (Y := cy) (b := false) hd hcx1.1 (by omega) hcy1.1 (by omega) (fun e => by cases e))
  have e1 : IntKind.i64.wrap (x.W - 1) = x.W - 1 := by rw [IntKind.wrap_i64]; omega
  have e2 : IntKind.i64.wrap (x.H - 1) = x.H - 1 := by rw [IntKind.wrap_i64]; omega
  have k0' : cs[0]? = some (.int .i64 x.W) := by obtain ⟨_, _, _, _, rfl, -⟩ := scr_open h; rfl
  have k1' : cs[1]? = some (.int .i64 x.H) := by obtain ⟨_, _, _, _, rfl, -⟩ := scr_open h; rfl
  have HK0 := Lib.hid k0'
  have HK1 := Lib.hid k1'
  clear h hd hcx hcy hcx1 hcy1 k0' k1'
  go_enter Try.func54, Try.ntmps54
  go_upto_region 1 with (fail)
  generalize hwb : World.alloc (World.alloc w _) _ = W0
  obtain ⟨hb0, hr0, hr1, hz0⟩ := boxes2 hwb
  clear hwb
  have HB0 := Lib.hid hb0
  have hr1 : W0.heap[w.heap.size + 1]? = some (.cells zeroScr.toArray 31 (0, 0)) := hr1
  have hz0 : w.heap.size + 1 < W0.heap.size := by omega
  clear hb0
  go_upto_region 3 with (first
    | ((with_reducible (show wpList _ _ _ (Oper.mk _ (Op.load 31 _) _ _ _ _ :: _) _ _)); refine wpList_load_row rfl 31 _ rfl w.heap.size rfl 31 cs.toArray (0, 0) _ hr0 Try.underlying31 rfl hl ?_)
    | (go_at_call 27; refine (spec_ScrOk _ cs x (Rep.mono HR.out HB0.out)).mono ?_; rintro e W1 ⟨_, rfl, rfl, hb⟩; rw [HOK.out]; have HB1 := Lib.hid (bel_next HB0.out hb); have hs0 := (hb.block w.heap.size (by omega)).trans hr0; have hs1 := (hb.block (w.heap.size + 1) (by omega)).trans hr1; have hz1 : w.heap.size + 1 < W1.heap.size := Nat.lt_of_lt_of_le hz0 hb.size; clear hb hr0 hr1))
  go_upto_region 4 with (first
    | ((with_reducible (show wpList _ _ _ (Oper.mk _ (Op.load 31 _) _ _ _ _ :: _) _ _)); refine wpList_load_row rfl 31 _ rfl w.heap.size rfl 31 cs.toArray (0, 0) _ hs0 Try.underlying31 rfl hl ?_)
    | (go_at_call 77; refine (spec_l09Copy _ cs x (Rep.mono HR.out HB1.out) HOK.out (drawn_tabs HD.out)).mono ?_; rintro e W2 ⟨_, rfl, ⟨B, M, cs2, rfl, hWB, hBM, hMW, hcopy⟩, hb⟩; obtain ⟨u0, u1, u2, u3, rfl, o0, o1, o2, o3, -⟩ := scr_shape (hcopy.rep HOK.out); have HCP := Lib.hid hcopy; have HB2 := Lib.hid (bel_next HB1.out hb); have ht0 := (hb.block w.heap.size (by omega)).trans hs0; have ht1 := (hb.block (w.heap.size + 1) hz1).trans hs1; have hz2 : w.heap.size + 1 < W2.heap.size := Nat.lt_of_lt_of_le hz1 hb.size; have ONE := Lib.hid (scrRow_one x o0 o1 o2 o3); clear hb hs0 hs1 hcopy)
    | ((with_reducible (show wpList _ _ _ (Oper.mk _ (Op.store 31 _ _) _ _ _ _ :: _) _ _)); generalize hwb : World.alloc W2 _ = W3; have hb3 : Below W2.heap.size W2 W3 := (by rw [← hwb]; exact bel_alloc (Below.refl _ _) _); have hn3 : W3.heap[W2.heap.size]? = some (.cells zeroScr.toArray 31 (0, 0)) := (by rw [← hwb]; exact new_at _ _ rfl); clear hwb; refine wpList_store_at rfl 31 _ _ rfl W2.heap.size 0 rfl _ rfl (scrRow x u0 u1 u2 u3) rfl zeroScr.toArray 31 hn3 (Nat.le_of_ble_eq_true rfl) ONE.out size_implScr ?_; intro W4 hW; have hM4 := Moved.row hW; have hr4 := (row_turn hn3 hW (cur' := (scrRow x u0 u1 u2 u3)) rfl); clear hW))
  have hq0 := (hM4.other w.heap.size (by omega)).trans ((hb3.block w.heap.size (by omega)).trans ht0)
  have hq1 := (hM4.other (w.heap.size + 1) (by omega)).trans ((hb3.block (w.heap.size + 1) (by omega)).trans ht1)
  have HA4 := Lib.hid ((((HCP.out.away (L := W2.heap.size + 1) HOK.out (by have := HB1.out.size; omega) hBM).call hb3).moved hM4 (.inr hMW) (by omega)))
  have HB4 := Lib.hid (hM4.below (bel_next HB2.out hb3) (by omega))
  have k0 : W4.cell? ⟨w.heap.size, 0, none⟩ = some (.int .i64 x.W) := cell_at hq0 HK0.out
  have hBlo : W1.heap.size ≤ B := hWB
  clear ht0 ht1 hb3 hn3 hM4
  (try simp only [Act.put, List.getElem_toArray, List.getElem_cons_succ, List.getElem_cons_zero, List.setIfInBounds_toArray, List.set_cons_zero, List.set_cons_succ])
  go_upto_region 5 with (first
    | (go_at_call 37; refine (spec_l02Clamp _ _ _).mono ?_; rintro e W5 ⟨rfl, rfl⟩; rw [← HCX.out])
    | ((with_reducible (show wpList _ _ _ (Oper.mk _ (Op.store 3 _ _) _ _ _ _ :: _) _ _)); refine wpList_store_at rfl 3 _ _ rfl W2.heap.size 9 rfl _ rfl [.int .i64 cx] rfl (scrRow x u0 u1 u2 u3).toArray 31 hr4 (Nat.le_of_ble_eq_true rfl) (by simp [Value.oneCell']) (show (Try.prog.info? 3).map (·.size) = some 1 by kernel_rfl) ?_; intro W6 hW; have hM6 := Moved.row hW; have hr6 := (row_turn hr4 hW (cur' := (scrRow { x with X := cx } u0 u1 u2 u3)) rfl); clear hW k0))
  have hv0 := (hM6.other w.heap.size (by omega)).trans hq0
  have hv1 := (hM6.other (w.heap.size + 1) (by omega)).trans hq1
  have HA6 := Lib.hid (HA4.out.moved hM6 (.inr hMW) (by omega))
  have HB6 := Lib.hid (hM6.below HB4.out (by omega))
  have k1 : W6.cell? ⟨w.heap.size, 1, none⟩ = some (.int .i64 x.H) := cell_at hv0 HK1.out
  clear hq0 hq1 hM6 hr4
  (try simp only [Act.put, List.getElem_toArray, List.getElem_cons_succ, List.getElem_cons_zero, List.setIfInBounds_toArray, List.set_cons_zero, List.set_cons_succ])
  go_upto_region 6 with (first
    | (go_at_call 37; refine (spec_l02Clamp _ _ _).mono ?_; rintro e W5 ⟨rfl, rfl⟩; rw [← HCY.out])
    | ((with_reducible (show wpList _ _ _ (Oper.mk _ (Op.store 3 _ _) _ _ _ _ :: _) _ _)); refine wpList_store_at rfl 3 _ _ rfl W2.heap.size 10 rfl _ rfl [.int .i64 cy] rfl (scrRow { x with X := cx } u0 u1 u2 u3).toArray 31 hr6 (Nat.le_of_ble_eq_true rfl) (by simp [Value.oneCell']) (show (Try.prog.info? 3).map (·.size) = some 1 by kernel_rfl) ?_; intro W7 hW; have hM7 := Moved.row hW; have hr7 := (row_turn hr6 hW (cur' := (scrRow { x with X := cx, Y := cy } u0 u1 u2 u3)) rfl); clear hW k1))
  have hy1 := (hM7.other (w.heap.size + 1) (by omega)).trans hv1
  have HA7 := Lib.hid (HA6.out.moved hM7 (.inr hMW) (by omega))
  have HB7 := Lib.hid (hM7.below HB6.out (by omega))
  clear hv0 hv1 hM7 hr6
  (try simp only [Act.put, List.getElem_toArray, List.getElem_cons_succ, List.getElem_cons_zero, List.setIfInBounds_toArray, List.set_cons_zero, List.set_cons_succ])
  go_wp2_with (first
    | ((with_reducible (show wpList _ _ _ (Oper.mk _ (Op.store 4 _ _) _ _ _ _ :: _) _ _)); refine wpList_store_at rfl 4 _ _ rfl W2.heap.size 11 rfl _ rfl [.bool false] rfl (scrRow { x with X := cx, Y := cy } u0 u1 u2 u3).toArray 31 hr7 (Nat.le_of_ble_eq_true rfl) (by simp [Value.oneCell']) (show (Try.prog.info? 4).map (·.size) = some 1 by kernel_rfl) ?_; intro W8 hW; have hM8 := Moved.row hW; have hr8 := (row_turn hr7 hW (cur' := (scrRow { x with X := cx, Y := cy, Wrap := false } u0 u1 u2 u3)) rfl); clear hW; have hs8 := (hM8.other (w.heap.size + 1) (by omega)).trans hy1; have HA8 := Lib.hid (HA7.out.moved hM8 (.inr hMW) (by omega)); have HB8 := Lib.hid (hM8.below HB7.out (by omega)); clear hM8 hr7 hy1)
    | ((with_reducible (show wpList _ _ _ (Oper.mk _ (Op.load 31 _) _ _ _ _ :: _) _ _)); refine wpList_load_row rfl 31 _ rfl W2.heap.size rfl 31 (scrRow { x with X := cx, Y := cy, Wrap := false } u0 u1 u2 u3).toArray (0, 0) _ hr8 Try.underlying31 rfl size_implScr ?_)
    | ((with_reducible (show wpList _ _ _ (Oper.mk _ (Op.store 31 _ _) _ _ _ _ :: _) _ _)); refine wpList_store_at rfl 31 _ _ rfl (w.heap.size + 1) 0 rfl _ rfl (scrRow { x with X := cx, Y := cy, Wrap := false } u0 u1 u2 u3) rfl zeroScr.toArray 31 hs8 (Nat.le_of_ble_eq_true rfl) (scrRow_one _ o0 o1 o2 o3) size_implScr ?_; intro W9 hW; have hM9 := Moved.row hW; have hr9 := (row_turn hs8 hW (cur' := (scrRow { x with X := cx, Y := cy, Wrap := false } u0 u1 u2 u3)) rfl); clear hW))
  exact bodyPost_ret (results_cell_row Try.results54 _ _ (w.heap.size + 1) 31 (scrRow { x with X := cx, Y := cy, Wrap := false } u0 u1 u2 u3).toArray (0, 0) _ rfl hr9 Try.underlying31 rfl size_implScr) rfl ⟨_, rfl, ⟨(scrRow { x with X := cx, Y := cy, Wrap := false } u0 u1 u2 u3), _, rfl, ((HA8.out.moved hM9 (.inl hz1) (by omega)).same (drawn_ok HYD.out) rfl rfl rfl rfl).low (by omega) (by omega), HYD.out⟩, hM9.below HB8.out (by omega)⟩
end Go.Proofs.Ytaobgfneeijpmaa
