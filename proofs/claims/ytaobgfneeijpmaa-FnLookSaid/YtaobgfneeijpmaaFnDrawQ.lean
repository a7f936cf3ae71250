/- The walk of ScrCtl: a control is carried out on a drawn screen. -/
import Derived.Test.YtaobgfneeijpmaaFnDrawP
import Derived.Test.YtaobgfneeijpmaaInts
import Derived.BigQuiet
set_option linter.unusedSimpArgs false
set_option linter.unusedVariables false
namespace Go.Mux
open Go.RowKit
end Go.Mux
namespace Go.Proofs.Ytaobgfneeijpmaa
open Go.RowKit Go.Mux
set_option maxRecDepth 100000 in
set_option maxHeartbeats 1000000 in
theorem spec_ScrCtl (w : World) (cs : List Value) (x : DScr) (b : Int) (h : Rep.rep w cs x) (hd : drawn x) (hb : b = 8 ∨ b = 9 ∨ b = 10 ∨ b = 13) :
    Calls Try.prog 53 #[.agg cs.toArray, .int .i64 b] w (Gives w fun r w' => ∃ cs' y, r = .agg cs'.toArray ∧ RepAway 0 0 w.heap.size w' cs' y ∧ drawn y) := by
  have HBB := Lib.hid hb
  have HD := Lib.hid hd
  have HR := Lib.hid h
  have HOK := Lib.hid (drawn_ok hd)
  have hl : (Try.prog.info? 31).map (·.size) = some cs.toArray.size := by rw [List.size_toArray, Rep.len h]; exact size_implScr
  obtain ⟨s1, s2, s3, s4⟩ := drawn_size hd
  obtain ⟨i1, i2, i3, i4⟩ := drawn_in hd
  have htl := drawn_tabs hd
  obtain ⟨q0, q1, q2, q3, hcs, -, -, htab, -⟩ := scr_open h
  obtain ⟨ta, tc, rfl, -, htc⟩ := ints_open htab
  have HTC := Lib.hid htc
  have HCS := Lib.hid hcs
  have e1 : IntKind.i64.wrap (x.W - 1) = x.W - 1 := by rw [IntKind.wrap_i64]; omega
  have e2 : IntKind.i64.wrap (x.X - 1) = x.X - 1 := by rw [IntKind.wrap_i64]; omega
  have e3 : IntKind.i64.wrap ((x.Tabs.length : Int) - 1) = (x.Tabs.length : Int) - 1 := by rw [IntKind.wrap_i64]; omega
  clear h hd hb hcs htab htc
  go_enter Try.func53, Try.ntmps53
  go_upto_region 1 with (fail)
  generalize hwb : World.alloc (World.alloc w _) _ = W0
  obtain ⟨hb0, hr0, hr1, hz0⟩ := boxes2 hwb
  clear hwb
  have HB0 := Lib.hid hb0
  have hr1 : W0.heap[w.heap.size + 1]? = some (.cells zeroScr.toArray 31 (0, 0)) := hr1
  have hz0 : w.heap.size + 1 < W0.heap.size := by omega
  clear hb0
  go_upto_region 3 with (first
    | ((with_reducible (show wpList _ _ _ (Oper.mk _ (Op.load 31 _) _ _ _ _ :: _) _ _)); refine wpList_load_row rfl 31 _ rfl w.heap.size rfl 31 cs.toArray (0, 0) _ hr0 Try.underlying31 rfl hl ?_)
    | (go_at_call 27; refine (spec_ScrOk _ cs x (Rep.mono HR.out HB0.out)).mono ?_; rintro e W1 ⟨_, rfl, rfl, hb⟩; rw [HOK.out]; have HB1 := Lib.hid (bel_next HB0.out hb); have hs0 := (hb.block w.heap.size (by omega)).trans hr0; have hs1 := (hb.block (w.heap.size + 1) (by omega)).trans hr1; have hz1 : w.heap.size + 1 < W1.heap.size := Nat.lt_of_lt_of_le hz0 hb.size; clear hb hr0 hr1))
  go_upto_region 4 with (first
    | ((with_reducible (show wpList _ _ _ (Oper.mk _ (Op.load 31 _) _ _ _ _ :: _) _ _)); refine wpList_load_row rfl 31 _ rfl w.heap.size rfl 31 cs.toArray (0, 0) _ hs0 Try.underlying31 rfl hl ?_)
    | (go_at_call 77; refine (spec_l09Copy _ cs x (Rep.mono HR.out HB1.out) HOK.out (drawn_tabs HD.out)).mono ?_; rintro e W2 ⟨_, rfl, ⟨B, M, cs2, rfl, hWB, hBM, hMW, hcopy⟩, hb⟩; obtain ⟨u0, u1, u2, u3, rfl, o0, o1, o2, o3, -⟩ := scr_shape (hcopy.rep HOK.out); have HCP := Lib.hid hcopy; have HB2 := Lib.hid (bel_next HB1.out hb); have ht0 := (hb.block w.heap.size (by omega)).trans hs0; have ht1 := (hb.block (w.heap.size + 1) hz1).trans hs1; have hz2 : w.heap.size + 1 < W2.heap.size := Nat.lt_of_lt_of_le hz1 hb.size; have ONE := Lib.hid (scrRow_one x o0 o1 o2 o3); clear hb hs0 hs1 hcopy)
    | ((with_reducible (show wpList _ _ _ (Oper.mk _ (Op.store 31 _ _) _ _ _ _ :: _) _ _)); generalize hwb : World.alloc W2 _ = W3; have hb3 : Below W2.heap.size W2 W3 := (by rw [← hwb]; exact bel_alloc (Below.refl _ _) _); have hn3 : W3.heap[W2.heap.size]? = some (.cells zeroScr.toArray 31 (0, 0)) := (by rw [← hwb]; exact new_at _ _ rfl); clear hwb; refine wpList_store_at rfl 31 _ _ rfl W2.heap.size 0 rfl _ rfl (scrRow x u0 u1 u2 u3) rfl zeroScr.toArray 31 hn3 (Nat.le_of_ble_eq_true rfl) ONE.out size_implScr ?_; intro W4 hW; have hM4 := Moved.row hW; have hr4 := (row_turn hn3 hW (cur' := (scrRow x u0 u1 u2 u3)) rfl); clear hW))
  have hq0 := (hM4.other w.heap.size (by omega)).trans ((hb3.block w.heap.size (by omega)).trans ht0)
  have hq1 := (hM4.other (w.heap.size + 1) (by omega)).trans ((hb3.block (w.heap.size + 1) (by omega)).trans ht1)
  have HCP4 := Lib.hid ((HCP.out.keep hBM ((hb3.mono hMW).trans (hM4.below (Below.refl M W3) hMW))))
  have HB4 := Lib.hid (hM4.below (bel_next HB2.out hb3) (by omega))
  have hT4 : W2.heap.size < W4.heap.size := (Array.getElem?_eq_some_iff.1 hr4).1
  have hlo : W1.heap.size ≤ B := hWB
  have hMT : M ≤ W2.heap.size := hMW
  clear ht0 ht1 hb3 hn3 hM4 hWB hMW
  (try simp only [Act.put, List.getElem_toArray, List.getElem_cons_succ, List.getElem_cons_zero, List.setIfInBounds_toArray, List.set_cons_zero, List.set_cons_succ])
  have k9 : W4.cell? ⟨w.heap.size, 9, none⟩ = some (.int .i64 x.X) := cell_at hq0 (by rw [HCS.out]; rfl)
  have k10 : W4.cell? ⟨w.heap.size, 10, none⟩ = some (.int .i64 x.Y) := cell_at hq0 (by rw [HCS.out]; rfl)
  have k0 : W4.cell? ⟨w.heap.size, 0, none⟩ = some (.int .i64 x.W) := cell_at hq0 (by rw [HCS.out]; rfl)
  have k28 : W4.cell? ⟨w.heap.size, 28, none⟩ = some (.slice ta x.Tabs.length tc) := cell_at hq0 (by rw [HCS.out]; rfl)
  rcases HBB.out with rfl | rfl | rfl | rfl
  · go_wp2_with (first
      | ((with_reducible (show wpList _ _ _ (Oper.mk _ (Op.load 31 _) _ _ _ _ :: _) _ _)); refine wpList_load_row rfl 31 _ rfl w.heap.size rfl 31 cs.toArray (0, 0) _ hq0 Try.underlying31 rfl hl ?_)
      | (go_at_call 54; refine (spec_ScrGo _ cs x _ _ (Rep.mono HR.out HB4.out) HD.out).mono ?_; rintro e W5 ⟨_, rfl, ⟨cs5, y, rfl, haw, hyd⟩, hb⟩; obtain ⟨c0, c1, c2, c3, rfl, p0, p1, p2, p3, -⟩ := scr_shape haw.rep; have HAW := Lib.hid haw; have HYD := Lib.hid hyd; have hs5 := (hb.block (w.heap.size + 1) (by omega)).trans hq1; have HB5 := Lib.hid (bel_next HB4.out hb); have hz5 := hb.size; clear hb hq0 hq1 k9 k10 k0 k28 haw hyd)
      | ((with_reducible (show wpList _ _ _ (Oper.mk _ (Op.store 31 _ _) _ _ _ _ :: _) _ _)); refine wpList_store_at rfl 31 _ _ rfl (w.heap.size + 1) 0 rfl _ rfl (scrRow y c0 c1 c2 c3) rfl zeroScr.toArray 31 hs5 (Nat.le_of_ble_eq_true rfl) (scrRow_one _ p0 p1 p2 p3) size_implScr ?_; intro W9 hW; have hM9 := Moved.row hW; have hr9 := (row_turn hs5 hW (cur' := (scrRow y c0 c1 c2 c3)) rfl); clear hW))
    exact bodyPost_ret (results_cell_row Try.results53 _ _ (w.heap.size + 1) 31 (scrRow y c0 c1 c2 c3).toArray (0, 0) _ rfl hr9 Try.underlying31 rfl size_implScr) rfl ⟨_, rfl, ⟨(scrRow y c0 c1 c2 c3), _, rfl, (HAW.out.moved hM9 (.inr (Nat.zero_le _)) (by omega)).less (by omega), HYD.out⟩, hM9.below HB5.out (by omega)⟩
  · have HQ0 := Lib.hid hq0
    have HQ1 := Lib.hid hq1
    have k28n : x.Tabs.length ≤ 1 := htl
    go_wp2_with fail
    clear k9 k10 k0 k28 hq0 hq1
    go_loopw [6, 7] (fun xv iv wr => ∃ xx : Int, xv = .int .i64 xx ∧ (iv = .int .i64 (-1) ∨ iv = .int .i64 0 ∧ x.Tabs.length = 1) ∧ Hid (Below W4.heap.size W4 wr)) (fun _ iv _ => (intOf iv + 1).toNat)
    case atStart => exact ⟨_, rfl, (by rcases (show x.Tabs.length = 0 ∨ x.Tabs.length = 1 by omega) with e | e <;> rw [e] <;> simp), Below.refl _ _⟩
    case round =>
      obtain ⟨xx, rfl, hi, HBW⟩ := hrel
      have hq0 := (HBW.out.block w.heap.size (by omega)).trans HQ0.out
      have hq1 := (HBW.out.block (w.heap.size + 1) (by omega)).trans HQ1.out
      have hzw := HBW.out.size
      have HBR := Lib.hid (bel_next HB4.out HBW.out)
      have k10 : wr.cell? ⟨w.heap.size, 10, none⟩ = some (.int .i64 x.Y) := cell_at hq0 (by rw [HCS.out]; rfl)
      rcases hi with rfl | ⟨rfl, hone⟩
      · go_wp2_with (first
          | ((with_reducible (show wpList _ _ _ (Oper.mk _ (Op.load 31 _) _ _ _ _ :: _) _ _)); refine wpList_load_row rfl 31 _ rfl w.heap.size rfl 31 cs.toArray (0, 0) _ hq0 Try.underlying31 rfl hl ?_)
          | (go_at_call 54; refine (spec_ScrGo _ cs x _ _ (Rep.mono HR.out HBR.out) HD.out).mono ?_; rintro e W5 ⟨_, rfl, ⟨cs5, y, rfl, haw, hyd⟩, hb⟩; obtain ⟨c0, c1, c2, c3, rfl, p0, p1, p2, p3, -⟩ := scr_shape haw.rep; have HAW := Lib.hid haw; have HYD := Lib.hid hyd; have hs5 := (hb.block (w.heap.size + 1) (by omega)).trans hq1; have HB5 := Lib.hid (bel_next HBR.out hb); have hz5 := hb.size; clear hb hq0 hq1 k10 haw hyd)
          | ((with_reducible (show wpList _ _ _ (Oper.mk _ (Op.store 31 _ _) _ _ _ _ :: _) _ _)); refine wpList_store_at rfl 31 _ _ rfl (w.heap.size + 1) 0 rfl _ rfl (scrRow y c0 c1 c2 c3) rfl zeroScr.toArray 31 hs5 (Nat.le_of_ble_eq_true rfl) (scrRow_one _ p0 p1 p2 p3) size_implScr ?_; intro W9 hW; have hM9 := Moved.row hW; have hr9 := (row_turn hs5 hW (cur' := (scrRow y c0 c1 c2 c3)) rfl); clear hW))
        exact bodyPost_ret (results_cell_row Try.results53 _ _ (w.heap.size + 1) 31 (scrRow y c0 c1 c2 c3).toArray (0, 0) _ rfl hr9 Try.underlying31 rfl size_implScr) rfl ⟨_, rfl, ⟨(scrRow y c0 c1 c2 c3), _, rfl, (HAW.out.moved hM9 (.inr (Nat.zero_le _)) (by omega)).less (by omega), HYD.out⟩, hM9.below HB5.out (by omega)⟩
      · obtain ⟨t0, ht0⟩ : ∃ t0, x.Tabs = [t0] := by
          match hm : x.Tabs with
          | [] => rw [hm] at hone; simp at hone
          | [t] => exact ⟨t, rfl⟩
          | _ :: _ :: _ => rw [hm] at hone; simp at hone
        obtain ⟨bt, ot, rfl, hct⟩ := HTC.out (by rw [ht0]; simp)
        have kt0 := (hct 0 t0 (by rw [ht0]; rfl)).1
        have kt : wr.cell? ⟨bt, ot, none⟩ = some (.int .i64 t0) := ((HBR.out.cell (p := ⟨bt, ot + 0, none⟩) (World.block_lt_of_cell? w _ kt0)).trans kt0)
        have k28 : wr.cell? ⟨w.heap.size, 28, none⟩ = some (.slice (some ⟨bt, ot, none⟩) 1 tc) := cell_at hq0 (by rw [HCS.out]; unfold scrRow; rw [hone]; rfl)
        have k9 : wr.cell? ⟨w.heap.size, 9, none⟩ = some (.int .i64 x.X) := cell_at hq0 (by rw [HCS.out]; rfl)
        clear hct kt0 hone ht0
        by_cases hgt : x.X < t0
        · have dg : decide (x.X < t0) = true := decide_eq_true hgt
          go_wp2_with fail
          go_quiet (fail)
          go_wp2_with fail
          go_roundw
          case rel => exact ⟨t0, rfl, .inl rfl, below_drewN HBW.out _⟩
          case measure => simp [intOf]
        · have dg : decide (x.X < t0) = false := decide_eq_false hgt
          go_wp2_with fail
          go_quiet (fail)
          go_wp2_with fail
          go_roundw
          case rel => exact ⟨xx, rfl, .inl rfl, below_drewN HBW.out _⟩
          case measure => simp [intOf]
  · go_wp2_with (first
      | ((with_reducible (show wpList _ _ _ (Oper.mk _ (Op.load 31 _) _ _ _ _ :: _) _ _)); refine wpList_load_row rfl 31 _ rfl W2.heap.size rfl 31 (scrRow x u0 u1 u2 u3).toArray (0, 0) _ hr4 Try.underlying31 rfl size_implScr ?_)
      | (go_at_call 79; refine (spec_l09Down _ W1.heap.size B M _ x HCP4.out HD.out hlo hBM (by omega)).mono ?_; rintro e W5 ⟨cs5, y, rfl, haw, hyd, -, hbel, -⟩; obtain ⟨c0, c1, c2, c3, rfl, p0, p1, p2, p3, -⟩ := scr_shape haw.rep; have HAW := Lib.hid haw; have HYD := Lib.hid hyd; have hs5 := (hbel.block (w.heap.size + 1) (by omega)).trans hq1; have HB5 := Lib.hid (HB4.out.trans (hbel.mono (by omega))); clear hbel hq0 hq1 k9 k10 k0 k28 haw hyd)
      | ((with_reducible (show wpList _ _ _ (Oper.mk _ (Op.store 31 _ _) _ _ _ _ :: _) _ _)); refine wpList_store_at rfl 31 _ _ rfl (w.heap.size + 1) 0 rfl _ rfl (scrRow y c0 c1 c2 c3) rfl zeroScr.toArray 31 hs5 (Nat.le_of_ble_eq_true rfl) (scrRow_one _ p0 p1 p2 p3) size_implScr ?_; intro W9 hW; have hM9 := Moved.row hW; have hr9 := (row_turn hs5 hW (cur' := (scrRow y c0 c1 c2 c3)) rfl); clear hW))
    exact bodyPost_ret (results_cell_row Try.results53 _ _ (w.heap.size + 1) 31 (scrRow y c0 c1 c2 c3).toArray (0, 0) _ rfl hr9 Try.underlying31 rfl size_implScr) rfl ⟨_, rfl, ⟨(scrRow y c0 c1 c2 c3), _, rfl, (HAW.out.moved hM9 (.inl (by omega)) (by omega)).low (by omega) (by omega), HYD.out⟩, hM9.below HB5.out (by omega)⟩
  · go_wp2_with (first
      | ((with_reducible (show wpList _ _ _ (Oper.mk _ (Op.load 31 _) _ _ _ _ :: _) _ _)); refine wpList_load_row rfl 31 _ rfl w.heap.size rfl 31 cs.toArray (0, 0) _ hq0 Try.underlying31 rfl hl ?_)
      | (go_at_call 54; refine (spec_ScrGo _ cs x _ _ (Rep.mono HR.out HB4.out) HD.out).mono ?_; rintro e W5 ⟨_, rfl, ⟨cs5, y, rfl, haw, hyd⟩, hb⟩; obtain ⟨c0, c1, c2, c3, rfl, p0, p1, p2, p3, -⟩ := scr_shape haw.rep; have HAW := Lib.hid haw; have HYD := Lib.hid hyd; have hs5 := (hb.block (w.heap.size + 1) (by omega)).trans hq1; have HB5 := Lib.hid (bel_next HB4.out hb); have hz5 := hb.size; clear hb hq0 hq1 k9 k10 k0 k28 haw hyd)
      | ((with_reducible (show wpList _ _ _ (Oper.mk _ (Op.store 31 _ _) _ _ _ _ :: _) _ _)); refine wpList_store_at rfl 31 _ _ rfl (w.heap.size + 1) 0 rfl _ rfl (scrRow y c0 c1 c2 c3) rfl zeroScr.toArray 31 hs5 (Nat.le_of_ble_eq_true rfl) (scrRow_one _ p0 p1 p2 p3) size_implScr ?_; intro W9 hW; have hM9 := Moved.row hW; have hr9 := (row_turn hs5 hW (cur' := (scrRow y c0 c1 c2 c3)) rfl); clear hW))
    exact bodyPost_ret (results_cell_row Try.results53 _ _ (w.heap.size + 1) 31 (scrRow y c0 c1 c2 c3).toArray (0, 0) _ rfl hr9 Try.underlying31 rfl size_implScr) rfl ⟨_, rfl, ⟨(scrRow y c0 c1 c2 c3), _, rfl, (HAW.out.moved hM9 (.inr (Nat.zero_le _)) (by omega)).less (by omega), HYD.out⟩, hM9.below HB5.out (by omega)⟩
end Go.Proofs.Ytaobgfneeijpmaa
