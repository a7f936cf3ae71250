/- The walk of the reference's Paint. -/
import Derived.Test.YtlkadeaomjoiiaaDoorFnPaintI
set_option linter.unusedSimpArgs false
set_option linter.unusedVariables false
namespace Go.Proofs.YtlkadeaomjoiiaaDoor
open Go.RowKit Go.Mux
set_option maxRecDepth 100000 in
set_option maxHeartbeats 8000000 in
theorem spec_Paint' (w : World) (cs : List Value) (x : DView) (h : Rep.rep w cs x) : Calls Tryd.prog 8 #[.agg cs.toArray] w (Gives w fun r w' => FreshS w.heap.size w' r (paint x)) := by
  have HP := Lib.hid h
  obtain ⟨a0, n0, c0, rfl⟩ := DView.shape h
  clear h
  have kb := fun (w : World) (C : Array Value) (n c : Nat) => Lib.run_convert_bytes_const (P := Tryd.prog) w 28 5 C n c Tryd.underlying28 Tryd.underlying5
  cases hv : viewOk x
  · have HV := Lib.hid hv
    have HN := Lib.hid (show paint x = [] by unfold paint; simp [hv])
    clear hv
    go_enter Tryd.func8, Tryd.ntmps8
    go_wp2_with (go_at_call 29; refine (spec_ViewOk _ [_, _, _, _, _, _] x (Rep.mono HP.out (by repeat (first | (with_reducible exact Below.refl _ _) | (with_reducible assumption) | (with_reducible refine bel_alloc ?_ _) | ((with_reducible refine bel_set ?_ ?_ _); rotate_left; (focus first | (simp; done) | (simp; omega))))))).mono ?_; rintro e W1 ⟨_, rfl, rfl, hb⟩; rw [HV.out]; have HB1 := Lib.hid (bel_next (show Below w.heap.size w _ from (by repeat (first | (with_reducible exact Below.refl _ _) | (with_reducible assumption) | (with_reducible refine bel_alloc ?_ _) | ((with_reducible refine bel_set ?_ ?_ _); rotate_left; (focus first | (simp; done) | (simp; omega)))))) hb); clear hb)
    go_ret
    exact ⟨_, rfl, freshS_nil _ _ HN.out, HB1.out⟩
  · have HV := Lib.hid hv
    clear hv
    go_enter Tryd.func8, Tryd.ntmps8
    go_wp2_with fail
    refine (spec_ViewOk _ [_, _, _, _, _, _] x (Rep.mono HP.out (by repeat (first | (with_reducible exact Below.refl _ _) | (with_reducible assumption) | (with_reducible refine bel_alloc ?_ _) | ((with_reducible refine bel_set ?_ ?_ _); rotate_left; (focus first | (simp; done) | (simp; omega))))))).mono ?_
    rintro e W1 ⟨_, rfl, rfl, hb⟩
    rw [HV.out]
    have HB1 := Lib.hid (bel_next (show Below w.heap.size w _ from (by repeat (first | (with_reducible exact Below.refl _ _) | (with_reducible assumption) | (with_reducible refine bel_alloc ?_ _) | ((with_reducible refine bel_set ?_ ?_ _); rotate_left; (focus first | (simp; done) | (simp; omega)))))) hb)
    have kA := fun o => hb.cell (p := ⟨w.heap.size, o, none⟩) (by simp)
    have hz1 := hb.size
    simp only [World.size_alloc] at hz1
    have hlt2 : w.heap.size < W1.heap.size := by omega
    clear hb
    have HGK : Hid (gridOkB x.Grid = true) := by
      have h := HV.out
      unfold viewOk at h
      simp only [Bool.and_eq_true] at h
      exact h.1
    obtain ⟨vv, ee, i0, i1, i2, i3, i4⟩ := DView.rep_iff.1 HP.out
    simp only [List.cons.injEq, and_true, true_and] at ee
    obtain rfl := ee
    have HGR := Lib.hid (DView.grid i0 i1 i2)
    obtain ⟨s1, s2, s3, s4, _⟩ := gridOkB_size HGK.out
    clear i0 i1 i2 i3 i4
    obtain ⟨v0', ev', _, _, hcs⟩ := DGrid.rep_iff.1 HGR.out
    simp only [List.cons.injEq, and_true, true_and] at ev'
    obtain rfl := ev'
    obtain ⟨ca, ccap, ecs, _, hcc⟩ := hcs
    cases ecs
    have HCS := Lib.hid hcc
    clear hcc
    have kb2 := Go.Joins.run_convert_bytes_const_at (P := Tryd.prog) (W1.alloc (.cells #[.int .i64 x.Grid.W, .int .i64 x.Grid.H, .slice a0 x.Grid.Cells.length c0] 32)) 28 5 #[.int .u8 27, .int .u8 99] 2 2 (W1.heap.size + 1) (by simp) Tryd.underlying28 Tryd.underlying5
    obtain ⟨wb, hwb⟩ : ∃ wb, wb = W1.alloc (.cells #[.int .i64 x.Grid.W, .int .i64 x.Grid.H, .slice a0 x.Grid.Cells.length c0] 32) := ⟨_, rfl⟩
    have hwz1 : wb.heap.size = W1.heap.size + 1 := by rw [hwb]; simp
    have hwz : w.heap.size ≤ wb.heap.size := by omega
    have HWB := Lib.hid (show Below w.heap.size w wb from by rw [hwb]; exact bel_alloc HB1.out _)
    have v0 : wb.cell? ⟨w.heap.size, 0, none⟩ = some (.int .i64 x.Grid.W) := by rw [hwb]; exact (World.cell?_alloc_lt W1 _ ⟨w.heap.size, 0, none⟩ hlt2).trans ((kA 0).trans (by simp))
    have v1 : wb.cell? ⟨w.heap.size, 1, none⟩ = some (.int .i64 x.Grid.H) := by rw [hwb]; exact (World.cell?_alloc_lt W1 _ ⟨w.heap.size, 1, none⟩ hlt2).trans ((kA 1).trans (by simp))
    have v2 : wb.cell? ⟨w.heap.size, 2, none⟩ = some (.slice a0 x.Grid.Cells.length c0) := by rw [hwb]; exact (World.cell?_alloc_lt W1 _ ⟨w.heap.size, 2, none⟩ hlt2).trans ((kA 2).trans (by simp))
    have v3 : wb.cell? ⟨w.heap.size, 3, none⟩ = some (.int .i64 x.X) := by rw [hwb]; exact (World.cell?_alloc_lt W1 _ ⟨w.heap.size, 3, none⟩ hlt2).trans ((kA 3).trans (by simp))
    have v4 : wb.cell? ⟨w.heap.size, 4, none⟩ = some (.int .i64 x.Y) := by rw [hwb]; exact (World.cell?_alloc_lt W1 _ ⟨w.heap.size, 4, none⟩ hlt2).trans ((kA 4).trans (by simp))
    have v5 : wb.cell? ⟨w.heap.size, 5, none⟩ = some (.bool x.Hide) := by rw [hwb]; exact (World.cell?_alloc_lt W1 _ ⟨w.heap.size, 5, none⟩ hlt2).trans ((kA 5).trans (by simp))
    have b0 : wb.cell? ⟨W1.heap.size, 0, none⟩ = some (.int .i64 x.Grid.W) := by rw [hwb]; simp
    have b1 : wb.cell? ⟨W1.heap.size, 1, none⟩ = some (.int .i64 x.Grid.H) := by rw [hwb]; simp
    have b2 : wb.cell? ⟨W1.heap.size, 2, none⟩ = some (.slice a0 x.Grid.Cells.length c0) := by rw [hwb]; simp
    have HO := Lib.hid (show OwnB (wb.alloc (.cells #[.int .u8 27, .int .u8 99] 5 (2, 3))) ⟨wb.heap.size, 0, none⟩ 2 2 [27, 99] from
      ⟨rfl, by decide, rfl, .inr ⟨wb.heap.size, 2, _, rfl, Nat.zero_le _, ⟨_, heap_alloc_new wb _, .inr (Nat.le_refl _)⟩, Nat.le_refl _, by decide, rfl, rfl⟩⟩)
    go_wp2_with fail
    rw [← hwz1, ← hwb]
    have hwz2 : W1.heap.size < wb.heap.size := by omega
    clear kA hwb kb kb2 hwz1
    go_loopw [4, 5] (fun o ys wr => ∃ (k : Nat) (a : Addr) (n c : Nat), (k : Int) ≤ x.Grid.H ∧ ys = .int .i64 (k : Int) ∧ o = .slice (some a) n c ∧ wb.heap.size ≤ a.block ∧ Hid (OwnB wr a n c ([27, 99] ++ paintRows x.Grid k)) ∧ Hid (Below wb.heap.size wb wr)) (fun _ ys _ => x.Grid.H.toNat - (intOf ys).toNat)
    case atStart => exact ⟨0, _, _, _, by omega, rfl, rfl, Nat.le_refl _, by show OwnB _ _ _ _ _; simpa [paintRows] using HO.out, bel_alloc (Below.refl _ _) _⟩
    case round =>
      obtain ⟨k, a, n, c, hk, rfl, rfl, hab, HW, HB⟩ := hrel
      have HBw := Lib.hid (HWB.out.trans (HB.out.mono hwz))
      have r0 : wr.cell? ⟨W1.heap.size, 0, none⟩ = some (.int .i64 x.Grid.W) := (HB.out.cell (p := ⟨W1.heap.size, 0, none⟩) (by show W1.heap.size < _; omega)).trans b0
      have r1 : wr.cell? ⟨W1.heap.size, 1, none⟩ = some (.int .i64 x.Grid.H) := (HB.out.cell (p := ⟨W1.heap.size, 1, none⟩) (by show W1.heap.size < _; omega)).trans b1
      have r2 : wr.cell? ⟨W1.heap.size, 2, none⟩ = some (.slice a0 x.Grid.Cells.length c0) := (HB.out.cell (p := ⟨W1.heap.size, 2, none⟩) (by show W1.heap.size < _; omega)).trans b2
      by_cases hkh : (k : Int) < x.Grid.H
      · have g1 : decide ((k : Int) < x.Grid.H) = true := decide_eq_true hkh
        go_wp2_with fail
        rename World => W3
        have HB3 := Lib.hid HB.out
        have HW3 := Lib.hid HW.out
        have hrl := rowOf_len HGK.out (show (0 : Int) ≤ (k : Int) by omega) hkh
        have hpl := paintRows_len HGK.out k
        obtain ⟨lo, m, e0, e1, e2, e3, e4, e5, e6, e7⟩ := row_arith HGK.out (show (0 : Int) ≤ (k : Int) by omega) hkh
        have HE7 := Lib.hid e7
        have hrm : (rowOf x.Grid (k : Int)).length = m := by omega
        have hw1 : IntKind.i64.wrap ((k : Int) * x.Grid.W) = (lo : Int) := by rw [e1, IntKind.wrap_i64]; omega
        clear e7 e1 e2 e0
        go_loopw [6] (fun ev wr2 => ∃ e : Nat, e ≤ (rowOf x.Grid (k : Int)).length ∧ ev = .int .i64 (e : Int) ∧ Hid (rowEnd (rowOf x.Grid (k : Int)) (rowOf x.Grid (k : Int)).length = rowEnd (rowOf x.Grid (k : Int)) e) ∧ Hid (Below W3.heap.size W3 wr2)) (fun ev _ => (intOf ev).toNat)
        case atStart => exact ⟨_, Nat.le_refl _, by rw [hrl], rfl, Below.refl _ _⟩
        case round =>
        obtain ⟨e, he, rfl, HRE, HB4⟩ := hrel
        have HBk := Lib.hid (bel_next HB3.out HB4.out)
        by_cases he0 : e = 0
        · have d1 : decide (0 < e) = false := decide_eq_false (by omega)
          have HRE2 := Lib.hid (show rowEnd (rowOf x.Grid (k : Int)) e = e from by rw [he0]; rfl)
          clear he0
          have m0 := ext_cell (W := wr) (b := W1.heap.size) (o := 0) (v := .int .i64 x.Grid.W) ((HBk.out.cell (p := ⟨W1.heap.size, 0, none⟩) (by show W1.heap.size < _; omega)).trans b0)
          have m2 := ext_cell (W := wr) (b := W1.heap.size) (o := 2) (v := .slice a0 x.Grid.Cells.length c0) ((HBk.out.cell (p := ⟨W1.heap.size, 2, none⟩) (by show W1.heap.size < _; omega)).trans b2)
          go_wp2_with fail
          refine wp_region_ext (by kernel_rfl) (by kernel_rfl) ?_
          repeat (go_big_quiet_step (fail))
          refine wpQuiet_nil ?_
          intro _ hw'
          obtain ⟨eW, rfl⟩ := hw'
          have HB5 := Lib.hid (bel_next HB4.out eW.bel)
          have HBb := Lib.hid (bel_next HB3.out HB5.out)
          have HBq := Lib.hid (HWB.out.trans (HBb.out.mono hwz))
          have HW5 := Lib.hid (HW3.out.grow HB5.out)
          have HR1 := Lib.hid (show paintRows x.Grid (k + 1) = paintRows x.Grid k ++ runOut x.Grid (k : Int) 0 (e : Int) from by rw [paintRows, HRE.out, HRE2.out])
          have hwt := runOut_wt x.Grid (k : Int) 0 (e : Int)
          have hk120 : k * 16384 ≤ 120 * 16384 := Nat.mul_le_mul_right _ (by omega)
          have hpos : 0 < ([27, 99] ++ paintRows x.Grid k).length := by simp
          have hsum : ([27, 99] ++ paintRows x.Grid k).length + (runOut x.Grid (k : Int) 0 (e : Int)).length ≤ 140737488355328 := by rw [List.length_append]; simp only [List.length_cons, List.length_nil]; omega
          have y0 : eW.w.cell? ⟨W1.heap.size, 0, none⟩ = some (.int .i64 x.Grid.W) := (HBb.out.cell (p := ⟨W1.heap.size, 0, none⟩) (by show W1.heap.size < _; omega)).trans b0
          have y1 : eW.w.cell? ⟨W1.heap.size, 1, none⟩ = some (.int .i64 x.Grid.H) := (HBb.out.cell (p := ⟨W1.heap.size, 1, none⟩) (by show W1.heap.size < _; omega)).trans b1
          have y2 : eW.w.cell? ⟨W1.heap.size, 2, none⟩ = some (.slice a0 x.Grid.Cells.length c0) := (HBb.out.cell (p := ⟨W1.heap.size, 2, none⟩) (by show W1.heap.size < _; omega)).trans b2
          go_wp2_with (first | (go_at_call 31; refine (spec_Run' _ [_, _, _] x.Grid (k : Int) 0 (e : Int) (Rep.mono HGR.out HBq.out)).mono ?_; rintro ee W7 ⟨v7, rfl, hF7, hb⟩; obtain ⟨a7, n7, c7, rfl⟩ := hF7.repS.shape; have HF7 := Lib.hid hF7.repS; have HB7 := Lib.hid (bel_next HBb.out hb); have HW7 := Lib.hid (HW5.out.grow hb); clear hb hF7) | (at_builtin; refine wpList_append_bytes rfl _ _ 28 rfl Tryd.underlying28 info_u8 a n c _ rfl HW7.out hpos a7 n7 c7 (runOut x.Grid (k : Int) 0 (e : Int)) rfl HF7.out hsum ?_; intro a8 n8 c8 W8 HO8 hg8 hat8; have HW8 := Lib.hid HO8; have HB8 := Lib.hid (HB7.out.grown hg8 HB7.out.size (fun j hj => by cases hj; exact hab)); have ha8 : wb.heap.size ≤ a8.block := (by rcases hat8 with e | e; (rw [e]; exact hab); (rw [e]; exact HB7.out.size)); clear HO8 hg8 hat8))
          go_roundw
          case rel => exact ⟨k + 1, a8, n8, c8, by omega, by go_num, rfl, ha8, by show OwnB _ _ _ _ _; rw [HR1.out]; simpa [List.append_assoc] using HW8.out, HB8.out⟩
          case measure => simp [intOf]; omega
        · have d1 : decide (0 < e) = true := decide_eq_true (by omega)
          have hepos : 0 < e := by omega
          obtain ⟨ei, hei⟩ : ∃ ei, e = ei + 1 := ⟨e - 1, by omega⟩
          obtain ⟨i2, hi2⟩ : ∃ i2, i2 = lo + e := ⟨_, rfl⟩
          obtain ⟨ix, hix⟩ : ∃ ix, ix = lo + ei := ⟨_, rfl⟩
          have hsw : IntKind.i64.wrap ((e : Int) - 1) = (ei : Int) := by rw [IntKind.wrap_i64]; omega
          have hiw : IntKind.i64.wrap ((lo : Int) + (e : Int)) = (i2 : Int) := by rw [IntKind.wrap_i64]; omega
          have hix2 : IntKind.i64.wrap ((i2 : Int) - 1) = (ix : Int) := by rw [IntKind.wrap_i64]; omega
          have hlt : ix < x.Grid.Cells.length := by omega
          have hei0 : (0 : Int) ≤ (ix : Int) := by omega
          have hei1 : (ix : Int) < (x.Grid.Cells.length : Int) := by omega
          have HB4w := Lib.hid (HWB.out.trans (HBk.out.mono hwz))
          have hB0 := HB4w.out
          have hne : x.Grid.Cells ≠ [] := by intro e; rw [e] at hlt; simp at hlt
          obtain ⟨b, off, rfl, hc⟩ := HCS.out hne
          obtain ⟨q, hx⟩ : ∃ q, x.Grid.Cells[ix]? = some q := ⟨x.Grid.Cells[ix], by simp [hlt]⟩
          obtain ⟨rr, hrep, hcell⟩ := hc ix q hx
          have HI := Lib.hid (show (Tryd.prog.info? 66).map (·.size) = some rr.length by rw [Rep.len hrep]; exact size_implCell)
          have HL := Lib.hid (show ∀ (j : Nat) u, rr[j]? = some u → wr.cell? ⟨b, off + ix * 6 + j, none⟩ = some u from fun j u hu => (hB0.cell (p := ⟨b, _, none⟩) (World.block_lt_of_cell? w _ (hcell j u hu))).trans (hcell j u hu))
          have HR := Lib.hid hrep
          have HX := Lib.hid hx
          obtain rfl := DCell.shape hrep
          clear hc hcell hrep hne hx
          have HROW := Lib.hid (show (rowOf x.Grid (k : Int))[ei]? = some q from by rw [row_at HE7.out (by omega), ← hix]; exact HX.out)
          have q0 := ext_cell (W := wr) (b := b) (o := off + ix * 6) (v := .int .i64 q.R) (by simpa using HL.out 0 _ rfl)
          have q1 := ext_cell (W := wr) (b := b) (o := off + ix * 6 + 1) (v := .int .i64 q.A.Fg) (HL.out 1 _ rfl)
          have q2 := ext_cell (W := wr) (b := b) (o := off + ix * 6 + 2) (v := .int .i64 q.A.Bg) (HL.out 2 _ rfl)
          have q3 := ext_cell (W := wr) (b := b) (o := off + ix * 6 + 3) (v := .bool q.A.Bold) (HL.out 3 _ rfl)
          have q4 := ext_cell (W := wr) (b := b) (o := off + ix * 6 + 4) (v := .bool q.A.Under) (HL.out 4 _ rfl)
          have q5 := ext_cell (W := wr) (b := b) (o := off + ix * 6 + 5) (v := .bool q.A.Turn) (HL.out 5 _ rfl)
          have m0 := ext_cell (W := wr) (b := W1.heap.size) (o := 0) (v := .int .i64 x.Grid.W) ((HBk.out.cell (p := ⟨W1.heap.size, 0, none⟩) (by show W1.heap.size < _; omega)).trans b0)
          have m2 := ext_cell (W := wr) (b := W1.heap.size) (o := 2) (v := .slice (some ⟨b, off, none⟩) x.Grid.Cells.length c0) ((HBk.out.cell (p := ⟨W1.heap.size, 2, none⟩) (by show W1.heap.size < _; omega)).trans b2)
          have hgd : Tryd.prog.eqGuardType Tryd.prog.depth 66 = false := by kernel_rfl
          have HEI := Lib.hid hei
          clear hei he0 hi2 hix
          cases hs : cellSame q blankC
          · have heq : ∀ w : World, (Op.equalIn 10000 66 (.agg #[.int .i64 q.R, .int .i64 q.A.Fg, .int .i64 q.A.Bg, .bool q.A.Bold, .bool q.A.Under, .bool q.A.Turn]) (.agg #[.int .i64 32, .int .i64 0, .int .i64 0, .bool false, .bool false, .bool false])).run Tryd.prog w = .ok false w := fun w => (eq_cell q blankC w).trans (by rw [hs])
            have HRE2 := Lib.hid (show rowEnd (rowOf x.Grid (k : Int)) e = e from by rw [HEI.out, rowEnd, HROW.out]; simp [hs])
            clear hs
            go_wp2_with fail
            refine wp_region_ext (by kernel_rfl) (by kernel_rfl) ?_
            repeat (go_big_quiet_step ((go_at_call 30; exact ext_gives (spec.l07Blank' _))))
            refine wpQuiet_nil ?_
            intro _ hw'
            obtain ⟨eW, rfl⟩ := hw'
            have HB5 := Lib.hid (bel_next HB4.out eW.bel)
            have HBb := Lib.hid (bel_next HB3.out HB5.out)
            have HBq := Lib.hid (HWB.out.trans (HBb.out.mono hwz))
            have HW5 := Lib.hid (HW3.out.grow HB5.out)
            clear q0 q1 q2 q3 q4 q5 m0 m2 heq
            have HR1 := Lib.hid (show paintRows x.Grid (k + 1) = paintRows x.Grid k ++ runOut x.Grid (k : Int) 0 (e : Int) from by rw [paintRows, HRE.out, HRE2.out])
            have hwt := runOut_wt x.Grid (k : Int) 0 (e : Int)
            have hk120 : k * 16384 ≤ 120 * 16384 := Nat.mul_le_mul_right _ (by omega)
            have hpos : 0 < ([27, 99] ++ paintRows x.Grid k).length := by simp
            have hsum : ([27, 99] ++ paintRows x.Grid k).length + (runOut x.Grid (k : Int) 0 (e : Int)).length ≤ 140737488355328 := by rw [List.length_append]; simp only [List.length_cons, List.length_nil]; omega
            have y0 : eW.w.cell? ⟨W1.heap.size, 0, none⟩ = some (.int .i64 x.Grid.W) := (HBb.out.cell (p := ⟨W1.heap.size, 0, none⟩) (by show W1.heap.size < _; omega)).trans b0
            have y1 : eW.w.cell? ⟨W1.heap.size, 1, none⟩ = some (.int .i64 x.Grid.H) := (HBb.out.cell (p := ⟨W1.heap.size, 1, none⟩) (by show W1.heap.size < _; omega)).trans b1
            have y2 : eW.w.cell? ⟨W1.heap.size, 2, none⟩ = some (.slice (some ⟨b, off, none⟩) x.Grid.Cells.length c0) := (HBb.out.cell (p := ⟨W1.heap.size, 2, none⟩) (by show W1.heap.size < _; omega)).trans b2
            go_wp2_with (first | (go_at_call 31; refine (spec_Run' _ [_, _, _] x.Grid (k : Int) 0 (e : Int) (Rep.mono HGR.out HBq.out)).mono ?_; rintro ee W7 ⟨v7, rfl, hF7, hb⟩; obtain ⟨a7, n7, c7, rfl⟩ := hF7.repS.shape; have HF7 := Lib.hid hF7.repS; have HB7 := Lib.hid (bel_next HBb.out hb); have HW7 := Lib.hid (HW5.out.grow hb); clear hb hF7) | (at_builtin; refine wpList_append_bytes rfl _ _ 28 rfl Tryd.underlying28 info_u8 a n c _ rfl HW7.out hpos a7 n7 c7 (runOut x.Grid (k : Int) 0 (e : Int)) rfl HF7.out hsum ?_; intro a8 n8 c8 W8 HO8 hg8 hat8; have HW8 := Lib.hid HO8; have HB8 := Lib.hid (HB7.out.grown hg8 HB7.out.size (fun j hj => by cases hj; exact hab)); have ha8 : wb.heap.size ≤ a8.block := (by rcases hat8 with e | e; (rw [e]; exact hab); (rw [e]; exact HB7.out.size)); clear HO8 hg8 hat8))
            go_roundw
            case rel => exact ⟨k + 1, a8, n8, c8, by omega, by go_num, rfl, ha8, by show OwnB _ _ _ _ _; rw [HR1.out]; simpa [List.append_assoc] using HW8.out, HB8.out⟩
            case measure => simp [intOf]; omega
          · have heq : ∀ w : World, (Op.equalIn 10000 66 (.agg #[.int .i64 q.R, .int .i64 q.A.Fg, .int .i64 q.A.Bg, .bool q.A.Bold, .bool q.A.Under, .bool q.A.Turn]) (.agg #[.int .i64 32, .int .i64 0, .int .i64 0, .bool false, .bool false, .bool false])).run Tryd.prog w = .ok true w := fun w => (eq_cell q blankC w).trans (by rw [hs])
            have HRE2 := Lib.hid (show rowEnd (rowOf x.Grid (k : Int)) e = rowEnd (rowOf x.Grid (k : Int)) ei from by rw [HEI.out, rowEnd, HROW.out]; simp [hs])
            clear hs
            go_wp2_with fail
            refine wp_region_ext (by kernel_rfl) (by kernel_rfl) ?_
            repeat (go_big_quiet_step ((go_at_call 30; exact ext_gives (spec.l07Blank' _))))
            refine wpQuiet_nil ?_
            intro _ hw'
            obtain ⟨eW, rfl⟩ := hw'
            have HB5 := Lib.hid (bel_next HB4.out eW.bel)
            have HBb := Lib.hid (bel_next HB3.out HB5.out)
            have HBq := Lib.hid (HWB.out.trans (HBb.out.mono hwz))
            have HW5 := Lib.hid (HW3.out.grow HB5.out)
            go_wp2_with fail
            go_roundw
            case rel => exact ⟨ei, by have := HEI.out; omega, by go_num, by show _ = _; rw [HRE.out, HRE2.out], HB5.out⟩
            case measure => have := HEI.out; simp [intOf]; omega
      · have g1 : decide ((k : Int) < x.Grid.H) = false := decide_eq_false hkh
        have hkH : x.Grid.H.toNat = k := by omega
        have HEE := Lib.hid (show ends x = (viewEnds x).data.toList from by unfold ends; rw [if_pos HV.out])
        have HN := Lib.hid (show paint x = ([27, 99] ++ paintRows x.Grid k) ++ ends x from by rw [HEE.out]; unfold paint; rw [if_pos HV.out, hkH])
        have hez : (ends x).length ≤ 40 := by rw [HEE.out]; exact viewEnds_size x
        have hpl := paintRows_len HGK.out k
        have hk120 : k * 16384 ≤ 120 * 16384 := Nat.mul_le_mul_right _ (by omega)
        have hpos : 0 < ([27, 99] ++ paintRows x.Grid k).length := by simp
        have hsum : ([27, 99] ++ paintRows x.Grid k).length + (ends x).length ≤ 140737488355328 := by rw [List.length_append]; simp only [List.length_cons, List.length_nil]; omega
        have z0 : wr.cell? ⟨w.heap.size, 0, none⟩ = some (.int .i64 x.Grid.W) := (HB.out.cell (p := ⟨w.heap.size, 0, none⟩) (by show w.heap.size < _; omega)).trans v0
        have z1 : wr.cell? ⟨w.heap.size, 1, none⟩ = some (.int .i64 x.Grid.H) := (HB.out.cell (p := ⟨w.heap.size, 1, none⟩) (by show w.heap.size < _; omega)).trans v1
        have z2 : wr.cell? ⟨w.heap.size, 2, none⟩ = some (.slice a0 x.Grid.Cells.length c0) := (HB.out.cell (p := ⟨w.heap.size, 2, none⟩) (by show w.heap.size < _; omega)).trans v2
        have z3 : wr.cell? ⟨w.heap.size, 3, none⟩ = some (.int .i64 x.X) := (HB.out.cell (p := ⟨w.heap.size, 3, none⟩) (by show w.heap.size < _; omega)).trans v3
        have z4 : wr.cell? ⟨w.heap.size, 4, none⟩ = some (.int .i64 x.Y) := (HB.out.cell (p := ⟨w.heap.size, 4, none⟩) (by show w.heap.size < _; omega)).trans v4
        have z5 : wr.cell? ⟨w.heap.size, 5, none⟩ = some (.bool x.Hide) := (HB.out.cell (p := ⟨w.heap.size, 5, none⟩) (by show w.heap.size < _; omega)).trans v5
        clear hkH
        go_wp2_with (first
          | (go_at_call 32; refine (spec_Ends' _ [_, _, _, _, _, _] x (Rep.mono HP.out HBw.out)).mono ?_; rintro ee W7 ⟨v7, rfl, hF7, hb⟩; obtain ⟨a7, n7, c7, rfl⟩ := hF7.repS.shape; have HF7 := Lib.hid hF7.repS; have HB7 := Lib.hid (bel_next HB.out hb); have HW7 := Lib.hid (HW.out.grow hb); clear hb hF7)
          | (at_builtin; refine wpList_append_bytes rfl _ _ 28 rfl Tryd.underlying28 info_u8 a n c _ rfl HW7.out hpos a7 n7 c7 (ends x) rfl HF7.out hsum ?_; intro a8 n8 c8 W8 HO8 hg8 hat8; have HW8 := Lib.hid HO8; have HB8 := Lib.hid (HB7.out.grown hg8 HB7.out.size (fun j hj => by cases hj; exact hab)); have ha8 : wb.heap.size ≤ a8.block := (by rcases hat8 with e | e; (rw [e]; exact hab); (rw [e]; exact HB7.out.size)); clear HO8 hg8 hat8))
        go_ret
        exact ⟨_, rfl, ⟨[a8.block], by rw [HN.out]; exact HW8.out.ownS, by simp, by simp; omega⟩, HWB.out.trans (HB8.out.mono hwz)⟩
end Go.Proofs.YtlkadeaomjoiiaaDoor
