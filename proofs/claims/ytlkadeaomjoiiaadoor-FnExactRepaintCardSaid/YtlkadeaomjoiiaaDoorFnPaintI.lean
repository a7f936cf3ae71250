/- The walk of the program's Paint. -/
import Derived.Test.YtlkadeaomjoiiaaDoorFnPaintBase
import Derived.Lib.SlBytesConst
set_option linter.unusedSimpArgs false
set_option linter.unusedVariables false
namespace Go.Mux
open Go.RowKit
def paintRows (g : DGrid) : Nat → List UInt8
  | 0 => []
  | n + 1 => paintRows g n ++ runOut g (n : Int) 0 (rowEnd (rowOf g (n : Int)) (rowOf g (n : Int)).length : Nat)
@[irreducible] def paint (x : DView) : List UInt8 := if viewOk x then ([27, 99] ++ paintRows x.Grid x.Grid.H.toNat) ++ (viewEnds x).data.toList else []
theorem runBytes_len {g : DGrid} {y a b : Int} : (runOut g y a b).length ≤ 16384 := runOut_wt g y a b
theorem paintRows_len {g : DGrid} (hg : gridOkB g = true) : ∀ k : Nat, (paintRows g k).length ≤ k * 16384
  | 0 => by simp [paintRows]
  | k + 1 => by
    have h1 := paintRows_len hg k
    have h2 := runOut_wt g (k : Int) 0 (rowEnd (rowOf g (k : Int)) (rowOf g (k : Int)).length : Nat)
    rw [paintRows, List.length_append]
    omega
end Go.Mux
namespace Go.Proofs.YtlkadeaomjoiiaaDoor
open Go.RowKit Go.Mux
set_option maxRecDepth 100000 in
set_option maxHeartbeats 2000000 in
theorem impl_Paint' (w : World) (cs : List Value) (x : DView) (h : Rep.rep w cs x) (htab : Tab Tryd.prog w) : Calls Tryd.prog 10 #[.agg cs.toArray] w (Gives w fun r w' => FreshS w.heap.size w' r (paint x)) := by
  have HP := Lib.hid h
  have HT := Lib.hid htab
  obtain ⟨a0, n0, c0, rfl⟩ := DView.shape h
  clear h htab
  have kb := fun (w : World) (C : Array Value) (n c : Nat) => Lib.run_convert_bytes_const (P := Tryd.prog) w 28 5 C n c Tryd.underlying28 Tryd.underlying5
  cases hv : viewOk x
  · have HV := Lib.hid hv
    have HN := Lib.hid (show paint x = [] by unfold paint; simp [hv])
    clear hv
    go_enter Tryd.func10, Tryd.ntmps10
    go_wp2_with (go_at_call 34; refine (impl_ViewOk _ [_, _, _, _, _, _] x (Rep.mono HP.out (by repeat (first | (with_reducible exact Below.refl _ _) | (with_reducible assumption) | (with_reducible refine bel_alloc ?_ _) | ((with_reducible refine bel_set ?_ ?_ _); rotate_left; (focus first | (simp; done) | (simp; omega))))))).mono ?_; rintro e W1 ⟨_, rfl, rfl, hb⟩; rw [HV.out]; have HB1 := Lib.hid (bel_next (show Below w.heap.size w _ from (by repeat (first | (with_reducible exact Below.refl _ _) | (with_reducible assumption) | (with_reducible refine bel_alloc ?_ _) | ((with_reducible refine bel_set ?_ ?_ _); rotate_left; (focus first | (simp; done) | (simp; omega)))))) hb); clear hb)
    go_ret
    exact ⟨_, rfl, freshS_nil _ _ HN.out, HB1.out⟩
  · have HV := Lib.hid hv
    clear hv
    go_enter Tryd.func10, Tryd.ntmps10
    go_wp2_with fail
    refine (impl_ViewOk _ [_, _, _, _, _, _] x (Rep.mono HP.out (by repeat (first | (with_reducible exact Below.refl _ _) | (with_reducible assumption) | (with_reducible refine bel_alloc ?_ _) | ((with_reducible refine bel_set ?_ ?_ _); rotate_left; (focus first | (simp; done) | (simp; omega))))))).mono ?_
    rintro e W1 ⟨_, rfl, rfl, hb⟩
    rw [HV.out]
    obtain ⟨wb, hwb⟩ : ∃ wb, wb = w.alloc (.cells #[.int .i64 x.Grid.W, .int .i64 x.Grid.H, .slice a0 n0 c0, .int .i64 x.X, .int .i64 x.Y, .bool x.Hide] 34) := ⟨_, rfl⟩
    rw [← hwb] at hb
    have hwz : wb.heap.size = w.heap.size + 1 := by rw [hwb]; simp
    have HWB := Lib.hid (show Below w.heap.size w wb from by rw [hwb]; exact bel_alloc (Below.refl _ _) _)
    have b0 : wb.cell? ⟨w.heap.size, 0, none⟩ = some (.int .i64 x.Grid.W) := by rw [hwb]; simp
    have b1 : wb.cell? ⟨w.heap.size, 1, none⟩ = some (.int .i64 x.Grid.H) := by rw [hwb]; simp
    have b2 : wb.cell? ⟨w.heap.size, 2, none⟩ = some (.slice a0 n0 c0) := by rw [hwb]; simp
    have b3 : wb.cell? ⟨w.heap.size, 3, none⟩ = some (.int .i64 x.X) := by rw [hwb]; simp
    have b4 : wb.cell? ⟨w.heap.size, 4, none⟩ = some (.int .i64 x.Y) := by rw [hwb]; simp
    have b5 : wb.cell? ⟨w.heap.size, 5, none⟩ = some (.bool x.Hide) := by rw [hwb]; simp
    clear hwb
    have HB1 := Lib.hid hb
    have hz1 := hb.size
    have kA := fun o => hb.cell (p := ⟨w.heap.size, o, none⟩) (show w.heap.size < wb.heap.size by omega)
    have k1 : W1.cell? ⟨w.heap.size, 1, none⟩ = some (.int .i64 x.Grid.H) := (kA 1).trans b1
    have hlt2 : w.heap.size < W1.heap.size := by omega
    clear hb kA
    have HO := Lib.hid (show OwnB (W1.alloc (.cells #[.int .u8 27, .int .u8 99] 5 (2, 3))) ⟨W1.heap.size, 0, none⟩ 2 2 [27, 99] from
      ⟨rfl, by decide, rfl, .inr ⟨W1.heap.size, 2, _, rfl, Nat.zero_le _, ⟨_, heap_alloc_new W1 _, .inr (Nat.le_refl _)⟩, Nat.le_refl _, by decide, rfl, rfl⟩⟩)
    obtain ⟨HG, hgr⟩ : Hid (gridOkB x.Grid = true) ∧ Rep.rep w [.int .i64 x.Grid.W, .int .i64 x.Grid.H, .slice a0 n0 c0] x.Grid := by
      refine ⟨?_, ?_⟩
      · have h := HV.out
        unfold viewOk at h
        simp only [Bool.and_eq_true] at h
        exact h.1
      · obtain ⟨v0, e, i0, i1, i2, i3, i4⟩ := DView.rep_iff.1 HP.out
        simp only [List.cons.injEq, and_true, true_and] at e
        obtain rfl := e
        exact DView.grid i0 i1 i2
    have HGR := Lib.hid hgr
    obtain ⟨s1, s2, s3, s4, _⟩ := gridOkB_size HG.out
    clear hgr
    go_wp2_with fail
    go_loopw [3, 15] (fun o xs wr => ∃ (k : Nat) (a : Addr) (n c : Nat), (k : Int) ≤ x.Grid.H ∧ xs = .int .i64 (k : Int) ∧ o = .slice (some a) n c ∧ wb.heap.size ≤ a.block ∧ Hid (OwnB wr a n c ([27, 99] ++ paintRows x.Grid k)) ∧ Hid (Below wb.heap.size wb wr)) (fun _ xs _ => x.Grid.H.toNat - (intOf xs).toNat)
    case atStart => exact ⟨0, _, _, _, by omega, rfl, rfl, hz1, by show OwnB _ _ _ _ _; simpa [paintRows] using HO.out, bel_alloc HB1.out _⟩
    case round =>
      obtain ⟨k, a, n, c, hk, rfl, rfl, hab, HW, HB⟩ := hrel
      have HBw := Lib.hid (HWB.out.trans (HB.out.mono (by omega)))
      have r0 : wr.cell? ⟨w.heap.size, 0, none⟩ = some (.int .i64 x.Grid.W) := (HB.out.cell (p := ⟨w.heap.size, 0, none⟩) (by show w.heap.size < _; omega)).trans b0
      have r1 : wr.cell? ⟨w.heap.size, 1, none⟩ = some (.int .i64 x.Grid.H) := (HB.out.cell (p := ⟨w.heap.size, 1, none⟩) (by show w.heap.size < _; omega)).trans b1
      have r2 : wr.cell? ⟨w.heap.size, 2, none⟩ = some (.slice a0 n0 c0) := (HB.out.cell (p := ⟨w.heap.size, 2, none⟩) (by show w.heap.size < _; omega)).trans b2
      have r3 : wr.cell? ⟨w.heap.size, 3, none⟩ = some (.int .i64 x.X) := (HB.out.cell (p := ⟨w.heap.size, 3, none⟩) (by show w.heap.size < _; omega)).trans b3
      have r4 : wr.cell? ⟨w.heap.size, 4, none⟩ = some (.int .i64 x.Y) := (HB.out.cell (p := ⟨w.heap.size, 4, none⟩) (by show w.heap.size < _; omega)).trans b4
      have r5 : wr.cell? ⟨w.heap.size, 5, none⟩ = some (.bool x.Hide) := (HB.out.cell (p := ⟨w.heap.size, 5, none⟩) (by show w.heap.size < _; omega)).trans b5
      by_cases hkh : (k : Int) < x.Grid.H
      · have g1 : decide ((k : Int) < x.Grid.H) = true := decide_eq_true hkh
        go_wp2_with fail
        refine (impl_Grid_row w _ [_, _, _] x.Grid (k : Int) HGR.out HG.out (by omega) hkh).mono ?_
        rintro e W3 ⟨_, rfl, hr, hb⟩
        obtain ⟨ra, rn, rc, rfl⟩ := hr.shape
        have HB3 := Lib.hid (bel_next HB.out hb)
        have HW3 := Lib.hid (HW.out.grow hb)
        have hrn : rn = (rowOf x.Grid (k : Int)).length := by obtain ⟨_, _, e, _⟩ := hr; injection e
        subst hrn
        obtain ⟨ra', rc', e', _, hcc⟩ := hr
        cases e'
        have HC := Lib.hid hcc
        have hrl := rowOf_len HG.out (show (0 : Int) ≤ (k : Int) by omega) hkh
        have hpl := paintRows_len HG.out k
        clear hcc hb
        go_wp2_with fail
        go_loopw [6] (fun ev wr2 => ∃ e : Nat, e ≤ (rowOf x.Grid (k : Int)).length ∧ ev = .int .i64 (e : Int) ∧ Hid (rowEnd (rowOf x.Grid (k : Int)) (rowOf x.Grid (k : Int)).length = rowEnd (rowOf x.Grid (k : Int)) e) ∧ Hid (Below W3.heap.size W3 wr2)) (fun ev _ => (intOf ev).toNat)
        case atStart => exact ⟨_, Nat.le_refl _, by rw [hrl], rfl, Below.refl _ _⟩
        case round =>
        obtain ⟨e, he, rfl, HRE, HB4⟩ := hrel
        by_cases he0 : e = 0
        · have d1 : decide (0 < e) = false := decide_eq_false (by omega)
          have HR0 := Lib.hid (show paintRows x.Grid (k + 1) = paintRows x.Grid k from by
            rw [paintRows, HRE.out, he0, rowEnd, runOut_no (by unfold runOk; simp), List.append_nil])
          clear he0
          go_wp2_with fail
          refine wp_region_ext (by kernel_rfl) (by kernel_rfl) ?_
          repeat (go_big_quiet_step (fail))
          refine wpQuiet_nil ?_
          intro _ hw'
          obtain ⟨eW, rfl⟩ := hw'
          have HB5 := Lib.hid (bel_next HB4.out eW.bel)
          have HBb := Lib.hid (bel_next HB3.out HB5.out)
          have HBq := Lib.hid (HWB.out.trans (HBb.out.mono (by omega)))
          have HW5 := Lib.hid (HW3.out.grow HB5.out)
          have hW3z := HB5.out.size
          go_wp2_with fail
          go_roundw
          case rel => exact ⟨k + 1, a, n, c, by omega, by go_num, rfl, hab, by show OwnB _ _ _ _ _; rw [HR0.out]; exact HW5.out, HBb.out⟩
          case measure => simp [intOf]; omega
        · have d1 : decide (0 < e) = true := decide_eq_true (by omega)
          have hepos : 0 < e := by omega
          obtain ⟨ei, hei⟩ : ∃ ei, e = ei + 1 := ⟨e - 1, by omega⟩
          have hsw : IntKind.i64.wrap ((e : Int) - 1) = (ei : Int) := by rw [IntKind.wrap_i64]; omega
          have hlt : ei < (rowOf x.Grid (k : Int)).length := by omega
          have hei0 : (0 : Int) ≤ (ei : Int) := by omega
          have hei1 : (ei : Int) < ((rowOf x.Grid (k : Int)).length : Int) := by omega
          have HB4w := Lib.hid (HWB.out.trans ((bel_next HB3.out HB4.out).mono (by omega)))
          have hB0 := HB4w.out
          have hne : (rowOf x.Grid (k : Int)) ≠ [] := by intro e; rw [e] at hlt; simp at hlt
          obtain ⟨b, off, rfl, hc⟩ := HC.out hne
          obtain ⟨q, hx⟩ : ∃ q, (rowOf x.Grid (k : Int))[ei]? = some q := ⟨(rowOf x.Grid (k : Int))[ei], by simp [hlt]⟩
          obtain ⟨rr, hrep, hcell⟩ := hc ei q hx
          have HI := Lib.hid (show (Tryd.prog.info? 66).map (·.size) = some rr.length by rw [Rep.len hrep]; exact size_implCell)
          have HL := Lib.hid (show ∀ (j : Nat) u, rr[j]? = some u → wr.cell? ⟨b, off + ei * 6 + j, none⟩ = some u from fun j u hu => (hB0.cell (p := ⟨b, _, none⟩) (World.block_lt_of_cell? w _ (hcell j u hu))).trans (hcell j u hu))
          have HR := Lib.hid hrep
          have HX := Lib.hid hx
          obtain rfl := DCell.shape hrep
          clear hc hcell hrep hne hx
          have q0 := ext_cell (W := wr) (b := b) (o := off + ei * 6) (v := .int .i64 q.R) (by simpa using HL.out 0 _ rfl)
          have q1 := ext_cell (W := wr) (b := b) (o := off + ei * 6 + 1) (v := .int .i64 q.A.Fg) (HL.out 1 _ rfl)
          have q2 := ext_cell (W := wr) (b := b) (o := off + ei * 6 + 2) (v := .int .i64 q.A.Bg) (HL.out 2 _ rfl)
          have q3 := ext_cell (W := wr) (b := b) (o := off + ei * 6 + 3) (v := .bool q.A.Bold) (HL.out 3 _ rfl)
          have q4 := ext_cell (W := wr) (b := b) (o := off + ei * 6 + 4) (v := .bool q.A.Under) (HL.out 4 _ rfl)
          have q5 := ext_cell (W := wr) (b := b) (o := off + ei * 6 + 5) (v := .bool q.A.Turn) (HL.out 5 _ rfl)
          have hgd : Tryd.prog.eqGuardType Tryd.prog.depth 66 = false := by kernel_rfl
          have HEI := Lib.hid hei
          clear hei he0
          cases hs : cellSame q blankC
          · have heq : ∀ w : World, (Op.equalIn 10000 66 (.agg #[.int .i64 q.R, .int .i64 q.A.Fg, .int .i64 q.A.Bg, .bool q.A.Bold, .bool q.A.Under, .bool q.A.Turn]) (.agg #[.int .i64 32, .int .i64 0, .int .i64 0, .bool false, .bool false, .bool false])).run Tryd.prog w = .ok false w := fun w => (eq_cell q blankC w).trans (by rw [hs])
            have HRE2 := Lib.hid (show rowEnd (rowOf x.Grid (k : Int)) e = e from by rw [HEI.out, rowEnd, HX.out]; simp [hs])
            clear hs
            go_wp2_with fail
            refine wp_region_ext (by kernel_rfl) (by kernel_rfl) ?_
            repeat (go_big_quiet_step ((go_at_call 36; exact ext_gives (impl.blank' _))))
            refine wpQuiet_nil ?_
            intro _ hw'
            obtain ⟨eW, rfl⟩ := hw'
            have HB5 := Lib.hid (bel_next HB4.out eW.bel)
            have HBb := Lib.hid (bel_next HB3.out HB5.out)
            have HBq := Lib.hid (HWB.out.trans (HBb.out.mono (by omega)))
            have HW5 := Lib.hid (HW3.out.grow HB5.out)
            have hW3z := HB5.out.size
            have HRO := Lib.hid (show runOut x.Grid (k : Int) 0 (e : Int) = runBytes x.Grid (k : Int) ((0 : Nat) : Int) (e : Int) from runOut_yes (by unfold runOk; simp only [HG.out, Bool.true_and, Bool.and_eq_true, decide_eq_true_eq]; exact ⟨withinB_true.2 ⟨by omega, by omega⟩, by omega, by omega, by omega⟩))
            have HR1 := Lib.hid (show paintRows x.Grid (k + 1) = paintRows x.Grid k ++ runBytes x.Grid (k : Int) ((0 : Nat) : Int) (e : Int) from by
              rw [paintRows, HRE.out, HRE2.out, HRO.out])
            have hwt := runOut_wt x.Grid (k : Int) 0 (e : Int)
            rw [HRO.out] at hwt
            have hk120 : k * 16384 ≤ 120 * 16384 := Nat.mul_le_mul_right _ (by omega)
            have hpos : 0 < ([27, 99] ++ paintRows x.Grid k).length := by simp
            have hsum : ([27, 99] ++ paintRows x.Grid k).length + (runBytes x.Grid (k : Int) ((0 : Nat) : Int) (e : Int)).length ≤ 140737488355328 := by rw [List.length_append]; simp only [List.length_cons, List.length_nil]; omega
            have y0 : eW.w.cell? ⟨w.heap.size, 0, none⟩ = some (.int .i64 x.Grid.W) := (HBb.out.cell (p := ⟨w.heap.size, 0, none⟩) (by show w.heap.size < _; omega)).trans b0
            have y1 : eW.w.cell? ⟨w.heap.size, 1, none⟩ = some (.int .i64 x.Grid.H) := (HBb.out.cell (p := ⟨w.heap.size, 1, none⟩) (by show w.heap.size < _; omega)).trans b1
            have y2 : eW.w.cell? ⟨w.heap.size, 2, none⟩ = some (.slice a0 n0 c0) := (HBb.out.cell (p := ⟨w.heap.size, 2, none⟩) (by show w.heap.size < _; omega)).trans b2
            clear q0 q1 q2 q3 q4 q5 heq
            go_wp2_with (first | (go_at_call 37; refine (impl_run _ [_, _, _] x.Grid (k : Int) 0 e (Rep.mono HGR.out HBq.out) HG.out (by omega) hkh (by omega) (by omega) (HT.out.mono HBq.out)).mono ?_; rintro ee W7 ⟨v7, rfl, hF7, hb⟩; obtain ⟨a7, n7, c7, rfl⟩ := hF7.repS.shape; have HF7 := Lib.hid hF7.repS; have HB7 := Lib.hid (bel_next HBb.out hb); have HW7 := Lib.hid (HW5.out.grow hb); clear hb hF7) | (at_builtin; refine wpList_append_bytes rfl _ _ 28 rfl Tryd.underlying28 info_u8 a n c _ rfl HW7.out hpos a7 n7 c7 (runBytes x.Grid (k : Int) ((0 : Nat) : Int) (e : Int)) rfl HF7.out hsum ?_; intro a8 n8 c8 W8 HO8 hg8 hat8; have HW8 := Lib.hid HO8; have HB8 := Lib.hid (HB7.out.grown hg8 HB7.out.size (fun j hj => by cases hj; exact hab)); have ha8 : wb.heap.size ≤ a8.block := (by rcases hat8 with e | e; (rw [e]; exact hab); (rw [e]; exact HB7.out.size)); clear HO8 hg8 hat8))
            go_roundw
            case rel => exact ⟨k + 1, a8, n8, c8, by omega, by go_num, rfl, ha8, by show OwnB _ _ _ _ _; rw [HR1.out]; simpa [List.append_assoc] using HW8.out, HB8.out⟩
            case measure => simp [intOf]; omega
          · have heq : ∀ w : World, (Op.equalIn 10000 66 (.agg #[.int .i64 q.R, .int .i64 q.A.Fg, .int .i64 q.A.Bg, .bool q.A.Bold, .bool q.A.Under, .bool q.A.Turn]) (.agg #[.int .i64 32, .int .i64 0, .int .i64 0, .bool false, .bool false, .bool false])).run Tryd.prog w = .ok true w := fun w => (eq_cell q blankC w).trans (by rw [hs])
            have HRE2 := Lib.hid (show rowEnd (rowOf x.Grid (k : Int)) e = rowEnd (rowOf x.Grid (k : Int)) ei from by rw [HEI.out, rowEnd, HX.out]; simp [hs])
            clear hs
            go_wp2_with fail
            refine wp_region_ext (by kernel_rfl) (by kernel_rfl) ?_
            repeat (go_big_quiet_step ((go_at_call 36; exact ext_gives (impl.blank' _))))
            refine wpQuiet_nil ?_
            intro _ hw'
            obtain ⟨eW, rfl⟩ := hw'
            have HB5 := Lib.hid (bel_next HB4.out eW.bel)
            have HBb := Lib.hid (bel_next HB3.out HB5.out)
            have HBq := Lib.hid (HWB.out.trans (HBb.out.mono (by omega)))
            have HW5 := Lib.hid (HW3.out.grow HB5.out)
            have hW3z := HB5.out.size
            go_wp2_with fail
            go_roundw
            case rel => exact ⟨ei, by omega, by go_num, by show _ = _; rw [HRE.out, HRE2.out], HB5.out⟩
            case measure => have := HEI.out; simp [intOf]; omega
      · have g1 : decide ((k : Int) < x.Grid.H) = false := decide_eq_false hkh
        have hkH : x.Grid.H.toNat = k := by omega
        obtain ⟨hx, hy⟩ := viewOk_at HV.out
        have HN := Lib.hid (show paint x = ([27, 99] ++ paintRows x.Grid k) ++ (viewEnds x).data.toList from by unfold paint; rw [if_pos HV.out, hkH])
        have hez := viewEnds_size x
        have hpl := paintRows_len HG.out k
        have hk120 : k * 16384 ≤ 120 * 16384 := Nat.mul_le_mul_right _ (by omega)
        have hsum : ([27, 99] ++ paintRows x.Grid k).length + (viewEnds x).size ≤ 140737488355328 := by rw [List.length_append]; simp only [List.length_cons, List.length_nil]; omega
        clear hkH
        go_wp2_with (first
          | (go_at_call 38; refine (impl_View_ends _ [_, _, _, _, _, _] x (Rep.mono HP.out HBw.out) (HT.out.mono HBw.out) hx hy).mono ?_; rintro e W5 ⟨_, rfl, rfl, hb⟩; have HB5 := Lib.hid (bel_next HB.out hb); have HW5 := Lib.hid (HW.out.grow hb); clear hb)
          | (at_builtin; refine wpList_append_str rfl _ _ 28 9 rfl Tryd.underlying28 Tryd.underlying9 info_u8 a n c _ rfl HW5.out (viewEnds x) rfl hsum ?_; intro a6 n6 c6 W6 HO6 hg6 hat6; have HW6 := Lib.hid HO6; have HB6 := Lib.hid (HB5.out.grown hg6 HB5.out.size (fun j hj => by cases hj; exact hab)); have ha6 : wb.heap.size ≤ a6.block := (by rcases hat6 with e | e; (rw [e]; exact hab); (rw [e]; exact HB5.out.size)); clear HO6 hg6 hat6))
        go_ret
        exact ⟨_, rfl, ⟨[a6.block], by rw [HN.out]; exact HW6.out.ownS, by simp, by simp; omega⟩, HWB.out.trans (HB6.out.mono (by omega))⟩
end Go.Proofs.YtlkadeaomjoiiaaDoor
