/- The walk of the reference's Run. -/
import Derived.Test.YtlkadeaomjoiiaaDoorFnRunI
set_option linter.unusedSimpArgs false
set_option linter.unusedVariables false
namespace Go.Mux
open Go.RowKit
theorem attrSame_comm (a b : DAttr) : attrSame a b = attrSame b a := by
  unfold attrSame
  rw [Bool.eq_iff_iff]
  simp only [Bool.and_eq_true, decide_eq_true_eq, beq_iff_eq]
  constructor <;> (rintro ⟨⟨⟨⟨h1, h2⟩, h3⟩, h4⟩, h5⟩; exact ⟨⟨⟨⟨h1.symm, h2.symm⟩, h3.symm⟩, h4.symm⟩, h5.symm⟩)
theorem row_at {x : DGrid} {y : Int} {lo m k : Nat} (h : rowOf x y = (x.Cells.drop lo).take m) (hk : k < m) : (rowOf x y)[k]? = x.Cells[lo + k]? := by
  rw [h, List.getElem?_take_of_lt hk, List.getElem?_drop]
end Go.Mux
namespace Go.Proofs.YtlkadeaomjoiiaaDoor
open Go.RowKit Go.Mux
set_option maxRecDepth 100000 in
set_option maxHeartbeats 4000000 in
theorem spec_Run_ok (w : World) (x : DGrid) (a0 : Option Addr) (n0 c0 : Nat) (y : Int) (f t : Nat) (HP : Hid (Rep.rep w [.int .i64 x.W, .int .i64 x.H, .slice a0 n0 c0] x)) (hg : gridOkB x = true) (h0 : 0 ≤ y) (h1 : y < x.H) (hf : f < t) (ht : (t : Int) ≤ x.W) :
    Calls Tryd.prog 31 #[.agg [.int .i64 x.W, .int .i64 x.H, .slice a0 n0 c0].toArray, .int .i64 y, .int .i64 f, .int .i64 t] w (Gives w fun r w' => FreshS w.heap.size w' r (runBytes x y f t)) := by
  obtain ⟨s1, s2, s3, s4, _⟩ := gridOkB_size hg
  obtain ⟨lo, m, e0, e1, e2, e3, e4, e5, e6, e7⟩ := row_arith hg h0 h1
  have HE7 := Lib.hid e7
  have HE0 := Lib.hid e0
  have HG := Lib.hid hg
  have hgz := gotoText_size (f : Int) y
  obtain ⟨v0, ev, _, _, hcs⟩ := DGrid.rep_iff.1 HP.out
  simp only [List.cons.injEq, and_true, true_and] at ev
  obtain rfl := ev
  obtain ⟨ca, ccap, ecs, _, hcc⟩ := hcs
  cases ecs
  have HC := Lib.hid hcc
  have hw1 : IntKind.i64.wrap (y * x.W) = (lo : Int) := by rw [e1, IntKind.wrap_i64]; omega
  have htm : t ≤ m := by omega
  have d1 : decide (y < 0) = false := decide_eq_false (by omega)
  have d2 : decide (x.H ≤ y) = false := decide_eq_false (by omega)
  have d3 : decide ((f : Int) < 0) = false := decide_eq_false (by omega)
  have d4 : decide ((t : Int) ≤ (f : Int)) = false := decide_eq_false (by omega)
  have d5 : decide (x.W < (t : Int)) = false := decide_eq_false (by omega)
  have kc := fun (w : World) (s : ByteArray) => Lib.run_convert_string_bytes (P := Tryd.prog) w 9 28 5 s Tryd.underlying9 Tryd.underlying28 Tryd.underlying5
  clear hg hcc e1 e2 e7 e0
  go_enter Tryd.func31, Tryd.ntmps31
  go_wp2_with fail
  refine (spec_GridOk _ [_, _, _] x (Rep.mono HP.out (by repeat (first | (with_reducible exact Below.refl _ _) | (with_reducible assumption) | (with_reducible refine bel_alloc ?_ _) | ((with_reducible refine bel_set ?_ ?_ _); rotate_left; (focus first | (simp; done) | (simp; omega))))))).mono ?_
  rintro e W0 ⟨_, rfl, rfl, hb⟩
  rw [HG.out]
  obtain ⟨wb, hwb⟩ : ∃ wb, wb = w.alloc (.cells #[.int .i64 x.W, .int .i64 x.H, .slice a0 x.Cells.length c0] 32) := ⟨_, rfl⟩
  rw [← hwb] at hb
  have hwz : wb.heap.size = w.heap.size + 1 := by rw [hwb]; simp
  have HWB := Lib.hid (show Below w.heap.size w wb from by rw [hwb]; exact bel_alloc (Below.refl _ _) _)
  have b0 : wb.cell? ⟨w.heap.size, 0, none⟩ = some (.int .i64 x.W) := by rw [hwb]; simp
  have b1 : wb.cell? ⟨w.heap.size, 1, none⟩ = some (.int .i64 x.H) := by rw [hwb]; simp
  have b2 : wb.cell? ⟨w.heap.size, 2, none⟩ = some (.slice a0 x.Cells.length c0) := by rw [hwb]; simp
  clear hwb
  have HB0 := Lib.hid hb
  have k0 : W0.cell? ⟨w.heap.size, 0, none⟩ = some (.int .i64 x.W) := (hb.cell (p := ⟨w.heap.size, 0, none⟩) (by show w.heap.size < _; omega)).trans b0
  have k1 : W0.cell? ⟨w.heap.size, 1, none⟩ = some (.int .i64 x.H) := (hb.cell (p := ⟨w.heap.size, 1, none⟩) (by show w.heap.size < _; omega)).trans b1
  clear hb
  go_wp2_with fail
  refine (spec_l20Goto _ (f : Int) y (by omega) (by omega)).mono ?_
  rintro e W1 ⟨_, rfl, rfl, hb⟩
  have HB1 := Lib.hid (bel_next HB0.out hb)
  have HF := Lib.hid (freshS_bytes W1 (gotoText (f : Int) y) (by omega))
  have HB2 := Lib.hid (bel_next HB1.out (below_bytes W1 5 (gotoText (f : Int) y)))
  have HO := Lib.hid (show OwnB (Lib.bytesWorld W1 5 (gotoText (f : Int) y)) ⟨W1.heap.size, 0, none⟩ (gotoText (f : Int) y).size (grownCap W1 (gotoText (f : Int) y).size 0 5) (gotoText (f : Int) y).data.toList from by
    obtain ⟨fp, ho, hn, hbf⟩ := HF.out
    exact OwnB.of ho)
  have hz1 := HB1.out.size
  clear hb k0 k1
  go_wp2_with fail
  go_loopw [9, 10] (fun o xs wr => ∃ (k : Nat) (a : Addr) (n c : Nat), f ≤ k ∧ k ≤ t ∧ xs = .int .i64 (k : Int) ∧ o = .slice (some a) n c ∧ wb.heap.size ≤ a.block ∧ Hid (OwnB wr a n c ((gotoText (f : Int) y).data.toList ++ runCells (rowOf x y) f (k - f))) ∧ Hid (Below wb.heap.size wb wr)) (fun _ xs _ => t - (intOf xs).toNat)
  case atStart => exact ⟨f, _, _, _, Nat.le_refl _, by omega, rfl, rfl, hz1, by show OwnB _ _ _ _ _; rw [Nat.sub_self]; simpa [runCells] using HO.out, HB2.out⟩
  case round =>
    obtain ⟨k, a, n, c, hk0, hk, rfl, rfl, hab, HW, HB⟩ := hrel
    have HBw := Lib.hid (HWB.out.trans (HB.out.mono (by omega)))
    by_cases hkt : k < t
    · obtain ⟨i, hi⟩ : ∃ i, i = lo + k := ⟨_, rfl⟩
      have hlt : i < x.Cells.length := by omega
      have hB0 := HBw.out
      have HCC := HC
      have hne : x.Cells ≠ [] := by intro e; rw [e] at hlt; simp at hlt
      obtain ⟨b, off, rfl, hc⟩ := HC.out hne
      obtain ⟨q, hx⟩ : ∃ q, x.Cells[i]? = some q := ⟨x.Cells[i], by simp [hlt]⟩
      obtain ⟨rr, hrep, hcell⟩ := hc i q hx
      have HI := Lib.hid (show (Tryd.prog.info? 66).map (·.size) = some rr.length by rw [Rep.len hrep]; exact size_implCell)
      have HL := Lib.hid (show ∀ (j : Nat) u, rr[j]? = some u → wr.cell? ⟨b, off + i * 6 + j, none⟩ = some u from fun j u hu => (hB0.cell (p := ⟨b, _, none⟩) (World.block_lt_of_cell? w _ (hcell j u hu))).trans (hcell j u hu))
      have HR := Lib.hid hrep
      have HX := Lib.hid hx
      obtain rfl := DCell.shape hrep
      clear hc hcell hrep hne hx
      have hbw : b < w.heap.size := by
        obtain ⟨b', off', e, hh⟩ := HCC.out (by intro e; rw [e] at hlt; simp at hlt)
        cases e
        obtain ⟨r, hr, hcr⟩ := hh i q HX.out
        obtain rfl := DCell.shape hr
        exact World.block_lt_of_cell? w _ (hcr 0 _ rfl)
      have HROW := Lib.hid (show (rowOf x y)[k]? = some q from by rw [row_at HE7.out (by omega), ← hi]; exact HX.out)
      have r0 : wr.cell? ⟨w.heap.size, 0, none⟩ = some (.int .i64 x.W) := (HB.out.cell (p := ⟨w.heap.size, 0, none⟩) (by show w.heap.size < _; omega)).trans b0
      have r2 : wr.cell? ⟨w.heap.size, 2, none⟩ = some (.slice (some ⟨b, off, none⟩) x.Cells.length c0) := (HB.out.cell (p := ⟨w.heap.size, 2, none⟩) (by show w.heap.size < _; omega)).trans b2
      have hiw : IntKind.i64.wrap ((lo : Int) + (k : Int)) = (i : Int) := by rw [IntKind.wrap_i64]; omega
      have hi0 : (0 : Int) ≤ (i : Int) := by omega
      have hi1 : (i : Int) < (x.Cells.length : Int) := by omega
      have hrz := runeBytes_len q.R
      have hsz := sgrText_size q.A
      have hcz := runCells_len (rowOf x y) f (k - f)
      have hgz2 : (gotoText (f : Int) y).data.toList.length = (gotoText (f : Int) y).size := Array.length_toList
      have hg3 : 2 ≤ (gotoText (f : Int) y).size := gotoText_pos _ _
      have hsum : ((gotoText (f : Int) y).data.toList ++ runCells (rowOf x y) f (k - f)).length + (sgrText q.A).size ≤ 140737488355328 := by rw [List.length_append]; omega
      have hpos : 0 < ((gotoText (f : Int) y).data.toList ++ runCells (rowOf x y) f (k - f) ++ (sgrText q.A).data.toList).length := by simp only [List.length_append]; omega
      have hsum2 : ((gotoText (f : Int) y).data.toList ++ runCells (rowOf x y) f (k - f) ++ (sgrText q.A).data.toList).length + (runeBytes q.R).length ≤ 140737488355328 := by
        have h2 : (sgrText q.A).data.toList.length ≤ 64 := sgrText_size q.A
        simp only [List.length_append]; omega
      have hpos3 : 0 < ((gotoText (f : Int) y).data.toList ++ runCells (rowOf x y) f (k - f)).length := by simp only [List.length_append]; omega
      have hsum3 : ((gotoText (f : Int) y).data.toList ++ runCells (rowOf x y) f (k - f)).length + (runeBytes q.R).length ≤ 140737488355328 := by simp only [List.length_append]; omega
      have hkk : k + 1 - f = (k - f) + 1 := by omega
      have hkf2 : f + (k - f) = k := by omega
      have g3 : decide ((k : Int) < (t : Int)) = true := decide_eq_true (by omega)
      have haw := HW.out.lt
      have han : some wr.heap.size ≠ some a.block := by intro e; injection e; omega
      have HR0 := HR
      have HQ := Lib.hid (show Below wr.heap.size wr (wr.alloc (.cells #[.int .i64 q.R, .int .i64 q.A.Fg, .int .i64 q.A.Bg, .bool q.A.Bold, .bool q.A.Under, .bool q.A.Turn] 66)) from bel_alloc (Below.refl _ _) _)
      have n0' := ext_cell (W := wr.alloc (.cells #[.int .i64 q.R, .int .i64 q.A.Fg, .int .i64 q.A.Bg, .bool q.A.Bold, .bool q.A.Under, .bool q.A.Turn] 66)) (b := wr.heap.size) (o := 0) (v := .int .i64 q.R) (by simp)
      have n1 := ext_cell (W := wr.alloc (.cells #[.int .i64 q.R, .int .i64 q.A.Fg, .int .i64 q.A.Bg, .bool q.A.Bold, .bool q.A.Under, .bool q.A.Turn] 66)) (b := wr.heap.size) (o := 1) (v := .int .i64 q.A.Fg) (by simp)
      have n2 := ext_cell (W := wr.alloc (.cells #[.int .i64 q.R, .int .i64 q.A.Fg, .int .i64 q.A.Bg, .bool q.A.Bold, .bool q.A.Under, .bool q.A.Turn] 66)) (b := wr.heap.size) (o := 2) (v := .int .i64 q.A.Bg) (by simp)
      have n3 := ext_cell (W := wr.alloc (.cells #[.int .i64 q.R, .int .i64 q.A.Fg, .int .i64 q.A.Bg, .bool q.A.Bold, .bool q.A.Under, .bool q.A.Turn] 66)) (b := wr.heap.size) (o := 3) (v := .bool q.A.Bold) (by simp)
      have n4 := ext_cell (W := wr.alloc (.cells #[.int .i64 q.R, .int .i64 q.A.Fg, .int .i64 q.A.Bg, .bool q.A.Bold, .bool q.A.Under, .bool q.A.Turn] 66)) (b := wr.heap.size) (o := 4) (v := .bool q.A.Under) (by simp)
      have n5 := ext_cell (W := wr.alloc (.cells #[.int .i64 q.R, .int .i64 q.A.Fg, .int .i64 q.A.Bg, .bool q.A.Bold, .bool q.A.Under, .bool q.A.Turn] 66)) (b := wr.heap.size) (o := 5) (v := .bool q.A.Turn) (by simp)
      have x0 := ext_cell_alloc (.cells #[.int .i64 q.R, .int .i64 q.A.Fg, .int .i64 q.A.Bg, .bool q.A.Bold, .bool q.A.Under, .bool q.A.Turn] 66) r0
      have x2 := ext_cell_alloc (.cells #[.int .i64 q.R, .int .i64 q.A.Fg, .int .i64 q.A.Bg, .bool q.A.Bold, .bool q.A.Under, .bool q.A.Turn] 66) r2
      have HII := Lib.hid hi
      clear hi
      by_cases hkf : k = f
      · have g1 : decide ((k : Int) = (f : Int)) = true := decide_eq_true (by omega)
        have g2 : ((k : Int) == (f : Int)) = true := by simp; omega
        have HRE := Lib.hid (runCell_at (f := f) HROW.out hkf)
        clear hkf
        go_wp2_with (with_reducible (show wpList _ _ _ (Oper.mk _ (Op.load 66 _) _ _ _ _ :: _) _ _); refine wpList_load_agg rfl 66 _ rfl b _ rfl _ _ HL.out Tryd.underlying66 HI.out ?_)
        refine wp_region_ext (by kernel_rfl) (by kernel_rfl) ?_
        repeat (go_big_quiet_step (fail))
        refine wpQuiet_nil ?_
        intro _ hw'
        obtain ⟨eW, rfl⟩ := hw'
        have HBe := Lib.hid (bel_next (bel_next HB.out HQ.out) eW.bel)
        have HBv := Lib.hid (HWB.out.trans (HBe.out.mono (by omega)))
        have HWe := Lib.hid ((HW.out.grow HQ.out).grow eW.bel)
        have hve : wr.heap.size < eW.w.heap.size := by have := eW.bel.size; simp at this; omega
        have y0 := n0' eW
        have HLA := Lib.hid (show ∀ (j : Nat) u, [Value.int .i64 q.A.Fg, .int .i64 q.A.Bg, .bool q.A.Bold, .bool q.A.Under, .bool q.A.Turn][j]? = some u → eW.w.cell? ⟨wr.heap.size, 1 + j, none⟩ = some u from fun j u hu => by
          match j, hu with
          | 0, hu => cases hu; exact n1 eW
          | 1, hu => cases hu; exact n2 eW
          | 2, hu => cases hu; exact n3 eW
          | 3, hu => cases hu; exact n4 eW
          | 4, hu => cases hu; exact n5 eW
          | j + 5, hu => simp at hu)
        have HIA := Lib.hid (show (Tryd.prog.info? 64).map (·.size) = some [Value.int .i64 q.A.Fg, .int .i64 q.A.Bg, .bool q.A.Bold, .bool q.A.Under, .bool q.A.Turn].length from size_implAttr)
        go_wp2_with (first | ((with_reducible (show wpList _ _ _ (Oper.mk _ (Op.load 64 _) _ _ _ _ :: _) _ _)); refine wpList_load_agg rfl 64 _ rfl wr.heap.size 1 rfl _ _ HLA.out Tryd.underlying64 HIA.out ?_) | (go_at_call 65; refine (spec_SgrText _ [_, _, _, _, _] q.A (Rep.mono (DCell.attr HR0.out) HBv.out)).mono ?_; rintro e W5 ⟨_, rfl, rfl, hb⟩; have HB5 := Lib.hid (bel_next HBe.out hb); have HW5 := Lib.hid (HWe.out.grow hb); have e5 : W5.cell? ⟨wr.heap.size, 0, none⟩ = some (.int .i64 q.R) := (hb.cell (p := ⟨wr.heap.size, 0, none⟩) hve).trans (n0' eW); have h5z := hb.size; clear hb) | (at_builtin; refine wpList_append_str rfl _ _ 28 9 rfl Tryd.underlying28 Tryd.underlying9 info_u8 a n c _ rfl HW5.out (sgrText q.A) rfl hsum ?_; intro a6 n6 c6 W6 HO6 hg6 hat6; have HW6 := Lib.hid HO6; have HB6 := Lib.hid (HB5.out.grown hg6 HB5.out.size (fun j hj => by cases hj; exact hab)); have ha6 : wb.heap.size ≤ a6.block := (by rcases hat6 with e | e; (rw [e]; exact hab); (rw [e]; exact HB5.out.size)); have eR : W6.cell? ⟨wr.heap.size, 0, none⟩ = some (.int .i64 q.R) := hg6.cell e5 han; clear HO6 hg6 hat6) | (go_at_call 66; refine (spec_RuneBytes _ q.R).mono ?_; rintro e W7 ⟨v7, rfl, hF7, hb⟩; obtain ⟨a7, n7, c7, rfl⟩ := hF7.repS.shape; have HF7 := Lib.hid hF7.repS; have HB7 := Lib.hid (bel_next HB6.out hb); have HW7 := Lib.hid (HW6.out.grow hb); clear hb hF7) | (at_builtin; refine wpList_append_bytes rfl _ _ 28 rfl Tryd.underlying28 info_u8 a6 n6 c6 _ rfl HW7.out hpos a7 n7 c7 (runeBytes q.R) rfl HF7.out hsum2 ?_; intro a8 n8 c8 W8 HO8 hg8 hat8; have HW8 := Lib.hid HO8; have HB8 := Lib.hid (HB7.out.grown hg8 HB7.out.size (fun j hj => by cases hj; exact ha6)); have ha8 : wb.heap.size ≤ a8.block := (by rcases hat8 with e | e; (rw [e]; exact ha6); (rw [e]; exact HB7.out.size)); clear HO8 hg8 hat8))
        go_roundw
        case rel => exact ⟨k + 1, a8, n8, c8, by omega, by omega, by go_num, rfl, ha8, by show OwnB _ _ _ _ _; rw [hkk, runCells, hkf2, HRE.out]; simpa [List.append_assoc] using HW8.out, HB8.out⟩
        case measure => simp [intOf]; omega
      · have g1 : decide ((k : Int) = (f : Int)) = false := decide_eq_false (by omega)
        have g2 : ((k : Int) == (f : Int)) = false := by simp; omega
        have hi9 : 1 ≤ i := by have := HII.out; omega
        obtain ⟨pp, hpp⟩ : ∃ pp, x.Cells[i - 1]? = some pp := ⟨x.Cells[i - 1]'(by omega), by simp [show i - 1 < x.Cells.length from by omega]⟩
        have hii : i - 1 = lo + (k - 1) := by have := HII.out; omega
        have HPP := Lib.hid (show (rowOf x y)[k - 1]? = some pp from by rw [row_at HE7.out (by omega), ← hii]; exact hpp)
        clear hii
        have hsw : IntKind.i64.wrap ((i : Int) - 1) = ((i - 1 : Nat) : Int) := by rw [IntKind.wrap_i64]; omega
        have hi2 : (0 : Int) ≤ ((i - 1 : Nat) : Int) := by omega
        have hi3 : ((i - 1 : Nat) : Int) < (x.Cells.length : Int) := by omega
        obtain ⟨b', off', ee, hh⟩ := HCC.out (by intro e; rw [e] at hlt; simp at hlt)
        cases ee
        obtain ⟨r', hr', hcr⟩ := hh (i - 1) pp hpp
        obtain rfl := DCell.shape hr'
        have p1 := ext_cell_alloc (.cells #[.int .i64 q.R, .int .i64 q.A.Fg, .int .i64 q.A.Bg, .bool q.A.Bold, .bool q.A.Under, .bool q.A.Turn] 66) (show wr.cell? ⟨b, off + (i - 1) * 6 + 1, none⟩ = some (.int .i64 pp.A.Fg) from (HBw.out.cell (p := ⟨b, off + (i - 1) * 6 + 1, none⟩) hbw).trans (hcr 1 _ rfl))
        have p2 := ext_cell_alloc (.cells #[.int .i64 q.R, .int .i64 q.A.Fg, .int .i64 q.A.Bg, .bool q.A.Bold, .bool q.A.Under, .bool q.A.Turn] 66) (show wr.cell? ⟨b, off + (i - 1) * 6 + 1 + 1, none⟩ = some (.int .i64 pp.A.Bg) from (HBw.out.cell (p := ⟨b, off + (i - 1) * 6 + 2, none⟩) hbw).trans (hcr 2 _ rfl))
        have p3 := ext_cell_alloc (.cells #[.int .i64 q.R, .int .i64 q.A.Fg, .int .i64 q.A.Bg, .bool q.A.Bold, .bool q.A.Under, .bool q.A.Turn] 66) (show wr.cell? ⟨b, off + (i - 1) * 6 + 1 + 2, none⟩ = some (.bool pp.A.Bold) from (HBw.out.cell (p := ⟨b, off + (i - 1) * 6 + 3, none⟩) hbw).trans (hcr 3 _ rfl))
        have p4 := ext_cell_alloc (.cells #[.int .i64 q.R, .int .i64 q.A.Fg, .int .i64 q.A.Bg, .bool q.A.Bold, .bool q.A.Under, .bool q.A.Turn] 66) (show wr.cell? ⟨b, off + (i - 1) * 6 + 1 + 3, none⟩ = some (.bool pp.A.Under) from (HBw.out.cell (p := ⟨b, off + (i - 1) * 6 + 4, none⟩) hbw).trans (hcr 4 _ rfl))
        have p5 := ext_cell_alloc (.cells #[.int .i64 q.R, .int .i64 q.A.Fg, .int .i64 q.A.Bg, .bool q.A.Bold, .bool q.A.Under, .bool q.A.Turn] 66) (show wr.cell? ⟨b, off + (i - 1) * 6 + 1 + 4, none⟩ = some (.bool pp.A.Turn) from (HBw.out.cell (p := ⟨b, off + (i - 1) * 6 + 5, none⟩) hbw).trans (hcr 5 _ rfl))
        have hgd : Tryd.prog.eqGuardType Tryd.prog.depth 64 = false := by kernel_rfl
        clear hh hr' hcr hpp
        cases hs : attrSame q.A pp.A
        · have heq := fun w => (eq_attr pp.A q.A w).trans (by rw [attrSame_comm, hs])
          have HRE := Lib.hid (runCell_new (f := f) HROW.out HPP.out hs)
          clear hs hkf
          go_wp2_with (with_reducible (show wpList _ _ _ (Oper.mk _ (Op.load 66 _) _ _ _ _ :: _) _ _); refine wpList_load_agg rfl 66 _ rfl b _ rfl _ _ HL.out Tryd.underlying66 HI.out ?_)
          refine wp_region_ext (by kernel_rfl) (by kernel_rfl) ?_
          repeat (go_big_quiet_step (fail))
          refine wpQuiet_nil ?_
          intro _ hw'
          obtain ⟨eW, rfl⟩ := hw'
          have HBe := Lib.hid (bel_next (bel_next HB.out HQ.out) eW.bel)
          have HBv := Lib.hid (HWB.out.trans (HBe.out.mono (by omega)))
          have HWe := Lib.hid ((HW.out.grow HQ.out).grow eW.bel)
          have hve : wr.heap.size < eW.w.heap.size := by have := eW.bel.size; simp at this; omega
          have y0 := n0' eW
          have HLA := Lib.hid (show ∀ (j : Nat) u, [Value.int .i64 q.A.Fg, .int .i64 q.A.Bg, .bool q.A.Bold, .bool q.A.Under, .bool q.A.Turn][j]? = some u → eW.w.cell? ⟨wr.heap.size, 1 + j, none⟩ = some u from fun j u hu => by
            match j, hu with
            | 0, hu => cases hu; exact n1 eW
            | 1, hu => cases hu; exact n2 eW
            | 2, hu => cases hu; exact n3 eW
            | 3, hu => cases hu; exact n4 eW
            | 4, hu => cases hu; exact n5 eW
            | j + 5, hu => simp at hu)
          have HIA := Lib.hid (show (Tryd.prog.info? 64).map (·.size) = some [Value.int .i64 q.A.Fg, .int .i64 q.A.Bg, .bool q.A.Bold, .bool q.A.Under, .bool q.A.Turn].length from size_implAttr)
          go_wp2_with (first | ((with_reducible (show wpList _ _ _ (Oper.mk _ (Op.load 64 _) _ _ _ _ :: _) _ _)); refine wpList_load_agg rfl 64 _ rfl wr.heap.size 1 rfl _ _ HLA.out Tryd.underlying64 HIA.out ?_) | (go_at_call 65; refine (spec_SgrText _ [_, _, _, _, _] q.A (Rep.mono (DCell.attr HR0.out) HBv.out)).mono ?_; rintro e W5 ⟨_, rfl, rfl, hb⟩; have HB5 := Lib.hid (bel_next HBe.out hb); have HW5 := Lib.hid (HWe.out.grow hb); have e5 : W5.cell? ⟨wr.heap.size, 0, none⟩ = some (.int .i64 q.R) := (hb.cell (p := ⟨wr.heap.size, 0, none⟩) hve).trans (n0' eW); have h5z := hb.size; clear hb) | (at_builtin; refine wpList_append_str rfl _ _ 28 9 rfl Tryd.underlying28 Tryd.underlying9 info_u8 a n c _ rfl HW5.out (sgrText q.A) rfl hsum ?_; intro a6 n6 c6 W6 HO6 hg6 hat6; have HW6 := Lib.hid HO6; have HB6 := Lib.hid (HB5.out.grown hg6 HB5.out.size (fun j hj => by cases hj; exact hab)); have ha6 : wb.heap.size ≤ a6.block := (by rcases hat6 with e | e; (rw [e]; exact hab); (rw [e]; exact HB5.out.size)); have eR : W6.cell? ⟨wr.heap.size, 0, none⟩ = some (.int .i64 q.R) := hg6.cell e5 han; clear HO6 hg6 hat6) | (go_at_call 66; refine (spec_RuneBytes _ q.R).mono ?_; rintro e W7 ⟨v7, rfl, hF7, hb⟩; obtain ⟨a7, n7, c7, rfl⟩ := hF7.repS.shape; have HF7 := Lib.hid hF7.repS; have HB7 := Lib.hid (bel_next HB6.out hb); have HW7 := Lib.hid (HW6.out.grow hb); clear hb hF7) | (at_builtin; refine wpList_append_bytes rfl _ _ 28 rfl Tryd.underlying28 info_u8 a6 n6 c6 _ rfl HW7.out hpos a7 n7 c7 (runeBytes q.R) rfl HF7.out hsum2 ?_; intro a8 n8 c8 W8 HO8 hg8 hat8; have HW8 := Lib.hid HO8; have HB8 := Lib.hid (HB7.out.grown hg8 HB7.out.size (fun j hj => by cases hj; exact ha6)); have ha8 : wb.heap.size ≤ a8.block := (by rcases hat8 with e | e; (rw [e]; exact ha6); (rw [e]; exact HB7.out.size)); clear HO8 hg8 hat8))
          go_roundw
          case rel => exact ⟨k + 1, a8, n8, c8, by omega, by omega, by go_num, rfl, ha8, by show OwnB _ _ _ _ _; rw [hkk, runCells, hkf2, HRE.out]; simpa [List.append_assoc] using HW8.out, HB8.out⟩
          case measure => simp [intOf]; omega
        · have heq := fun w => (eq_attr pp.A q.A w).trans (by rw [attrSame_comm, hs])
          have HRE := Lib.hid (runCell_same (f := f) HROW.out hkf HPP.out hs)
          clear hs hkf
          go_wp2_with (with_reducible (show wpList _ _ _ (Oper.mk _ (Op.load 66 _) _ _ _ _ :: _) _ _); refine wpList_load_agg rfl 66 _ rfl b _ rfl _ _ HL.out Tryd.underlying66 HI.out ?_)
          refine wp_region_ext (by kernel_rfl) (by kernel_rfl) ?_
          repeat (go_big_quiet_step (fail))
          refine wpQuiet_nil ?_
          intro _ hw'
          obtain ⟨eW, rfl⟩ := hw'
          have HBe := Lib.hid (bel_next (bel_next HB.out HQ.out) eW.bel)
          have HBv := Lib.hid (HWB.out.trans (HBe.out.mono (by omega)))
          have HWe := Lib.hid ((HW.out.grow HQ.out).grow eW.bel)
          have hve : wr.heap.size < eW.w.heap.size := by have := eW.bel.size; simp at this; omega
          have y0 := n0' eW
          have HLA := Lib.hid (show ∀ (j : Nat) u, [Value.int .i64 q.A.Fg, .int .i64 q.A.Bg, .bool q.A.Bold, .bool q.A.Under, .bool q.A.Turn][j]? = some u → eW.w.cell? ⟨wr.heap.size, 1 + j, none⟩ = some u from fun j u hu => by
            match j, hu with
            | 0, hu => cases hu; exact n1 eW
            | 1, hu => cases hu; exact n2 eW
            | 2, hu => cases hu; exact n3 eW
            | 3, hu => cases hu; exact n4 eW
            | 4, hu => cases hu; exact n5 eW
            | j + 5, hu => simp at hu)
          have HIA := Lib.hid (show (Tryd.prog.info? 64).map (·.size) = some [Value.int .i64 q.A.Fg, .int .i64 q.A.Bg, .bool q.A.Bold, .bool q.A.Under, .bool q.A.Turn].length from size_implAttr)
          go_wp2_with (first | (go_at_call 66; refine (spec_RuneBytes _ q.R).mono ?_; rintro e W7 ⟨v7, rfl, hF7, hb⟩; obtain ⟨a7, n7, c7, rfl⟩ := hF7.repS.shape; have HF7 := Lib.hid hF7.repS; have HB7 := Lib.hid (bel_next HBe.out hb); have HW7 := Lib.hid (HWe.out.grow hb); clear hb hF7) | (at_builtin; refine wpList_append_bytes rfl _ _ 28 rfl Tryd.underlying28 info_u8 a n c _ rfl HW7.out hpos3 a7 n7 c7 (runeBytes q.R) rfl HF7.out hsum3 ?_; intro a8 n8 c8 W8 HO8 hg8 hat8; have HW8 := Lib.hid HO8; have HB8 := Lib.hid (HB7.out.grown hg8 HB7.out.size (fun j hj => by cases hj; exact hab)); have ha8 : wb.heap.size ≤ a8.block := (by rcases hat8 with e | e; (rw [e]; exact hab); (rw [e]; exact HB7.out.size)); clear HO8 hg8 hat8))
          go_roundw
          case rel => exact ⟨k + 1, a8, n8, c8, by omega, by omega, by go_num, rfl, ha8, by show OwnB _ _ _ _ _; rw [hkk, runCells, hkf2, HRE.out]; simpa [List.append_assoc] using HW8.out, HB8.out⟩
          case measure => simp [intOf]; omega
    · obtain rfl : k = t := by omega
      have HEE := Lib.hid (show runBytes x y (f : Int) (k : Int) = (gotoText (f : Int) y).data.toList ++ runCells (rowOf x y) f (k - f) from by unfold runBytes; simp)
      go_wp2_with fail
      go_ret
      exact ⟨_, rfl, ⟨[a.block], by rw [HEE.out]; exact HW.out.ownS, by simp, by simp; omega⟩, HBw.out⟩
end Go.Proofs.YtlkadeaomjoiiaaDoor
