/- The walk of the program's run: the bytes that draw some cells of a row. -/
import Derived.Test.YtlkadeaomjoiiaaDoorFnRow
import Derived.Test.YtlkadeaomjoiiaaDoorFnRune
import Derived.Test.YtlkadeaomjoiiaaDoorFnSgrI
import Derived.Test.YtlkadeaomjoiiaaDoorAppStr
import Derived.Test.YtlkadeaomjoiiaaDoorFnEnds
import Derived.Test.YtlkadeaomjoiiaaDoorClone
import Derived.Test.YtlkadeaomjoiiaaDoorExt
set_option linter.unusedSimpArgs false
set_option linter.unusedVariables false
namespace Go.Mux
open Go.RowKit
@[irreducible] def attrSame (a b : DAttr) : Bool := decide (a.Fg = b.Fg) && decide (a.Bg = b.Bg) && (a.Bold == b.Bold) && (a.Under == b.Under) && (a.Turn == b.Turn)
@[irreducible] def runCell (row : List DCell) (f k : Nat) : List UInt8 :=
  match row[k]? with
  | none => []
  | some c => (if k = f || (match row[k - 1]? with | some p => !attrSame c.A p.A | none => false) then (sgrText c.A).data.toList else []) ++ runeBytes c.R
def runCells (row : List DCell) (f : Nat) : Nat → List UInt8
  | 0 => []
  | n + 1 => runCells row f n ++ runCell row f (f + n)
@[irreducible] def runBytes (x : DGrid) (y a b : Int) : List UInt8 := (gotoText a y).data.toList ++ runCells (rowOf x y) a.toNat (b.toNat - a.toNat)
theorem gotoText_pos (x y : Int) : 2 ≤ (gotoText x y).size := by
  unfold gotoText
  simp only [ByteArray.size_append, size_lit, List.size_toArray, List.length_cons, List.length_nil]
  omega
theorem runCell_len (row : List DCell) (f k : Nat) : (runCell row f k).length ≤ 67 := by
  unfold runCell
  split
  · simp
  · rename_i c _
    have h1 := runeBytes_len c.R
    have h2 : (sgrText c.A).data.toList.length ≤ 64 := sgrText_size c.A
    have h3 : ∀ (q : Prop) [Decidable q], (if q then (sgrText c.A).data.toList else []).length ≤ 64 := fun q _ => by
      split
      · exact h2
      · exact Nat.zero_le _
    rw [List.length_append]
    exact Nat.le_trans (Nat.add_le_add (h3 _) h1) (by omega)
theorem runCells_len (row : List DCell) (f : Nat) : ∀ n, (runCells row f n).length ≤ n * 67
  | 0 => by simp [runCells]
  | n + 1 => by
    have h1 := runCells_len row f n
    have h2 := runCell_len row f (f + n)
    rw [runCells, List.length_append]
    omega
theorem runCell_at {row : List DCell} {f k : Nat} {c : DCell} (h : row[k]? = some c) (hk : k = f) : runCell row f k = (sgrText c.A).data.toList ++ runeBytes c.R := by
  unfold runCell
  rw [h]
  simp [hk]
theorem runCell_new {row : List DCell} {f k : Nat} {c p : DCell} (h : row[k]? = some c) (hp : row[k - 1]? = some p) (hs : attrSame c.A p.A = false) : runCell row f k = (sgrText c.A).data.toList ++ runeBytes c.R := by
  unfold runCell
  rw [h]
  simp [hp, hs]
theorem runCell_same {row : List DCell} {f k : Nat} {c p : DCell} (h : row[k]? = some c) (hk : k ≠ f) (hp : row[k - 1]? = some p) (hs : attrSame c.A p.A = true) : runCell row f k = runeBytes c.R := by
  unfold runCell
  rw [h]
  simp [hp, hs, hk]
theorem rowOf_len {x : DGrid} {y : Int} (hg : gridOkB x = true) (h0 : 0 ≤ y) (h1 : y < x.H) : ((rowOf x y).length : Int) = x.W := by
  obtain ⟨lo, m, e0, _, _, e3, _, _, _, e7⟩ := row_arith hg h0 h1
  rw [e7, e0]
  simp
  omega
theorem DCell.attr {w : World} {c : DCell} (h : Rep.rep w [.int .i64 c.R, .int .i64 c.A.Fg, .int .i64 c.A.Bg, .bool c.A.Bold, .bool c.A.Under, .bool c.A.Turn] c) : Rep.rep w [.int .i64 c.A.Fg, .int .i64 c.A.Bg, .bool c.A.Bold, .bool c.A.Under, .bool c.A.Turn] c.A := by
  obtain ⟨_, _, h1, h2⟩ := DCell.rep_iff.1 h
  exact DAttr.rep_iff.2 ⟨rfl, h1, h2⟩
end Go.Mux
namespace Go.Proofs.YtlkadeaomjoiiaaDoor
open Go.RowKit Go.Mux
theorem eq_attr (a b : DAttr) (w : World) : (Op.equalIn 10000 64 (.agg #[.int .i64 a.Fg, .int .i64 a.Bg, .bool a.Bold, .bool a.Under, .bool a.Turn]) (.agg #[.int .i64 b.Fg, .int .i64 b.Bg, .bool b.Bold, .bool b.Under, .bool b.Turn])).run Tryd.prog w = .ok (attrSame a b) w := by
  have hS : Tryd.prog.underlying 64 = some (.struct (Tryd.prog.fieldsOf 64)) := by kernel_rfl
  have hp : Tryd.prog.stoodInHeld 64 = false := by kernel_rfl
  have u1 := Tryd.underlying3
  have u2 := Tryd.underlying4
  rw [show (10000 : Nat) = 9999 + 1 from rfl, run_equalIn_agg w 9999 64 _ _ hS hp]
  simp only [Program.fieldsOf, Tryd.underlying64]
  unfold attrSame
  go_simp
  by_cases h1 : a.Fg = b.Fg <;> by_cases h2 : a.Bg = b.Bg <;> by_cases h3 : a.Bold = b.Bold <;> by_cases h4 : a.Under = b.Under <;> by_cases h5 : a.Turn = b.Turn <;> simp [h1, h2, h3, h4, h5]
set_option maxRecDepth 100000 in
set_option maxHeartbeats 2000000 in
theorem impl_run (w : World) (cs : List Value) (x : DGrid) (y : Int) (f t : Nat) (h : Rep.rep w cs x) (hg : gridOkB x = true) (h0 : 0 ≤ y) (h1 : y < x.H) (hf : f < t) (ht : (t : Int) ≤ x.W) (htab : Tab Tryd.prog w) :
    Calls Tryd.prog 37 #[.agg cs.toArray, .int .i64 y, .int .i64 f, .int .i64 t] w (Gives w fun r w' => FreshS w.heap.size w' r (runBytes x y f t)) := by
  have HP := Lib.hid h
  obtain ⟨a0, n0, c0, rfl⟩ := DGrid.shape h
  obtain ⟨s1, s2, s3, s4, _⟩ := gridOkB_size hg
  have HL := Lib.hid (rowOf_len hg h0 h1)
  have HG := Lib.hid hg
  have HT := Lib.hid htab
  have hgz := gotoText_size (f : Int) y
  clear h hg htab
  have kc := fun (w : World) (s : ByteArray) => Lib.run_convert_string_bytes (P := Tryd.prog) w 9 28 5 s Tryd.underlying9 Tryd.underlying28 Tryd.underlying5
  go_enter Tryd.func37, Tryd.ntmps37
  go_wp2_with fail
  refine (impl_goText _ (f : Int) y (HT.out.mono (by repeat (first | (with_reducible exact Below.refl _ _) | (with_reducible assumption) | (with_reducible refine bel_alloc ?_ _) | ((with_reducible refine bel_set ?_ ?_ _); rotate_left; (focus first | (simp; done) | (simp; omega)))))) (by omega) (by omega)).mono ?_
  rintro e W1 ⟨_, rfl, rfl, hb⟩
  have HB1 := Lib.hid (bel_next (show Below w.heap.size w _ from (by repeat (first | (with_reducible exact Below.refl _ _) | (with_reducible assumption) | (with_reducible refine bel_alloc ?_ _) | ((with_reducible refine bel_set ?_ ?_ _); rotate_left; (focus first | (simp; done) | (simp; omega)))))) hb)
  have cA := fun o => (below_bytes W1 5 (gotoText (f : Int) y)).cell (p := ⟨w.heap.size, o, none⟩) (by have := hb.size; simp at this; show w.heap.size < W1.heap.size; omega)
  have cA1 := fun o => hb.cell (p := ⟨w.heap.size, o, none⟩) (by simp)
  have HF := Lib.hid (freshS_bytes W1 (gotoText (f : Int) y) (by omega))
  have HB2 := Lib.hid (bel_next HB1.out (below_bytes W1 5 (gotoText (f : Int) y)))
  clear hb
  go_wp2_with fail
  refine (impl_Grid_row w _ [_, _, _] x y HP.out HG.out h0 h1).mono ?_
  rintro e W2 ⟨_, rfl, hr, hb⟩
  obtain ⟨ra, rn, rc, rfl⟩ := hr.shape
  have HR := Lib.hid hr
  have HB3 := Lib.hid (bel_next HB2.out hb)
  have HO := Lib.hid (show OwnB W2 ⟨W1.heap.size, 0, none⟩ (gotoText (f : Int) y).size (grownCap W1 (gotoText (f : Int) y).size 0 5) (gotoText (f : Int) y).data.toList from by
    obtain ⟨fp, ho, hn, hbf⟩ := HF.out
    exact OwnB.of (ho.mono fun b hb2 => hb.block b (ho.lt b hb2)))
  have hz1 := HB1.out.size
  have hrn : rn = (rowOf x y).length := by obtain ⟨_, _, e, _⟩ := hr; injection e
  subst hrn
  obtain ⟨a', cap', e', _, hcc⟩ := hr
  cases e'
  have HC := Lib.hid hcc
  have hrl := HL.out
  clear hcc hb cA cA1
  go_wp2_with fail
  go_loopw [9, 11] (fun o xs wr => ∃ (k : Nat) (a : Addr) (n c : Nat), f ≤ k ∧ k ≤ t ∧ xs = .int .i64 (k : Int) ∧ o = .slice (some a) n c ∧ w.heap.size ≤ a.block ∧ Hid (OwnB wr a n c ((gotoText (f : Int) y).data.toList ++ runCells (rowOf x y) f (k - f))) ∧ Hid (Below w.heap.size w wr)) (fun _ xs _ => t - (intOf xs).toNat)
  case atStart => exact ⟨f, _, _, _, Nat.le_refl _, by omega, rfl, rfl, hz1, by show OwnB _ _ _ _ _; rw [Nat.sub_self]; simpa [runCells] using HO.out, HB3.out⟩
  case round =>
    obtain ⟨k, a, n, c, hk0, hk, rfl, rfl, hab, HW, HB⟩ := hrel
    by_cases hkt : k < t
    · have hlt : k < (rowOf x y).length := by omega
      have hB0 := HB.out
      have HCC := HC
      have hne : (rowOf x y) ≠ [] := by intro e; rw [e] at hlt; simp at hlt
      obtain ⟨b, off, rfl, hc⟩ := HC.out hne
      obtain ⟨q, hx⟩ : ∃ q, (rowOf x y)[k]? = some q := ⟨(rowOf x y)[k], by simp [hlt]⟩
      obtain ⟨rr, hrep, hcell⟩ := hc k q hx
      have HI := Lib.hid (show (Tryd.prog.info? 66).map (·.size) = some rr.length by rw [Rep.len hrep]; exact size_implCell)
      have HL := Lib.hid (show ∀ (j : Nat) u, rr[j]? = some u → wr.cell? ⟨b, off + k * 6 + j, none⟩ = some u from fun j u hu => (hB0.cell (p := ⟨b, _, none⟩) (World.block_lt_of_cell? w _ (hcell j u hu))).trans (hcell j u hu))
      have HR := Lib.hid hrep
      have HX := Lib.hid hx
      obtain rfl := DCell.shape hrep
      clear hc hcell hrep hne hx
      have hki : (k : Int) < ((rowOf x y).length : Int) := by omega
      have hki0 : (0 : Int) ≤ (k : Int) := by omega
      have hrl2 : (rowOf x y).length ≤ 120 := by omega
      have HR0 := HR
      have HLA := Lib.hid (show ∀ (j : Nat) u, [Value.int .i64 q.A.Fg, .int .i64 q.A.Bg, .bool q.A.Bold, .bool q.A.Under, .bool q.A.Turn][j]? = some u → wr.drew.cell? ⟨b, off + k * 6 + 1 + j, none⟩ = some u from fun j u hu => by
        have := HL.out (1 + j) u (by rw [Nat.add_comm]; exact hu)
        rw [← Nat.add_assoc] at this
        exact this)
      have HBd := Lib.hid (Below.drew HB.out)
      have HWd := Lib.hid (HW.out.grow (Below.drew (Below.refl wr.heap.size wr)))
      have HIA := Lib.hid (show (Tryd.prog.info? 64).map (·.size) = some [Value.int .i64 q.A.Fg, .int .i64 q.A.Bg, .bool q.A.Bold, .bool q.A.Under, .bool q.A.Turn].length from size_implAttr)
      have hbw : b < w.heap.size := by
        obtain ⟨b', off', e, hh⟩ := HCC.out (by intro e; rw [e] at hlt; simp at hlt)
        cases e
        obtain ⟨r, hr, hcr⟩ := hh k q HX.out
        obtain rfl := DCell.shape hr
        exact World.block_lt_of_cell? w _ (hcr 0 _ rfl)
      have eR0 : w.cell? ⟨b, off + k * 6, none⟩ = some (.int .i64 q.R) := (HB.out.cell (p := ⟨b, off + k * 6, none⟩) hbw).symm.trans (by simpa using HL.out 0 _ rfl)
      have hsz := sgrText_size q.A
      have hrz := runeBytes_len q.R
      have hcz := runCells_len (rowOf x y) f (k - f)
      have hgz2 : (gotoText (f : Int) y).data.toList.length = (gotoText (f : Int) y).size := Array.length_toList
      have hg3 : 2 ≤ (gotoText (f : Int) y).size := gotoText_pos _ _
      have hsum : ((gotoText (f : Int) y).data.toList ++ runCells (rowOf x y) f (k - f)).length + (sgrText q.A).size ≤ 140737488355328 := by rw [List.length_append]; omega
      have d3 : decide ((k : Int) < (t : Int)) = true := decide_eq_true (by omega)
      have hkk : k + 1 - f = (k - f) + 1 := by omega
      have hkf2 : f + (k - f) = k := by omega
      by_cases hkf : k = f
      · have d1 : decide ((k : Int) = (f : Int)) = true := decide_eq_true (by omega)
        have d2 : ((k : Int) == (f : Int)) = true := by simp; omega
        have hpos : 0 < ((gotoText (f : Int) y).data.toList ++ runCells (rowOf x y) f (k - f) ++ (sgrText q.A).data.toList).length := by simp only [List.length_append]; omega
        have hsum2 : ((gotoText (f : Int) y).data.toList ++ runCells (rowOf x y) f (k - f) ++ (sgrText q.A).data.toList).length + (runeBytes q.R).length ≤ 140737488355328 := by
          have h2 : (sgrText q.A).data.toList.length ≤ 64 := sgrText_size q.A
          simp only [List.length_append]; omega
        have HE := Lib.hid (runCell_at (f := f) HX.out hkf)
        clear hkf
        go_wp2_with fail
        go_region
        go_wp2_with (first | ((with_reducible (show wpList _ _ _ (Oper.mk _ (Op.load 64 _) _ _ _ _ :: _) _ _)); refine wpList_load_agg rfl 64 _ rfl b _ rfl _ _ HLA.out Tryd.underlying64 HIA.out ?_) | (go_at_call 71; refine (impl_SgrText _ [_, _, _, _, _] q.A (Rep.mono (DCell.attr HR0.out) HBd.out) (HT.out.mono HBd.out)).mono ?_; rintro e W5 ⟨_, rfl, rfl, hb⟩; have HB5 := Lib.hid (bel_next HBd.out hb); have HW5 := Lib.hid (HWd.out.grow hb); clear hb) | (at_builtin; refine wpList_append_str rfl _ _ 28 9 rfl Tryd.underlying28 Tryd.underlying9 info_u8 a n c _ rfl HW5.out (sgrText q.A) rfl hsum ?_; intro a6 n6 c6 W6 HO6 hg6 hat6; have HW6 := Lib.hid HO6; have HB6 := Lib.hid (HB5.out.grown hg6 HB5.out.size (fun j hj => by cases hj; exact hab)); have ha6 : w.heap.size ≤ a6.block := (by rcases hat6 with e | e; (rw [e]; exact hab); (rw [e]; exact HB5.out.size)); have eR : W6.cell? ⟨b, off + k * 6, none⟩ = some (.int .i64 q.R) := (HB6.out.cell (p := ⟨b, off + k * 6, none⟩) hbw).trans eR0; clear HO6 hg6 hat6) | (go_at_call 72; refine (impl_RuneBytes _ q.R).mono ?_; rintro e W7 ⟨v7, rfl, hF7, hb⟩; obtain ⟨a7, n7, c7, rfl⟩ := hF7.repS.shape; have HF7 := Lib.hid hF7.repS; have HB7 := Lib.hid (bel_next HB6.out hb); have HW7 := Lib.hid (HW6.out.grow hb); clear hb hF7) | (at_builtin; refine wpList_append_bytes rfl _ _ 28 rfl Tryd.underlying28 info_u8 a6 n6 c6 _ rfl HW7.out hpos a7 n7 c7 (runeBytes q.R) rfl HF7.out hsum2 ?_; intro a8 n8 c8 W8 HO8 hg8 hat8; have HW8 := Lib.hid HO8; have HB8 := Lib.hid (HB7.out.grown hg8 HB7.out.size (fun j hj => by cases hj; exact ha6)); have ha8 : w.heap.size ≤ a8.block := (by rcases hat8 with e | e; (rw [e]; exact ha6); (rw [e]; exact HB7.out.size)); clear HO8 hg8 hat8))
        go_roundw
        case rel => exact ⟨k + 1, a8, n8, c8, by omega, by omega, by go_num, rfl, ha8, by show OwnB _ _ _ _ _; rw [hkk, runCells, hkf2, HE.out]; simpa [List.append_assoc] using HW8.out, HB8.out⟩
        case measure => simp [intOf]; omega
      · have d1 : decide ((k : Int) = (f : Int)) = false := decide_eq_false (by omega)
        have d2 : ((k : Int) == (f : Int)) = false := by simp; omega
        obtain ⟨pp, hpp⟩ : ∃ pp, (rowOf x y)[k - 1]? = some pp := ⟨(rowOf x y)[k - 1]'(by omega), by simp [show k - 1 < (rowOf x y).length from by omega]⟩
        have hki1 : ((k - 1 : Nat) : Int) < ((rowOf x y).length : Int) := by omega
        have hki2 : (0 : Int) ≤ ((k - 1 : Nat) : Int) := by omega
        have hkw : IntKind.i64.wrap ((k : Int) - 1) = ((k - 1 : Nat) : Int) := by rw [IntKind.wrap_i64]; omega
        obtain ⟨b', off', ee, hh⟩ := HCC.out (by intro e; rw [e] at hlt; simp at hlt)
        cases ee
        obtain ⟨r', hr', hcr⟩ := hh (k - 1) pp hpp
        obtain rfl := DCell.shape hr'
        have p1 := ext_cell (W := wr) (b := b) (o := off + (k - 1) * 6 + 1) (v := .int .i64 pp.A.Fg) ((HB.out.cell (p := ⟨b, off + (k - 1) * 6 + 1, none⟩) hbw).trans (hcr 1 _ rfl))
        have p2 := ext_cell (W := wr) (b := b) (o := off + (k - 1) * 6 + 1 + 1) (v := .int .i64 pp.A.Bg) ((HB.out.cell (p := ⟨b, off + (k - 1) * 6 + 2, none⟩) hbw).trans (hcr 2 _ rfl))
        have p3 := ext_cell (W := wr) (b := b) (o := off + (k - 1) * 6 + 1 + 2) (v := .bool pp.A.Bold) ((HB.out.cell (p := ⟨b, off + (k - 1) * 6 + 3, none⟩) hbw).trans (hcr 3 _ rfl))
        have p4 := ext_cell (W := wr) (b := b) (o := off + (k - 1) * 6 + 1 + 3) (v := .bool pp.A.Under) ((HB.out.cell (p := ⟨b, off + (k - 1) * 6 + 4, none⟩) hbw).trans (hcr 4 _ rfl))
        have p5 := ext_cell (W := wr) (b := b) (o := off + (k - 1) * 6 + 1 + 4) (v := .bool pp.A.Turn) ((HB.out.cell (p := ⟨b, off + (k - 1) * 6 + 5, none⟩) hbw).trans (hcr 5 _ rfl))
        have m1 := ext_cell (W := wr) (b := b) (o := off + k * 6 + 1) (v := .int .i64 q.A.Fg) (HL.out 1 _ rfl)
        have m2 := ext_cell (W := wr) (b := b) (o := off + k * 6 + 1 + 1) (v := .int .i64 q.A.Bg) (HL.out 2 _ rfl)
        have m3 := ext_cell (W := wr) (b := b) (o := off + k * 6 + 1 + 2) (v := .bool q.A.Bold) (HL.out 3 _ rfl)
        have m4 := ext_cell (W := wr) (b := b) (o := off + k * 6 + 1 + 3) (v := .bool q.A.Under) (HL.out 4 _ rfl)
        have m5 := ext_cell (W := wr) (b := b) (o := off + k * 6 + 1 + 4) (v := .bool q.A.Turn) (HL.out 5 _ rfl)
        have HPP := Lib.hid hpp
        have hgd : Tryd.prog.eqGuardType Tryd.prog.depth 64 = false := by kernel_rfl
        have hpos : 0 < ((gotoText (f : Int) y).data.toList ++ runCells (rowOf x y) f (k - f) ++ (sgrText q.A).data.toList).length := by simp only [List.length_append]; omega
        have hsum2 : ((gotoText (f : Int) y).data.toList ++ runCells (rowOf x y) f (k - f) ++ (sgrText q.A).data.toList).length + (runeBytes q.R).length ≤ 140737488355328 := by
          have h2 : (sgrText q.A).data.toList.length ≤ 64 := sgrText_size q.A
          simp only [List.length_append]; omega
        have hpos3 : 0 < ((gotoText (f : Int) y).data.toList ++ runCells (rowOf x y) f (k - f)).length := by simp only [List.length_append]; omega
        have hsum3 : ((gotoText (f : Int) y).data.toList ++ runCells (rowOf x y) f (k - f)).length + (runeBytes q.R).length ≤ 140737488355328 := by simp only [List.length_append]; omega
        clear hh hr' hcr hpp
        cases hs : attrSame q.A pp.A
        · have heq := fun w => (eq_attr q.A pp.A w).trans (by rw [hs])
          have HE := Lib.hid (runCell_new (f := f) HX.out HPP.out hs)
          clear hs hkf
          go_wp2_with fail
          refine wp_region_ext (by kernel_rfl) (by kernel_rfl) ?_
          repeat (go_big_quiet_step (fail))
          refine wpQuiet_nil ?_
          intro _ hw'
          obtain ⟨eW, rfl⟩ := hw'
          have HBe := Lib.hid (bel_next HB.out eW.bel)
          have HWe := Lib.hid (HW.out.grow eW.bel)
          have HLA := Lib.hid (show ∀ (j : Nat) u, [Value.int .i64 q.A.Fg, .int .i64 q.A.Bg, .bool q.A.Bold, .bool q.A.Under, .bool q.A.Turn][j]? = some u → eW.w.cell? ⟨b, off + k * 6 + 1 + j, none⟩ = some u from fun j u hu => (eW.bel.cell (p := ⟨b, off + k * 6 + 1 + j, none⟩) (World.block_lt_of_cell? wr _ (show wr.cell? _ = some u from HLA.out j u hu))).trans (show wr.cell? _ = some u from HLA.out j u hu))
          clear p1 p2 p3 p4 p5 m1 m2 m3 m4 m5
          go_wp2_with (first | ((with_reducible (show wpList _ _ _ (Oper.mk _ (Op.load 64 _) _ _ _ _ :: _) _ _)); refine wpList_load_agg rfl 64 _ rfl b _ rfl _ _ HLA.out Tryd.underlying64 HIA.out ?_) | (go_at_call 71; refine (impl_SgrText _ [_, _, _, _, _] q.A (Rep.mono (DCell.attr HR0.out) HBe.out) (HT.out.mono HBe.out)).mono ?_; rintro e W5 ⟨_, rfl, rfl, hb⟩; have HB5 := Lib.hid (bel_next HBe.out hb); have HW5 := Lib.hid (HWe.out.grow hb); clear hb) | (at_builtin; refine wpList_append_str rfl _ _ 28 9 rfl Tryd.underlying28 Tryd.underlying9 info_u8 a n c _ rfl HW5.out (sgrText q.A) rfl hsum ?_; intro a6 n6 c6 W6 HO6 hg6 hat6; have HW6 := Lib.hid HO6; have HB6 := Lib.hid (HB5.out.grown hg6 HB5.out.size (fun j hj => by cases hj; exact hab)); have ha6 : w.heap.size ≤ a6.block := (by rcases hat6 with e | e; (rw [e]; exact hab); (rw [e]; exact HB5.out.size)); have eR : W6.cell? ⟨b, off + k * 6, none⟩ = some (.int .i64 q.R) := (HB6.out.cell (p := ⟨b, off + k * 6, none⟩) hbw).trans eR0; clear HO6 hg6 hat6) | (go_at_call 72; refine (impl_RuneBytes _ q.R).mono ?_; rintro e W7 ⟨v7, rfl, hF7, hb⟩; obtain ⟨a7, n7, c7, rfl⟩ := hF7.repS.shape; have HF7 := Lib.hid hF7.repS; have HB7 := Lib.hid (bel_next HB6.out hb); have HW7 := Lib.hid (HW6.out.grow hb); clear hb hF7) | (at_builtin; refine wpList_append_bytes rfl _ _ 28 rfl Tryd.underlying28 info_u8 a6 n6 c6 _ rfl HW7.out hpos a7 n7 c7 (runeBytes q.R) rfl HF7.out hsum2 ?_; intro a8 n8 c8 W8 HO8 hg8 hat8; have HW8 := Lib.hid HO8; have HB8 := Lib.hid (HB7.out.grown hg8 HB7.out.size (fun j hj => by cases hj; exact ha6)); have ha8 : w.heap.size ≤ a8.block := (by rcases hat8 with e | e; (rw [e]; exact ha6); (rw [e]; exact HB7.out.size)); clear HO8 hg8 hat8))
          go_roundw
          case rel => exact ⟨k + 1, a8, n8, c8, by omega, by omega, by go_num, rfl, ha8, by show OwnB _ _ _ _ _; rw [hkk, runCells, hkf2, HE.out]; simpa [List.append_assoc] using HW8.out, HB8.out⟩
          case measure => simp [intOf]; omega
        · have heq := fun w => (eq_attr q.A pp.A w).trans (by rw [hs])
          have HE := Lib.hid (runCell_same (f := f) HX.out hkf HPP.out hs)
          clear hs hkf
          go_wp2_with fail
          refine wp_region_ext (by kernel_rfl) (by kernel_rfl) ?_
          repeat (go_big_quiet_step (fail))
          refine wpQuiet_nil ?_
          intro _ hw'
          obtain ⟨eW, rfl⟩ := hw'
          have HBe := Lib.hid (bel_next HB.out eW.bel)
          have HWe := Lib.hid (HW.out.grow eW.bel)
          have eR : eW.w.cell? ⟨b, off + k * 6, none⟩ = some (.int .i64 q.R) := (HBe.out.cell (p := ⟨b, off + k * 6, none⟩) hbw).trans eR0
          clear p1 p2 p3 p4 p5 m1 m2 m3 m4 m5
          go_wp2_with (first | (go_at_call 72; refine (impl_RuneBytes _ q.R).mono ?_; rintro e W7 ⟨v7, rfl, hF7, hb⟩; obtain ⟨a7, n7, c7, rfl⟩ := hF7.repS.shape; have HF7 := Lib.hid hF7.repS; have HB7 := Lib.hid (bel_next HBe.out hb); have HW7 := Lib.hid (HWe.out.grow hb); clear hb hF7) | (at_builtin; refine wpList_append_bytes rfl _ _ 28 rfl Tryd.underlying28 info_u8 a n c _ rfl HW7.out hpos3 a7 n7 c7 (runeBytes q.R) rfl HF7.out hsum3 ?_; intro a8 n8 c8 W8 HO8 hg8 hat8; have HW8 := Lib.hid HO8; have HB8 := Lib.hid (HB7.out.grown hg8 HB7.out.size (fun j hj => by cases hj; exact hab)); have ha8 : w.heap.size ≤ a8.block := (by rcases hat8 with e | e; (rw [e]; exact hab); (rw [e]; exact HB7.out.size)); clear HO8 hg8 hat8))
          go_roundw
          case rel => exact ⟨k + 1, a8, n8, c8, by omega, by omega, by go_num, rfl, ha8, by show OwnB _ _ _ _ _; rw [hkk, runCells, hkf2, HE.out]; simpa [List.append_assoc] using HW8.out, HB8.out⟩
          case measure => simp [intOf]; omega
    · obtain rfl : k = t := by omega
      have HEE := Lib.hid (show runBytes x y (f : Int) (k : Int) = (gotoText (f : Int) y).data.toList ++ runCells (rowOf x y) f (k - f) from by unfold runBytes; simp)
      go_wp2_with fail
      go_ret
      exact ⟨_, rfl, ⟨[a.block], by rw [HEE.out]; exact HW.out.ownS, by simp, by simpa using hab⟩, HB.out⟩
end Go.Proofs.YtlkadeaomjoiiaaDoor
