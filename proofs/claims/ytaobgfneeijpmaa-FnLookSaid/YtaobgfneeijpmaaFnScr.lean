/- The walks of ScrOk, the program's and the reference's. -/
import Derived.Test.YtaobgfneeijpmaaFnGrid
import Derived.Test.YtaobgfneeijpmaaInts
import Derived.Test.YtaobgfneeijpmaaBig
set_option linter.unusedSimpArgs false
set_option linter.unusedVariables false
namespace Go.Mux
open Go.RowKit
@[irreducible] def tabBad (l : List Int) (hi : Int) (k : Nat) (n : Int) : Bool := !withinB n 0 hi || (decide (0 < k) && (match l[k - 1]? with | some m => decide (n ≤ m) | none => false))
@[irreducible] def ascB (l : List Int) (hi : Int) : Bool := (List.range l.length).all fun k => match l[k]? with | some n => !tabBad l hi k n | none => true
theorem asc_no {l : List Int} {hi : Int} {k : Nat} {n : Int} (hx : l[k]? = some n) (h : tabBad l hi k n = true) : ascB l hi = false := by
  unfold ascB
  rw [List.all_eq_false]
  have hk : k < l.length := by rw [List.getElem?_eq_some_iff] at hx; exact hx.1
  exact ⟨k, List.mem_range.2 hk, by simp only [hx]; simp [h]⟩
theorem asc_yes {l : List Int} {hi : Int} (h : ∀ k n, k < l.length → l[k]? = some n → tabBad l hi k n = false) : ascB l hi = true := by
  unfold ascB
  rw [List.all_eq_true]
  intro k hk
  have hk' := List.mem_range.1 hk
  rw [List.getElem?_eq_getElem hk']
  have := h k l[k] hk' (by simp [hk'])
  simp [this]
theorem asc_snoc {l : List Int} {hi : Int} {k : Nat} {n : Int} (h : ∀ j q, j < k → l[j]? = some q → tabBad l hi j q = false) (hx : l[k]? = some n) (hp : tabBad l hi k n = false) : Hid (∀ j q, j < k + 1 → l[j]? = some q → tabBad l hi j q = false) := by
  intro j q hj hq
  rcases Nat.lt_succ_iff_lt_or_eq.1 hj with h1 | rfl
  · exact h j q h1 hq
  · rw [hx] at hq; cases hq; exact hp
theorem tabBad_zero {l : List Int} {hi : Int} {n : Int} (h : withinB n 0 hi = true) : tabBad l hi 0 n = false := by unfold tabBad; simp [h]
theorem tabBad_out {l : List Int} {hi : Int} {k : Nat} {n : Int} (h : withinB n 0 hi = false) : tabBad l hi k n = true := by unfold tabBad; simp [h]
theorem tabBad_le {l : List Int} {hi : Int} {k j : Nat} {n m : Int} (hk : k = j + 1) (hx : l[j]? = some m) (h : n ≤ m) : tabBad l hi k n = true := by subst hk; unfold tabBad; simp [hx, h]
theorem tabBad_lt {l : List Int} {hi : Int} {k j : Nat} {n m : Int} (hk : k = j + 1) (hx : l[j]? = some m) (h : m < n) (hw : withinB n 0 hi = true) : tabBad l hi k n = false := by subst hk; unfold tabBad; simp [hx, h, hw]
@[irreducible] def rowOkB (r : DRow) : Bool := withinB r.Cells.length 1 120 && r.Cells.all cellOkB
/-- What ScrOk asks of the numbers of a screen whose grids have its size. -/
@[irreducible] def scrNums (x : DScr) : Bool := decide (0 ≤ x.X ∧ x.X < x.W ∧ 0 ≤ x.Y ∧ x.Y < x.H ∧ 0 ≤ x.SaveX ∧ x.SaveX < x.W ∧ 0 ≤ x.SaveY ∧ x.SaveY < x.H ∧ (x.Wrap = true → x.X = x.W - 1) ∧ 0 ≤ x.Top ∧ x.Top ≤ x.Bot ∧ x.Bot < x.H ∧ (x.Top = x.Bot → x.H = 1) ∧ 0 ≤ x.Limit ∧ x.Limit ≤ 100 ∧ (x.Back.length : Int) ≤ x.Limit)
@[irreducible] def scrSize (x : DScr) : Bool := x.Main.W == x.W && x.Main.H == x.H && x.Alt.W == x.W && x.Alt.H == x.H
@[irreducible] def scrOkB (x : DScr) : Bool := gridOkB x.Main && gridOkB x.Alt && scrSize x && attrOkB x.A && attrOkB x.SaveA && scrNums x && ascB x.Tabs (x.W - 1) && x.Back.all rowOkB
theorem rowOk_len {r : DRow} (h : rowOkB r = true) : 1 ≤ r.Cells.length ∧ r.Cells.length ≤ 120 ∧ r.Cells.all cellOkB = true := by
  unfold rowOkB at h
  simp only [Bool.and_eq_true, withinB_true] at h
  exact ⟨by omega, by omega, h.2⟩
theorem idxOf_any {α : Type} {p : α → Bool} {l : List α} : decide (0 ≤ idxOf p l) = l.any p := by
  rw [Bool.eq_iff_iff, decide_eq_true_eq]
  exact idxOf_ge p l
theorem no_any {α : Type} {p : α → Bool} {l : List α} : (!l.any (fun x => !p x)) = l.all p := by rw [Bool.eq_iff_iff]; simp
end Go.Mux
namespace Go.Proofs.Ytaobgfneeijpmaa
open Go.RowKit Go.Mux
set_option maxRecDepth 100000 in
set_option maxHeartbeats 1000000 in
theorem impl_isAscending (w : World) (v : Value) (l : List Int) (hi : Int) (h : RepS w v l) : Calls Try.prog 59 #[v, .int .i64 0, .int .i64 hi] w (Says w (ascB l hi)) := by
  obtain ⟨a, cap, rfl, hl, hc⟩ := ints_open h
  have HC := Lib.hid hc
  clear h hc
  go_enter Try.func59, Try.ntmps59
  go_wp2_with fail
  go_loopw [11] (fun i wr => ∃ k : Nat, k ≤ l.length ∧ i = .int .i64 k ∧ Hid (∀ j q, j < k → l[j]? = some q → tabBad l hi j q = false) ∧ Hid (Below w.heap.size w wr)) (fun i _ => l.length - (intOf i).toNat)
  case atStart => exact ⟨0, Nat.zero_le _, rfl, by intro j q hj; omega, Below.refl _ _⟩
  case round =>
    obtain ⟨k, hk, rfl, HN, HB⟩ := hrel
    by_cases hlt : k < l.length
    · have d1 : decide ((k : Int) < (l.length : Int)) = true := decide_eq_true (by omega)
      have d2 : decide (k < l.length) = true := decide_eq_true hlt
      have hne : l ≠ [] := by intro e; rw [e] at hlt; simp at hlt
      obtain ⟨b, off, rfl, hc⟩ := HC.out hne
      obtain ⟨x, hx⟩ : ∃ x, l[k]? = some x := ⟨l[k], by simp [hlt]⟩
      have c1 := (hc k x hx).1
      rw [← HB.out.cell (p := ⟨b, off + k, none⟩) (World.block_lt_of_cell? w _ c1)] at c1
      have k0 : (0 : Int) ≤ (k : Int) := by omega
      have k1 : (k : Int) < (l.length : Int) := by omega
      have HX := Lib.hid hx
      have HCC := Lib.hid hc
      clear hc hne hx
      cases hw : withinB x 0 hi
      · have HW := Lib.hid hw
        clear hw
        go_wp2_with (go_at_call 60; refine (impl_within _ _ _ _).mono ?_; rintro e w' ⟨rfl, rfl⟩; rw [HW.out])
        go_ret
        exact says_ret (asc_no HX.out (tabBad_out HW.out)).symm HB.out
      · have HW := Lib.hid hw
        clear hw
        by_cases hk0 : k = 0
        · subst hk0
          simp only [Nat.add_zero] at c1
          go_wp2_with (go_at_call 60; refine (impl_within _ _ _ _).mono ?_; rintro e w' ⟨rfl, rfl⟩; rw [HW.out])
          go_roundw
          case rel => exact ⟨1, by omega, by go_num, asc_snoc HN.out HX.out (tabBad_zero HW.out), HB.out⟩
          case measure => simp [intOf]; omega
        · obtain ⟨j, hj⟩ : ∃ j, k = j + 1 := ⟨k - 1, by omega⟩
          have hsw : IntKind.i64.wrap ((k : Int) - 1) = (j : Int) := by rw [IntKind.wrap_i64]; omega
          obtain ⟨m, hm⟩ : ∃ m, l[j]? = some m := ⟨l[j]'(by omega), by simp⟩
          have c2 := (HCC.out j m hm).1
          rw [← HB.out.cell (p := ⟨b, off + j, none⟩) (World.block_lt_of_cell? w _ c2)] at c2
          have j0 : (0 : Int) ≤ (j : Int) := by omega
          have j1 : (j : Int) < (l.length : Int) := by omega
          have d3 : decide (0 < (k : Int)) = true := decide_eq_true (by omega)
          have d4 : decide (0 < k) = true := decide_eq_true (by omega)
          have HJ := Lib.hid hj
          have HM := Lib.hid hm
          clear hj hm hk0
          by_cases hle : x ≤ m
          · have d5 : decide (x ≤ m) = true := decide_eq_true hle
            go_wp2_with (go_at_call 60; refine (impl_within _ _ _ _).mono ?_; rintro e w' ⟨rfl, rfl⟩; rw [HW.out])
            go_ret
            exact says_ret (asc_no HX.out (tabBad_le HJ.out HM.out hle)).symm HB.out
          · have d5 : decide (x ≤ m) = false := decide_eq_false hle
            go_wp2_with (go_at_call 60; refine (impl_within _ _ _ _).mono ?_; rintro e w' ⟨rfl, rfl⟩; rw [HW.out])
            go_roundw
            case rel => exact ⟨k + 1, by omega, by go_num, asc_snoc HN.out HX.out (tabBad_lt HJ.out HM.out (by omega) HW.out), HB.out⟩
            case measure => simp [intOf]; omega
    · have d1 : decide ((k : Int) < (l.length : Int)) = false := decide_eq_false (by omega)
      have d2 : decide (k < l.length) = false := decide_eq_false hlt
      obtain rfl : k = l.length := by omega
      go_wp2_with fail
      go_ret
      exact says_ret (asc_yes HN.out).symm HB.out
set_option maxHeartbeats 400000 in
theorem impl_backOk_1 (w : World) (cs : List Value) (x : DRow) (h : Rep.rep w cs x) : Calls Try.prog 84 #[.agg cs.toArray] w (Says w (!rowOkB x)) := by
  obtain ⟨v0, rfl, h0⟩ := DRow.rep_iff.1 h
  have HR := Lib.hid h0
  obtain ⟨a, cap, rfl, hl, -⟩ := h0
  clear h
  cases hw : withinB (x.Cells.length : Int) 1 120
  · have HW := Lib.hid hw
    clear hw
    go_enter Try.func84, Try.ntmps84
    go_wp2_with (go_at_call 60; refine (impl_within _ _ _ _).mono ?_; rintro e w' ⟨rfl, rfl⟩; rw [HW.out])
    go_ret
    exact says_ret (by unfold rowOkB; simp [HW.out]) (by repeat (first | (with_reducible exact Below.refl _ _) | (with_reducible assumption) | (with_reducible refine bel_alloc ?_ _) | ((with_reducible refine bel_set ?_ ?_ _); rotate_left; (focus first | (simp; done) | (simp; omega)))))
  · have HW := Lib.hid hw
    clear hw
    cases ha : x.Cells.all cellOkB
    all_goals
      have HA := Lib.hid ha
      clear ha
      go_enter Try.func84, Try.ntmps84
      go_wp2_with (first | (go_at_call 60; refine (impl_within _ _ _ _).mono ?_; rintro e w' ⟨rfl, rfl⟩; rw [HW.out]) | (go_at_call 68; refine (impl_areCells _ _ x.Cells (HR.out.mono (by repeat (first | (with_reducible exact Below.refl _ _) | (with_reducible assumption) | (with_reducible refine bel_alloc ?_ _) | ((with_reducible refine bel_set ?_ ?_ _); rotate_left; (focus first | (simp; done) | (simp; omega))))))).mono ?_; rintro e W1 ⟨_, rfl, rfl, hb⟩; rw [HA.out]; have HB := Lib.hid (bel_next (show Below w.heap.size w _ from (by repeat (first | (with_reducible exact Below.refl _ _) | (with_reducible assumption) | (with_reducible refine bel_alloc ?_ _) | ((with_reducible refine bel_set ?_ ?_ _); rotate_left; (focus first | (simp; done) | (simp; omega)))))) hb); clear hb))
      go_ret
      exact says_ret (by unfold rowOkB; simp [HW.out, HA.out]) HB.out
set_option maxHeartbeats 400000 in
theorem idx_rows (w : World) (v : Value) (l : List DRow) (p : DRow → Bool) (h : RepS w v l)
    (hf : ∀ w' cs x, Below w.heap.size w w' → Rep.rep w' cs x → Calls Try.prog 84 #[.agg cs.toArray] w' (Says w' (p x))) :
    Calls Try.prog 94 #[v, .func (Fn.func 84) #[] #[]] w (Gives w fun r _ => r = .int .i64 (idxOf p l)) := by
  obtain ⟨a, cap, rfl, hl, hc⟩ := h
  have HC := Lib.hid hc
  have HF := Lib.hid hf
  clear hc hf
  go_enter Try.func94, Try.ntmps94
  go_wp2_with fail
  go_loopw [8] (fun i wr => ∃ k : Nat, k ≤ l.length ∧ i = .int .i64 k ∧ Hid (∀ x ∈ l.take k, p x = false) ∧ Below w.heap.size w wr) (fun i _ => l.length - (intOf i).toNat)
  case atStart => exact ⟨0, Nat.zero_le _, rfl, by show ∀ x ∈ _, _; simp, Below.refl _ _⟩
  case round =>
    obtain ⟨k, hk, rfl, HN, hB0⟩ := hrel
    by_cases hlt : k < l.length
    · have hne : l ≠ [] := by intro e; rw [e] at hlt; simp at hlt
      obtain ⟨b, off, rfl, hc⟩ := HC.out hne
      obtain ⟨x, hx⟩ : ∃ x, l[k]? = some x := ⟨l[k], by simp [hlt]⟩
      obtain ⟨rr, hrep, hcell⟩ := hc k x hx
      simp only [show k * Rep.size DRow = k from Nat.mul_one k] at hcell
      have HI := Lib.hid (show (Try.prog.info? 39).map (·.size) = some rr.length by rw [Rep.len hrep]; exact size_implRow)
      have HL := Lib.hid (show ∀ (j : Nat) u, rr[j]? = some u → wr.cell? ⟨b, off + k + j, none⟩ = some u from fun j u hu => (hB0.cell (p := ⟨b, _, none⟩) (World.block_lt_of_cell? w _ (hcell j u hu))).trans (hcell j u hu))
      have HR := Lib.hid hrep
      have HX := Lib.hid hx
      obtain ⟨xa0, xn0, xc0, rfl⟩ := DRow.shape hrep
      clear hc hcell hrep hne hx
      have HB := Lib.hid hB0
      clear hB0
      cases hp : p x
      · have HP := Lib.hid hp
        clear hp
        go_wp2_with (first | (with_reducible (show wpList _ _ _ (Oper.mk _ (Op.load 39 _) _ _ _ _ :: _) _ _); refine wpList_load_agg rfl 39 _ rfl b _ rfl _ _ HL.out Try.underlying39 HI.out ?_) | (go_at_call 84; refine (HF.out _ _ x HB.out (Rep.mono HR.out HB.out)).mono ?_; rintro e W1 ⟨_, rfl, rfl, hb⟩; rw [HP.out]; have HB1 := Lib.hid (bel_next HB.out hb); clear hb))
        go_roundw
        case rel => exact ⟨k + 1, by omega, by go_num, not_yet HN.out HX.out HP.out, HB1.out⟩
        case measure => simp [intOf]; omega
      · have HP := Lib.hid hp
        clear hp
        go_wp2_with (first | (with_reducible (show wpList _ _ _ (Oper.mk _ (Op.load 39 _) _ _ _ _ :: _) _ _); refine wpList_load_agg rfl 39 _ rfl b _ rfl _ _ HL.out Try.underlying39 HI.out ?_) | (go_at_call 84; refine (HF.out _ _ x HB.out (Rep.mono HR.out HB.out)).mono ?_; rintro e W1 ⟨_, rfl, rfl, hb⟩; rw [HP.out]; have HB1 := Lib.hid (bel_next HB.out hb); clear hb))
        go_ret
        exact ⟨_, rfl, int_eq (idxOf_found HN.out HX.out HP.out).symm, HB1.out⟩
    · obtain rfl : k = l.length := by omega
      go_wp2_with fail
      go_ret
      rw [List.take_length] at HN
      exact ⟨_, rfl, int_eq (idxOf_none HN.out).symm, hB0⟩
set_option maxHeartbeats 400000 in
theorem impl_backOk (w : World) (v : Value) (l : List DRow) (n : Int) (h : RepS w v l) : Calls Try.prog 61 #[v, .int .i64 n] w (Says w (decide ((l.length : Int) ≤ n) && l.all rowOkB)) := by
  have HR := Lib.hid h
  obtain ⟨a, cap, rfl, hl, -⟩ := h
  have e1 : decide (0 ≤ idxOf (fun x => !rowOkB x) l) = l.any (fun x => !rowOkB x) := idxOf_any
  have e2 : (!l.any (fun x => !rowOkB x)) = l.all rowOkB := no_any
  by_cases hn : (l.length : Int) ≤ n
  · have d1 : decide ((l.length : Int) ≤ n) = true := decide_eq_true hn
    cases h0 : l.any (fun x => !rowOkB x)
    all_goals
      rw [h0] at e1 e2
      have hlt := e1
      simp only [decide_eq_true_eq, decide_eq_false_iff_not, Int.not_le] at hlt
      have E2 := Lib.hid e2
      clear e2 h0
      go_enter Try.func61, Try.ntmps61
      go_wp2_with fail
      go_enter Try.func83, Try.ntmps83
      go_wp2_with fail
      refine (idx_rows _ _ l (fun x => !rowOkB x) HR.out (fun w' cs x _ hr => impl_backOk_1 w' cs x hr)).mono ?_
      rintro e W1 ⟨_, rfl, rfl, hb⟩
      have HB := Lib.hid hb
      clear hb
      go_wp2_with fail
      go_ret
      exact says_ret (by rw [d1, ← E2.out]; first | rfl | (simp; omega)) HB.out
  · have d1 : decide ((l.length : Int) ≤ n) = false := decide_eq_false hn
    clear e1 e2
    go_enter Try.func61, Try.ntmps61
    go_wp2_with fail
    go_ret
    exact says_ret rfl (by repeat (first | (with_reducible exact Below.refl _ _) | (with_reducible assumption) | (with_reducible refine bel_alloc ?_ _) | ((with_reducible refine bel_set ?_ ?_ _); rotate_left; (focus first | (simp; done) | (simp; omega)))))
set_option maxRecDepth 100000 in
set_option maxHeartbeats 1000000 in
theorem spec_l09Row (w : World) (cs : List Value) (x : DRow) (h : Rep.rep w cs x) : Calls Try.prog 66 #[.agg cs.toArray] w (Says w (rowOkB x)) := by
  obtain ⟨v0, rfl, h0⟩ := DRow.rep_iff.1 h
  clear h
  obtain ⟨a, cap, rfl, hl, hc⟩ := h0
  have HC := Lib.hid hc
  clear hc
  go_enter Try.func66, Try.ntmps66
  go_wp2_with fail
  generalize hwb : World.alloc w _ = W0
  have HB0 := Lib.hid (show Below w.heap.size w W0 from by rw [← hwb]; exact bel_alloc (Below.refl _ _) _)
  have hz0 : w.heap.size < W0.heap.size := by rw [← hwb]; simp
  have hr0 : W0.heap[w.heap.size]? = some (.cells #[.slice a x.Cells.length cap] 39 (0, 0)) := by rw [← hwb]; exact new_at _ _ rfl
  have b0 : W0.cell? ⟨w.heap.size, 0, none⟩ = some (.slice a x.Cells.length cap) := by simp only [World.cell?, hr0]; rfl
  clear hwb hr0
  go_loopw [8] (fun i wr => ∃ k : Nat, k ≤ x.Cells.length ∧ i = .int .i64 k ∧ Hid (∀ c ∈ x.Cells.take k, (!cellOkB c) = false) ∧ Hid (Below W0.heap.size W0 wr)) (fun i _ => x.Cells.length - (intOf i).toNat)
  case atStart => exact ⟨0, Nat.zero_le _, rfl, by show ∀ x ∈ _, _; simp, Below.refl _ _⟩
  case round =>
    obtain ⟨k, hk, rfl, HN, HBr⟩ := hrel
    have hB0 := bel_next HB0.out HBr.out
    by_cases hlt : k < x.Cells.length
    · have hne : x.Cells ≠ [] := by intro e; rw [e] at hlt; simp at hlt
      obtain ⟨b, off, rfl, hc⟩ := HC.out hne
      obtain ⟨y, hx⟩ : ∃ y, x.Cells[k]? = some y := ⟨x.Cells[k], by simp [hlt]⟩
      obtain ⟨rr, hrep, hcell⟩ := hc k y hx
      have HI := Lib.hid (show (Try.prog.info? 37).map (·.size) = some rr.length by rw [Rep.len hrep]; exact size_implCell)
      have HL := Lib.hid (show ∀ (j : Nat) u, rr[j]? = some u → wr.cell? ⟨b, off + k * 6 + j, none⟩ = some u from fun j u hu => (hB0.cell (p := ⟨b, _, none⟩) (World.block_lt_of_cell? w _ (hcell j u hu))).trans (hcell j u hu))
      have HR := Lib.hid hrep
      have HX := Lib.hid hx
      obtain rfl := DCell.shape hrep
      clear hc hcell hrep hne hx
      have HB := Lib.hid hB0
      clear hB0
      cases hp : cellOkB y
      all_goals
        have HP := Lib.hid hp
        clear hp
        go_wp2_with (first | (with_reducible (show wpList _ _ _ (Oper.mk _ (Op.load 37 _) _ _ _ _ :: _) _ _); refine wpList_load_agg rfl 37 _ rfl b _ rfl _ _ HL.out Try.underlying37 HI.out ?_) | (go_at_call 87; refine (spec_CellOk _ [_, _, _, _, _, _] y (Rep.mono HR.out (bel_alloc HB.out _))).mono ?_; rintro e W1 ⟨_, rfl, rfl, hb⟩; rw [HP.out]; have HB1 := Lib.hid (bel_next (bel_alloc HBr.out _) hb); clear hb))
      · go_ret
        exact says_ret (by unfold rowOkB; rw [show x.Cells.all cellOkB = false from by rw [List.all_eq_false]; exact ⟨y, List.mem_of_getElem? HX.out, by rw [HP.out]; simp⟩]; simp) (bel_next HB0.out HB1.out)
      · go_roundw
        case rel => exact ⟨k + 1, by omega, by go_num, not_yet HN.out HX.out (by rw [HP.out]; rfl), HB1.out⟩
        case measure => simp [intOf]; omega
    · obtain rfl : k = x.Cells.length := by omega
      have kA := fun o => cell_of_heap (HBr.out.block w.heap.size (by omega)) o
      have ha : x.Cells.all cellOkB = true := by
        have := HN.out
        rw [List.take_length] at this
        rw [List.all_eq_true]
        intro c hc
        have := this c hc
        simpa using this
      have HA := Lib.hid ha
      clear ha hB0
      go_wp2_with fail
      all_goals go_ret
      all_goals exact says_ret (by unfold rowOkB; rw [HA.out, Bool.and_true, Bool.eq_iff_iff, withinB_true]; simp [*] <;> omega) (bel_next HB0.out HBr.out)
end Go.Proofs.Ytaobgfneeijpmaa
