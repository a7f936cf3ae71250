/- The walks of the functions that test cells and grids, the program's and the reference's. -/
import Derived.Test.YtaobgfneeijpmaaFnBase
set_option linter.unusedSimpArgs false
set_option linter.unusedVariables false
namespace Go.Mux
open Go.RowKit
/-- Where the first element is that passes, or -1. -/
def idxOf {α : Type} (p : α → Bool) (l : List α) : Int := match l.findIdx? p with | some i => (i : Int) | none => -1
theorem int_eq {a b : Int} (h : a = b) : Value.int .i64 a = .int .i64 b := by rw [h]
theorem idxOf_found {α : Type} {p : α → Bool} {l : List α} {k : Nat} {x : α} (hn : ∀ y ∈ l.take k, p y = false) (hx : l[k]? = some x) (hp : p x = true) : idxOf p l = (k : Int) := by
  have hk : k < l.length := by rw [List.getElem?_eq_some_iff] at hx; exact hx.1
  have hx' : l[k] = x := by rw [List.getElem?_eq_getElem hk] at hx; exact Option.some.inj hx
  have : l.findIdx? p = some k := by
    rw [List.findIdx?_eq_some_iff_getElem]
    refine ⟨hk, by rw [hx']; exact hp, fun j hj => ?_⟩
    have := hn l[j] (List.mem_take_iff_getElem.2 ⟨j, by omega, rfl⟩)
    simp [this]
  unfold idxOf; rw [this]
theorem idxOf_none {α : Type} {p : α → Bool} {l : List α} (hn : ∀ y ∈ l, p y = false) : idxOf p l = -1 := by
  have : l.findIdx? p = none := by rw [List.findIdx?_eq_none_iff]; exact fun x hx => by simp [hn x hx]
  unfold idxOf; rw [this]
theorem not_yet {α : Type} {p : α → Bool} {l : List α} {k : Nat} {x : α} (hn : ∀ y ∈ l.take k, p y = false) (hx : l[k]? = some x) (hp : p x = false) : Hid (∀ y ∈ l.take (k + 1), p y = false) := by
  show ∀ y ∈ _, _
  rw [List.take_add_one, hx]
  intro y hy
  rcases List.mem_append.1 hy with h | h
  · exact hn y h
  · simp at h; rw [h]; exact hp
theorem idxOf_ge {α : Type} (p : α → Bool) (l : List α) : (0 ≤ idxOf p l) ↔ l.any p = true := by
  unfold idxOf
  cases h : l.findIdx? p with
  | none =>
    rw [List.findIdx?_eq_none_iff] at h
    simp only [show ¬ (0 : Int) ≤ -1 from by omega, false_iff, List.any_eq_true, not_exists]
    intro x hx
    simp [h x hx.1] at hx
  | some i =>
    rw [List.findIdx?_eq_some_iff_getElem] at h
    obtain ⟨hi, hp, _⟩ := h
    simp only [List.any_eq_true]
    exact ⟨fun _ => ⟨_, List.getElem_mem hi, hp⟩, fun _ => by omega⟩
theorem idxOf_bounds {α : Type} (p : α → Bool) (l : List α) : -1 ≤ idxOf p l ∧ idxOf p l < l.length := by
  unfold idxOf
  cases h : l.findIdx? p with
  | none => simp; omega
  | some i =>
    rw [List.findIdx?_eq_some_iff_getElem] at h
    obtain ⟨hi, _⟩ := h
    simp; omega
@[irreducible] def cellOkB (c : DCell) : Bool := showsB c.R && attrOkB c.A
@[irreducible] def isSizeB (w h : Int) : Bool := withinB w 1 120 && withinB h 1 120 && decide (w * h ≤ 4000)
@[irreducible] def gridOkB (g : DGrid) : Bool := isSizeB g.W g.H && ((g.Cells.length : Int) == g.W * g.H) && g.Cells.all cellOkB
@[irreducible] def gridHasB (g : DGrid) (x y : Int) : Bool := withinB x 0 (g.W - 1) && withinB y 0 (g.H - 1)
theorem isSizeB_true {a b : Int} (h : isSizeB a b = true) : 1 ≤ a ∧ a ≤ 120 ∧ 1 ≤ b ∧ b ≤ 120 ∧ 1 ≤ a * b ∧ a * b ≤ 4000 := by
  unfold isSizeB at h
  simp only [Bool.and_eq_true, decide_eq_true_eq, withinB_true] at h
  obtain ⟨⟨b1, b2⟩, h3⟩ := h
  have m1 : 1 ≤ a * b := by have := Int.mul_le_mul b1.1 b2.1 (by omega) (by omega); simpa using this
  exact ⟨b1.1, b1.2, b2.1, b2.2, m1, h3⟩
theorem isSizeB_false {a b : Int} (h : isSizeB a b = false) : a < 1 ∨ (1 ≤ a ∧ 120 < a) ∨ (1 ≤ a ∧ a ≤ 120 ∧ b < 1) ∨ (1 ≤ a ∧ a ≤ 120 ∧ 1 ≤ b ∧ 120 < b) ∨ (1 ≤ a ∧ a ≤ 120 ∧ 1 ≤ b ∧ b ≤ 120 ∧ 4000 < a * b ∧ a * b ≤ 14400) := by
  unfold isSizeB at h
  simp only [Bool.and_eq_false_iff, decide_eq_false_iff_not, withinB_false] at h
  by_cases h1 : a < 1
  · exact .inl h1
  by_cases h2 : 120 < a
  · exact .inr (.inl ⟨by omega, h2⟩)
  by_cases h3 : b < 1
  · exact .inr (.inr (.inl ⟨by omega, by omega, h3⟩))
  by_cases h4 : 120 < b
  · exact .inr (.inr (.inr (.inl ⟨by omega, by omega, by omega, h4⟩)))
  have m2 : a * b ≤ 14400 := by have := Int.mul_le_mul (show a ≤ 120 by omega) (show b ≤ 120 by omega) (by omega) (by omega); simpa using this
  exact .inr (.inr (.inr (.inr ⟨by omega, by omega, by omega, by omega, by omega, m2⟩)))
theorem grid_no {x : DGrid} {k : Nat} {y : DCell} (hx : x.Cells[k]? = some y) (hp : cellOkB y = false) : gridOkB x = false := by
  unfold gridOkB
  have : x.Cells.all cellOkB = false := by
    rw [List.all_eq_false]
    exact ⟨y, List.mem_of_getElem? hx, by simp [hp]⟩
  simp [this]
theorem grid_yes {x : DGrid} (hs : isSizeB x.W x.H = true) (he : (x.Cells.length : Int) = x.W * x.H) (hn : ∀ c ∈ x.Cells, (!cellOkB c) = false) : gridOkB x = true := by
  unfold gridOkB
  have : x.Cells.all cellOkB = true := by
    rw [List.all_eq_true]
    intro c hc
    have := hn c hc
    simpa using this
  simp [hs, he, this]
theorem gridOkB_size {g : DGrid} (h : gridOkB g = true) : 1 ≤ g.W ∧ g.W ≤ 120 ∧ 1 ≤ g.H ∧ g.H ≤ 120 ∧ 1 ≤ g.W * g.H ∧ g.W * g.H ≤ 4000 ∧ (g.Cells.length : Int) = g.W * g.H := by
  unfold gridOkB at h
  simp only [Bool.and_eq_true] at h
  obtain ⟨⟨h1, h2⟩, h3⟩ := h
  obtain ⟨a, b, c, d, e, f⟩ := isSizeB_true h1
  exact ⟨a, b, c, d, e, f, by simpa using h2⟩
end Go.Mux
namespace Go.Proofs.Ytaobgfneeijpmaa
open Go.RowKit Go.Mux
set_option maxHeartbeats 400000 in
theorem spec_CellOk (w : World) (cs : List Value) (x : DCell) (h : Rep.rep w cs x) : Calls Try.prog 87 #[.agg cs.toArray] w (Says w (cellOkB x)) := by
  obtain ⟨rfl, h0, h1, h2⟩ := DCell.rep_iff.1 h
  clear h
  have HA := Lib.hid (fun (w' : World) => (DAttr.rep_iff (w := w') (x := x.A)).2 ⟨rfl, h1, h2⟩)
  clear h0 h1 h2
  cases h1 : showsB x.R <;> cases h2 : attrOkB x.A
  all_goals
    go_enter Try.func87, Try.ntmps87
    go_wp2_with (first | (go_at_call 78; refine (spec_Shows _ _).mono ?_; rintro e w' ⟨rfl, rfl⟩) | (go_at_call 65; refine (spec_AttrOk _ _ x.A (HA.out _)).mono ?_; rintro e W1 ⟨_, rfl, rfl, hb⟩; have HB := Lib.hid hb; clear hb))
    go_ret
    first
      | exact says_ret (by unfold cellOkB; simp [*]) ((bel_alloc (Below.refl _ _) _).trans (HB.out.mono (by simp)))
      | exact says_ret (by unfold cellOkB; simp [*]) (bel_alloc (Below.refl _ _) _)
set_option maxHeartbeats 400000 in
theorem impl_CellOk (w : World) (cs : List Value) (x : DCell) (h : Rep.rep w cs x) : Calls Try.prog 90 #[.agg cs.toArray] w (Says w (cellOkB x)) := by
  obtain ⟨rfl, h0, h1, h2⟩ := DCell.rep_iff.1 h
  clear h
  have HA := Lib.hid (fun (w' : World) => (DAttr.rep_iff (w := w') (x := x.A)).2 ⟨rfl, h1, h2⟩)
  clear h0 h1 h2
  cases h1 : showsB x.R <;> cases h2 : attrOkB x.A
  all_goals
    go_enter Try.func90, Try.ntmps90
    go_wp2_with (first | (go_at_call 97; refine (impl_Shows _ _).mono ?_; rintro e w' ⟨rfl, rfl⟩) | (go_at_call 58; refine (impl_AttrOk _ _ x.A (HA.out _)).mono ?_; rintro e W1 ⟨_, rfl, rfl, hb⟩; have HB := Lib.hid hb; clear hb))
    go_ret
    first
      | exact says_ret (by unfold cellOkB; simp [*]) ((bel_alloc (Below.refl _ _) _).trans (HB.out.mono (by simp)))
      | exact says_ret (by unfold cellOkB; simp [*]) (bel_alloc (Below.refl _ _) _)
set_option maxHeartbeats 400000 in
theorem impl_areCells_1 (w : World) (cs : List Value) (x : DCell) (h : Rep.rep w cs x) : Calls Try.prog 89 #[.agg cs.toArray] w (Says w (!cellOkB x)) := by
  have HR := Lib.hid h
  obtain rfl := DCell.shape h
  clear h
  go_enter Try.func89, Try.ntmps89
  go_wp2_with fail
  refine (impl_CellOk _ [_, _, _, _, _, _] x (Rep.mono HR.out (bel_alloc (Below.refl _ _) _))).mono ?_
  rintro e W1 ⟨_, rfl, rfl, hb⟩
  have HB := Lib.hid hb
  clear hb
  go_wp2_with fail
  go_ret
  exact says_ret rfl ((bel_alloc (Below.refl _ _) _).trans (HB.out.mono (by simp)))
set_option maxHeartbeats 400000 in
theorem idx_cells (w : World) (v : Value) (l : List DCell) (p : DCell → Bool) (h : RepS w v l)
    (hf : ∀ w' cs x, Below w.heap.size w w' → Rep.rep w' cs x → Calls Try.prog 89 #[.agg cs.toArray] w' (Says w' (p x))) :
    Calls Try.prog 96 #[v, .func (Fn.func 89) #[] #[]] w (Gives w fun r _ => r = .int .i64 (idxOf p l)) := by
  obtain ⟨a, cap, rfl, hl, hc⟩ := h
  have HC := Lib.hid hc
  have HF := Lib.hid hf
  clear hc hf
  go_enter Try.func96, Try.ntmps96
  go_wp2_with fail
  go_loopw [8] (fun i wr => ∃ k : Nat, k ≤ l.length ∧ i = .int .i64 k ∧ Hid (∀ x ∈ l.take k, p x = false) ∧ Below w.heap.size w wr) (fun i _ => l.length - (intOf i).toNat)
  case atStart => exact ⟨0, Nat.zero_le _, rfl, by show ∀ x ∈ _, _; simp, Below.refl _ _⟩
  case round =>
    obtain ⟨k, hk, rfl, HN, hB0⟩ := hrel
    by_cases hlt : k < l.length
    · have hne : l ≠ [] := by intro e; rw [e] at hlt; simp at hlt
      obtain ⟨b, off, rfl, hc⟩ := HC.out hne
      obtain ⟨x, hx⟩ : ∃ x, l[k]? = some x := ⟨l[k], by simp [hlt]⟩
      obtain ⟨rr, hrep, hcell⟩ := hc k x hx
      have HI := Lib.hid (show (Try.prog.info? 37).map (·.size) = some rr.length by rw [Rep.len hrep]; exact size_implCell)
      have HL := Lib.hid (show ∀ (j : Nat) u, rr[j]? = some u → wr.cell? ⟨b, off + k * 6 + j, none⟩ = some u from fun j u hu => (hB0.cell (p := ⟨b, _, none⟩) (World.block_lt_of_cell? w _ (hcell j u hu))).trans (hcell j u hu))
      have HR := Lib.hid hrep
      have HX := Lib.hid hx
      obtain rfl := DCell.shape hrep
      clear hc hcell hrep hne hx
      have HB := Lib.hid hB0
      clear hB0
      cases hp : p x
      · have HP := Lib.hid hp
        clear hp
        go_wp2_with (first | (with_reducible (show wpList _ _ _ (Oper.mk _ (Op.load 37 _) _ _ _ _ :: _) _ _); refine wpList_load_agg rfl 37 _ rfl b _ rfl _ _ HL.out Try.underlying37 HI.out ?_) | (go_at_call 89; refine (HF.out _ _ x HB.out (Rep.mono HR.out HB.out)).mono ?_; rintro e W1 ⟨_, rfl, rfl, hb⟩; rw [HP.out]; have HB1 := Lib.hid (bel_next HB.out hb); clear hb))
        go_roundw
        case rel => exact ⟨k + 1, by omega, by go_num, not_yet HN.out HX.out HP.out, HB1.out⟩
        case measure => simp [intOf]; omega
      · have HP := Lib.hid hp
        clear hp
        go_wp2_with (first | (with_reducible (show wpList _ _ _ (Oper.mk _ (Op.load 37 _) _ _ _ _ :: _) _ _); refine wpList_load_agg rfl 37 _ rfl b _ rfl _ _ HL.out Try.underlying37 HI.out ?_) | (go_at_call 89; refine (HF.out _ _ x HB.out (Rep.mono HR.out HB.out)).mono ?_; rintro e W1 ⟨_, rfl, rfl, hb⟩; rw [HP.out]; have HB1 := Lib.hid (bel_next HB.out hb); clear hb))
        go_ret
        exact ⟨_, rfl, int_eq (idxOf_found HN.out HX.out HP.out).symm, HB1.out⟩
    · obtain rfl : k = l.length := by omega
      go_wp2_with fail
      go_ret
      rw [List.take_length] at HN
      exact ⟨_, rfl, int_eq (idxOf_none HN.out).symm, hB0⟩
set_option maxHeartbeats 400000 in
theorem impl_areCells (w : World) (v : Value) (l : List DCell) (h : RepS w v l) : Calls Try.prog 68 #[v] w (Says w (l.all cellOkB)) := by
  have HR := Lib.hid h
  clear h
  have HI := idxOf_ge (fun x => !cellOkB x) l
  have e : (!l.any (fun x => !cellOkB x)) = l.all cellOkB := by rw [Bool.eq_iff_iff]; simp
  cases h0 : l.any (fun x => !cellOkB x)
  all_goals
    rw [h0] at e HI
    simp only [iff_true, Bool.false_eq_true, iff_false, Int.not_le] at HI
    have E := Lib.hid e
    clear e h0
    go_enter Try.func68, Try.ntmps68
    go_wp2_with fail
    go_enter Try.func88, Try.ntmps88
    go_wp2_with fail
    refine (idx_cells _ _ l (fun x => !cellOkB x) HR.out (fun w' cs x _ hr => impl_areCells_1 w' cs x hr)).mono ?_
    rintro e W1 ⟨_, rfl, rfl, hb⟩
    have HB := Lib.hid hb
    clear hb
    go_wp2_with fail
    go_ret
    exact says_ret (by rw [← E.out]; first | rfl | (simp; omega)) HB.out
set_option maxHeartbeats 400000 in
theorem impl_isSize (w : World) (a b : Int) (ha : I64 a) (hb : I64 b) : Calls Try.prog 67 #[.int .i64 a, .int .i64 b] w (Pure w (.bool (isSizeB a b))) := by
  clear ha hb
  cases h1 : withinB a 1 120 <;> cases h2 : withinB b 1 120
  case true.true =>
    have b1 := withinB_true.1 h1
    have b2 := withinB_true.1 h2
    have m1 : 1 ≤ a * b := by have := Int.mul_le_mul b1.1 b2.1 (by omega) (by omega); simpa using this
    have m2 : a * b ≤ 14400 := by have := Int.mul_le_mul b1.2 b2.2 (by omega) (by omega); simpa using this
    by_cases h3 : a * b ≤ 4000
    all_goals
      go_enter Try.func67, Try.ntmps67
      go_wp2_with (go_at_call 60; refine (impl_within _ _ _ _).mono ?_; rintro e w' ⟨rfl, rfl⟩)
      go_ret
      exact pure_ret (by unfold isSizeB; simp [*])
  all_goals
    go_enter Try.func67, Try.ntmps67
    go_wp2_with (go_at_call 60; refine (impl_within _ _ _ _).mono ?_; rintro e w' ⟨rfl, rfl⟩)
    go_ret
    exact pure_ret (by unfold isSizeB; simp [*])
set_option maxHeartbeats 1000000 in
theorem impl_GridOk (w : World) (cs : List Value) (x : DGrid) (h : Rep.rep w cs x) : Calls Try.prog 30 #[.agg cs.toArray] w (Says w (gridOkB x)) := by
  obtain ⟨v0, rfl, h0, h1, h2⟩ := DGrid.rep_iff.1 h
  clear h
  have HR := Lib.hid h2
  obtain ⟨a, cap, rfl, hl, -⟩ := h2
  cases hs : isSizeB x.W x.H
  case false =>
    have HS := Lib.hid hs
    clear hs
    go_enter Try.func30, Try.ntmps30
    go_wp2_with (go_at_call 67; refine (impl_isSize _ _ _ h0 h1).mono ?_; rintro e w' ⟨rfl, rfl⟩; rw [HS.out])
    go_ret
    exact says_ret (by unfold gridOkB; simp [HS.out]) (by repeat (first | (with_reducible exact Below.refl _ _) | (with_reducible assumption) | (with_reducible refine bel_alloc ?_ _) | ((with_reducible refine bel_set ?_ ?_ _); rotate_left; (focus first | (simp; done) | (simp; omega)))))
  case true =>
    obtain ⟨s1, s2, s3, s4, s5, s6⟩ := isSizeB_true hs
    have HS := Lib.hid hs
    clear hs
    cases he : ((x.Cells.length : Int) == x.W * x.H)
    case false =>
      go_enter Try.func30, Try.ntmps30
      go_wp2_with (go_at_call 67; refine (impl_isSize _ _ _ h0 h1).mono ?_; rintro e w' ⟨rfl, rfl⟩; rw [HS.out])
      go_ret
      exact says_ret (by unfold gridOkB; simp [he]) (by repeat (first | (with_reducible exact Below.refl _ _) | (with_reducible assumption) | (with_reducible refine bel_alloc ?_ _) | ((with_reducible refine bel_set ?_ ?_ _); rotate_left; (focus first | (simp; done) | (simp; omega)))))
    case true =>
      go_enter Try.func30, Try.ntmps30
      go_wp2_with (first | (go_at_call 67; refine (impl_isSize _ _ _ h0 h1).mono ?_; rintro e w' ⟨rfl, rfl⟩; rw [HS.out]) | (go_at_call 68; refine (impl_areCells _ _ x.Cells (HR.out.mono (by repeat (first | (with_reducible exact Below.refl _ _) | (with_reducible assumption) | (with_reducible refine bel_alloc ?_ _) | ((with_reducible refine bel_set ?_ ?_ _); rotate_left; (focus first | (simp; done) | (simp; omega))))))).mono ?_; rintro e W1 ⟨_, rfl, rfl, hb⟩; have HB := Lib.hid (bel_next (show Below w.heap.size w _ from (by repeat (first | (with_reducible exact Below.refl _ _) | (with_reducible assumption) | (with_reducible refine bel_alloc ?_ _) | ((with_reducible refine bel_set ?_ ?_ _); rotate_left; (focus first | (simp; done) | (simp; omega)))))) hb); clear hb))
      go_ret
      exact says_ret (by unfold gridOkB; simp [HS.out, he]) HB.out
theorem spec_GridOk_no (w : World) (x : DGrid) (a : Option Addr) (cap : Nat)
    (hs : x.W < 1 ∨ (1 ≤ x.W ∧ 120 < x.W) ∨ (1 ≤ x.W ∧ x.W ≤ 120 ∧ x.H < 1) ∨ (1 ≤ x.W ∧ x.W ≤ 120 ∧ 1 ≤ x.H ∧ 120 < x.H) ∨ (1 ≤ x.W ∧ x.W ≤ 120 ∧ 1 ≤ x.H ∧ x.H ≤ 120 ∧ 4000 < x.W * x.H ∧ x.W * x.H ≤ 14400)) :
    Calls Try.prog 64 #[.agg #[.int .i64 x.W, .int .i64 x.H, .slice a x.Cells.length cap]] w (Says w false) := by
  rcases hs with s | ⟨s, s'⟩ | ⟨s, s', s''⟩ | ⟨s, s', s'', s3⟩ | ⟨s, s', s'', s3, s4, s5⟩
  all_goals
    go_enter Try.func64, Try.ntmps64
    go_wp2
    go_ret
    exact says_ret rfl (by repeat (first | (with_reducible exact Below.refl _ _) | (with_reducible assumption) | (with_reducible refine bel_alloc ?_ _) | ((with_reducible refine bel_set ?_ ?_ _); rotate_left; (focus first | (simp; done) | (simp; omega)))))
set_option maxHeartbeats 1000000 in
theorem spec_GridOk (w : World) (cs : List Value) (x : DGrid) (h : Rep.rep w cs x) : Calls Try.prog 64 #[.agg cs.toArray] w (Says w (gridOkB x)) := by
  obtain ⟨v0, rfl, h0, h1, h2⟩ := DGrid.rep_iff.1 h
  clear h
  obtain ⟨a, cap, rfl, hl, hc⟩ := h2
  cases hs : isSizeB x.W x.H
  case false =>
    have e : gridOkB x = false := by unfold gridOkB; simp [hs]
    rw [e]
    exact spec_GridOk_no w x a cap (isSizeB_false hs)
  case true =>
    obtain ⟨s1, s2, s3, s4, s5, s6⟩ := isSizeB_true hs
    have HS := Lib.hid hs
    clear hs
    have HC := Lib.hid hc
    clear hc
    by_cases he : (x.Cells.length : Int) = x.W * x.H
    case neg =>
      have he' : ((x.Cells.length : Int) == x.W * x.H) = false := by simpa using he
      have he2 : ((x.Cells.length : Int) != x.W * x.H) = true := by simpa using he
      clear he
      have hg : gridOkB x = false := by unfold gridOkB; simp [he']
      rw [hg]
      go_enter Try.func64, Try.ntmps64
      go_wp2
      go_ret
      exact says_ret rfl (by repeat (first | (with_reducible exact Below.refl _ _) | (with_reducible assumption) | (with_reducible refine bel_alloc ?_ _) | ((with_reducible refine bel_set ?_ ?_ _); rotate_left; (focus first | (simp; done) | (simp; omega)))))
    case pos =>
      have HE := Lib.hid he
      have he2 : ((x.Cells.length : Int) != x.W * x.H) = false := by simpa using he
      clear he
      go_enter Try.func64, Try.ntmps64
      go_wp2
      go_loopw [45] (fun i wr => ∃ k : Nat, k ≤ x.Cells.length ∧ i = .int .i64 k ∧ Hid (∀ c ∈ x.Cells.take k, (!cellOkB c) = false) ∧ Below w.heap.size w wr) (fun i _ => x.Cells.length - (intOf i).toNat)
      case atStart => exact ⟨0, Nat.zero_le _, rfl, by show ∀ x ∈ _, _; simp, (by repeat (first | (with_reducible exact Below.refl _ _) | (with_reducible assumption) | (with_reducible refine bel_alloc ?_ _) | ((with_reducible refine bel_set ?_ ?_ _); rotate_left; (focus first | (simp; done) | (simp; omega)))))⟩
      case round =>
        obtain ⟨k, hk, rfl, HN, hB0⟩ := hrel
        by_cases hlt : k < x.Cells.length
        · have hne : x.Cells ≠ [] := by intro e; rw [e] at hlt; simp at hlt
          obtain ⟨b, off, rfl, hc⟩ := HC.out hne
          obtain ⟨y, hx⟩ : ∃ y, x.Cells[k]? = some y := ⟨x.Cells[k], by simp [hlt]⟩
          obtain ⟨rr, hrep, hcell⟩ := hc k y hx
          have HI := Lib.hid (show (Try.prog.info? 37).map (·.size) = some rr.length by rw [Rep.len hrep]; exact size_implCell)
          have HL := Lib.hid (show ∀ (j : Nat) u, rr[j]? = some u → wr.cell? ⟨b, off + k * 6 + j, none⟩ = some u from fun j u hu => (hB0.cell (p := ⟨b, _, none⟩) (World.block_lt_of_cell? w _ (hcell j u hu))).trans (hcell j u hu))
          have HR := Lib.hid hrep
          have HX := Lib.hid hx
          obtain rfl := DCell.shape hrep
          clear hc hcell hrep hne hx
          have HB := Lib.hid hB0
          clear hB0
          cases hp : cellOkB y
          all_goals
            have HP := Lib.hid hp
            clear hp
            go_wp2_with (first | (with_reducible (show wpList _ _ _ (Oper.mk _ (Op.load 37 _) _ _ _ _ :: _) _ _); refine wpList_load_agg rfl 37 _ rfl b _ rfl _ _ HL.out Try.underlying37 HI.out ?_) | (go_at_call 87; refine (spec_CellOk _ [_, _, _, _, _, _] y (Rep.mono HR.out (bel_alloc HB.out _))).mono ?_; rintro e W1 ⟨_, rfl, rfl, hb⟩; rw [HP.out]; have HB1 := Lib.hid (bel_next (show Below w.heap.size w _ from bel_alloc HB.out _) hb); clear hb))
          · go_ret
            exact says_ret (grid_no HX.out HP.out).symm HB1.out
          · go_roundw
            case rel => exact ⟨k + 1, by omega, by go_num, not_yet HN.out HX.out (by rw [HP.out]; rfl), HB1.out⟩
            case measure => simp [intOf]; omega
        · obtain rfl : k = x.Cells.length := by omega
          go_wp2
          go_ret
          rw [List.take_length] at HN
          exact says_ret (grid_yes HS.out HE.out HN.out).symm hB0
set_option maxHeartbeats 400000 in
theorem impl_Grid_has (w : World) (cs : List Value) (x : DGrid) (n m : Int) (h : Rep.rep w cs x) (b1 : 1 ≤ x.W) (b2 : 1 ≤ x.H) : Calls Try.prog 31 #[.agg cs.toArray, .int .i64 n, .int .i64 m] w (Says w (gridHasB x n m)) := by
  obtain ⟨v0, rfl, h0, h1, h2⟩ := DGrid.rep_iff.1 h
  clear h
  obtain ⟨a, cap, rfl, hl, -⟩ := h2
  unfold I64 at h0 h1
  obtain ⟨h0, h0'⟩ := h0
  obtain ⟨h1, h1'⟩ := h1
  cases h3 : withinB n 0 (x.W - 1) <;> cases h4 : withinB m 0 (x.H - 1)
  all_goals
    go_enter Try.func31, Try.ntmps31
    go_wp2_with (go_at_call 60; refine (impl_within _ _ _ _).mono ?_; rintro e w' ⟨rfl, rfl⟩)
    go_ret
    exact says_ret (by unfold gridHasB; simp [*]) (by repeat (first | (with_reducible exact Below.refl _ _) | (with_reducible assumption) | (with_reducible refine bel_alloc ?_ _) | ((with_reducible refine bel_set ?_ ?_ _); rotate_left; (focus first | (simp; done) | (simp; omega)))))
end Go.Proofs.Ytaobgfneeijpmaa
