/- What Look shows, as FnLook asks: nothing back is what is shown, all the way back begins with the oldest row, further back than that shows the same. -/
import Derived.Test.YtaobgfneeijpmaaFnShown
set_option linter.unusedSimpArgs false
set_option linter.unusedVariables false
namespace Go.Mux
open Go.RowKit
theorem look_zero {x : DScr} (h : scrOkB x = true) : lookG x 0 = shownG x := look_shown h (by simp)
theorem look_neg {x : DScr} (h : scrOkB x = true) : lookG x (-3) = shownG x := look_shown h (by simp)
theorem look_alt {x : DScr} {n : Int} (h : scrOkB x = true) (ha : (x.OnAlt || decide (n = 0)) = true) : lookG x n = shownG x := look_shown h (by
  simp only [Bool.or_eq_true, decide_eq_true_eq] at ha ⊢
  exact ha.imp id (fun e => by omega))
theorem fill_length (n : Nat) (l : List DCell) : (fillRow n l).length = n := by
  unfold fillRow
  rw [List.length_append, List.length_take, List.length_replicate]
  omega
theorem fill_get {n k : Nat} {l : List DCell} (hk : k < n) : (fillRow n l)[k]? = some (l[k]?.getD blankC) := by
  unfold fillRow
  by_cases hl : k < l.length
  · rw [List.getElem?_append_left (by rw [List.length_take]; omega), List.getElem?_take_of_lt hk, List.getElem?_eq_getElem hl]
    rfl
  · rw [List.getElem?_append_right (by rw [List.length_take]; omega), List.getElem?_replicate_of_lt (by rw [List.length_take]; omega), List.getElem?_eq_none (by omega)]
    rfl
theorem fills_length (n : Nat) : ∀ l : List DRow, ((l.map fun r => fillRow n r.Cells).flatten).length = l.length * n
  | [] => by simp
  | r :: l => by
    rw [List.map_cons, List.flatten_cons, List.length_append, fill_length, fills_length n l, List.length_cons, Nat.add_mul]
    omega
theorem grid_cells {g : DGrid} (h : gridOkB g = true) : ∀ c ∈ g.Cells, cellOkB c = true := by
  unfold gridOkB at h
  simp only [Bool.and_eq_true, List.all_eq_true] at h
  exact h.2
theorem row_cells {r : DRow} (h : rowOkB r = true) : ∀ c ∈ r.Cells, cellOkB c = true := by
  unfold rowOkB at h
  simp only [Bool.and_eq_true, List.all_eq_true] at h
  exact h.2
theorem all_ok {x : DScr} (h : scrOkB x = true) : ∀ c ∈ lookAll x, cellOkB c = true := by
  intro c hc
  have q := scrOkB_true h
  unfold lookAll at hc
  rcases List.mem_append.1 hc with hc | hc
  · obtain ⟨l, hl, hc⟩ := List.mem_flatten.1 hc
    obtain ⟨r, hr, rfl⟩ := List.mem_map.1 hl
    have hok := List.all_eq_true.1 q.2.2.2.2.2.2.2.1 r hr
    unfold fillRow at hc
    rcases List.mem_append.1 hc with hc | hc
    · exact row_cells hok c (List.mem_of_mem_take hc)
    · rw [List.eq_of_mem_replicate hc]; exact blank_ok
  · exact grid_cells q.2.2.2.2.1 c hc
theorem back_eq {x : DScr} : lookBack x (x.Back.length : Int) = { W := x.W, H := x.H, Cells := (lookAll x).take (x.W.toNat * x.H.toNat) } := by
  unfold lookBack lookFrom
  rw [Int.toNat_natCast, Nat.min_self, Nat.sub_self, Nat.zero_mul, List.drop_zero]
theorem look_full {x : DScr} (h : scrOkB x = true) (ha : (x.OnAlt || decide ((x.Back.length : Int) = 0)) = false) : lookG x (x.Back.length : Int) = { W := x.W, H := x.H, Cells := (lookAll x).take (x.W.toNat * x.H.toNat) } := by
  rw [look_back h (by simp only [Bool.or_eq_false_iff, decide_eq_false_iff_not] at ha ⊢; exact ⟨ha.1, by omega⟩), back_eq]
theorem look_more {x : DScr} (h : scrOkB x = true) (ha : (x.OnAlt || decide ((x.Back.length : Int) = 0)) = false) : lookG x ((x.Back.length : Int) + 5) = lookG x (x.Back.length : Int) := by
  simp only [Bool.or_eq_false_iff, decide_eq_false_iff_not] at ha
  rw [look_back h (by simp only [Bool.or_eq_false_iff, decide_eq_false_iff_not]; exact ⟨ha.1, by omega⟩), look_back h (by simp only [Bool.or_eq_false_iff, decide_eq_false_iff_not]; exact ⟨ha.1, by omega⟩)]
  unfold lookBack lookFrom
  have e : min ((x.Back.length : Int) + 5).toNat x.Back.length = min (x.Back.length : Int).toNat x.Back.length := by omega
  rw [e]
theorem full_ok {x : DScr} (h : scrOkB x = true) : gridOkB ({ W := x.W, H := x.H, Cells := (lookAll x).take (x.W.toNat * x.H.toNat) } : DGrid) = true := by
  have q := scrOkB_true h
  obtain ⟨s1, s2, s3, s4, s5, s6, s7⟩ := gridOkB_size q.2.2.2.2.1
  obtain ⟨e1, e2, _, _⟩ := scrSize_true q.2.2.2.2.2.2.1
  rw [e1] at s1 s2 s5 s6 s7
  rw [e2] at s3 s4 s5 s6 s7
  have hm : ((x.W.toNat * x.H.toNat : Nat) : Int) = x.W * x.H := by rw [Int.natCast_mul, Int.toNat_of_nonneg (by omega), Int.toNat_of_nonneg (by omega)]
  refine grid_yes ?_ ?_ ?_
  · unfold isSizeB
    simp only [Bool.and_eq_true, decide_eq_true_eq, withinB_true]
    omega
  · show (((lookAll x).take (x.W.toNat * x.H.toNat)).length : Int) = x.W * x.H
    have : x.W.toNat * x.H.toNat ≤ (lookAll x).length := by
      unfold lookAll
      rw [List.length_append]
      omega
    rw [List.length_take, Nat.min_eq_left this, hm]
  · intro c hc
    rw [all_ok h c (List.mem_of_mem_take hc)]; rfl
/-- The first row of what is shown all the way back. -/
theorem full_row {x : DScr} {r : DRow} {l : List DRow} {k : Nat} (h : scrOkB x = true) (hb : x.Back = r :: l) (hk : (k : Int) < x.W) : (rowOf ({ W := x.W, H := x.H, Cells := (lookAll x).take (x.W.toNat * x.H.toNat) } : DGrid) 0)[k]? = some (r.Cells[k]?.getD blankC) := by
  have q := scrOkB_true h
  obtain ⟨s1, s2, s3, s4, s5, s6, s7⟩ := gridOkB_size q.2.2.2.2.1
  obtain ⟨e1, e2, _, _⟩ := scrSize_true q.2.2.2.2.2.2.1
  have hkm : k < x.W.toNat := by omega
  have hh : 1 ≤ x.H.toNat := by omega
  have hle : x.W.toNat ≤ x.W.toNat * x.H.toNat := Nat.le_mul_of_pos_right _ (by omega)
  unfold rowOf
  simp only [Int.toNat_zero, Nat.zero_mul, List.drop_zero]
  rw [List.take_take, Nat.min_eq_left hle, List.getElem?_take_of_lt hkm]
  unfold lookAll
  rw [hb, List.map_cons, List.flatten_cons, List.append_assoc, List.getElem?_append_left (by rw [fill_length]; exact hkm), fill_get hkm]
end Go.Mux
