/- The walks of the functions that test cells and grids, the program's and the reference's. -/
import Derived.Test.YtjglknaojfnllaaDoorFnBase
set_option linter.unusedSimpArgs false
set_option linter.unusedVariables false
namespace Go.Mux
open Go.RowKit
/-- Where the first element is that passes, or -1. -/
def idxOf {α : Type} (p : α → Bool) (l : List α) : Int := match l.findIdx? p with | some i => (i : Int) | none => -1
theorem int_eq {a b : Int} (h : a = b) : Value.int .i64 a = .int .i64 b := by rw [h]
theorem idxOf_found {α : Type} {p : α → Bool} {l : List α} {k : Nat} {x : α} (hn : ∀ y ∈ l.take k, p y = false) (hx : l[k]? = some x) (hp : p x = true) : idxOf p l = (k : Int) := by
  have hk : k < l.length := by rw [List.getElem?_eq_some_iff] at hx; exact hx.1
  have hx' : l[k] = x := by rw [List.getElem?_eq_getElem hk] at hx; exact Option.some.inj hx
  have : l.findIdx? p = some k := by
    rw [List.findIdx?_eq_some_iff_getElem]
    refine ⟨hk, by rw [hx']; exact hp, fun j hj => ?_⟩
    have := hn l[j] (List.mem_take_iff_getElem.2 ⟨j, by omega, rfl⟩)
    simp [this]
  unfold idxOf; rw [this]
theorem idxOf_none {α : Type} {p : α → Bool} {l : List α} (hn : ∀ y ∈ l, p y = false) : idxOf p l = -1 := by
  have : l.findIdx? p = none := by rw [List.findIdx?_eq_none_iff]; exact fun x hx => by simp [hn x hx]
  unfold idxOf; rw [this]
theorem not_yet {α : Type} {p : α → Bool} {l : List α} {k : Nat} {x : α} (hn : ∀ y ∈ l.take k, p y = false) (hx : l[k]? = some x) (hp : p x = false) : Hid (∀ y ∈ l.take (k + 1), p y = false) := by
  show ∀ y ∈ _, _
  rw [List.take_add_one, hx]
  intro y hy
  rcases List.mem_append.1 hy with h | h
  · exact hn y h
  · simp at h; rw [h]; exact hp
theorem idxOf_ge {α : Type} (p : α → Bool) (l : List α) : (0 ≤ idxOf p l) ↔ l.any p = true := by
  unfold idxOf
  cases h : l.findIdx? p with
  | none =>
    rw [List.findIdx?_eq_none_iff] at h
    simp only [show ¬ (0 : Int) ≤ -1 from by omega, false_iff, List.any_eq_true, not_exists]
    intro x hx
    simp [h x hx.1] at hx
  | some i =>
    rw [List.findIdx?_eq_some_iff_getElem] at h
    obtain ⟨hi, hp, _⟩ := h
    simp only [List.any_eq_true]
    exact ⟨fun _ => ⟨_, List.getElem_mem hi, hp⟩, fun _ => by omega⟩
theorem idxOf_bounds {α : Type} (p : α → Bool) (l : List α) : -1 ≤ idxOf p l ∧ idxOf p l < l.length := by
  unfold idxOf
  cases h : l.findIdx? p with
  | none => simp; omega
  | some i =>
    rw [List.findIdx?_eq_some_iff_getElem] at h
    obtain ⟨hi, _⟩ := h
    simp; omega
@[irreducible] def isSizeB (w h : Int) : Bool := withinB w 1 120 && withinB h 1 120 && decide (w * h ≤ 4000)
theorem isSizeB_true {a b : Int} (h : isSizeB a b = true) : 1 ≤ a ∧ a ≤ 120 ∧ 1 ≤ b ∧ b ≤ 120 ∧ 1 ≤ a * b ∧ a * b ≤ 4000 := by
  unfold isSizeB at h
  simp only [Bool.and_eq_true, decide_eq_true_eq, withinB_true] at h
  obtain ⟨⟨b1, b2⟩, h3⟩ := h
  have m1 : 1 ≤ a * b := by have := Int.mul_le_mul b1.1 b2.1 (by omega) (by omega); simpa using this
  exact ⟨b1.1, b1.2, b2.1, b2.2, m1, h3⟩
theorem isSizeB_false {a b : Int} (h : isSizeB a b = false) : a < 1 ∨ (1 ≤ a ∧ 120 < a) ∨ (1 ≤ a ∧ a ≤ 120 ∧ b < 1) ∨ (1 ≤ a ∧ a ≤ 120 ∧ 1 ≤ b ∧ 120 < b) ∨ (1 ≤ a ∧ a ≤ 120 ∧ 1 ≤ b ∧ b ≤ 120 ∧ 4000 < a * b ∧ a * b ≤ 14400) := by
  unfold isSizeB at h
  simp only [Bool.and_eq_false_iff, decide_eq_false_iff_not, withinB_false] at h
  by_cases h1 : a < 1
  · exact .inl h1
  by_cases h2 : 120 < a
  · exact .inr (.inl ⟨by omega, h2⟩)
  by_cases h3 : b < 1
  · exact .inr (.inr (.inl ⟨by omega, by omega, h3⟩))
  by_cases h4 : 120 < b
  · exact .inr (.inr (.inr (.inl ⟨by omega, by omega, by omega, h4⟩)))
  have m2 : a * b ≤ 14400 := by have := Int.mul_le_mul (show a ≤ 120 by omega) (show b ≤ 120 by omega) (by omega) (by omega); simpa using this
  exact .inr (.inr (.inr (.inr ⟨by omega, by omega, by omega, by omega, by omega, m2⟩)))
end Go.Mux
namespace Go.Proofs.YtjglknaojfnllaaDoor
open Go.RowKit Go.Mux
end Go.Proofs.YtjglknaojfnllaaDoor
