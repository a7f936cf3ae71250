/- Lines and their words, in plain Lean: words between blanks, what stands behind the first blanks. -/
import Derived.Test.YtjglknaojfnllaaDoorTxtN
import Derived.Test.YtjglknaojfnllaaDoorFnParts
import Derived.Lib.SplitLaws
namespace Go.Mux
open Go.RowKit
/-! ### Words -/
/-- What stands behind the first n blanks. -/
def restL : Nat → List UInt8 → List UInt8
  | _, [] => []
  | n, b :: l => if b = 32 then (if n = 1 then l else restL (n - 1) l) else restL n l
@[irreducible] def restOf (s : ByteArray) (n : Nat) : ByteArray := ⟨(restL n s.data.toList).toArray⟩
/-- A word of a line, empty where there is none. -/
@[irreducible] def wordAt (l : List ByteArray) (i : Nat) : ByteArray := l[i]?.getD ByteArray.empty
theorem partsL_plain (l : List UInt8) : ∀ cur, (32 : UInt8) ∉ l → partsL cur l = [cur ++ l] := by
  induction l with
  | nil => intro cur _; simp [partsL]
  | cons b l ih =>
    intro cur h
    simp only [List.mem_cons, not_or] at h
    unfold partsL
    rw [if_neg (Ne.symm h.1), ih _ h.2]
    simp
theorem partsL_cut (a b : List UInt8) : ∀ cur, (32 : UInt8) ∉ a → partsL cur (a ++ 32 :: b) = (cur ++ a) :: partsL [] b := by
  induction a with
  | nil => intro cur _; simp [partsL]
  | cons c a ih =>
    intro cur h
    simp only [List.mem_cons, not_or] at h
    rw [List.cons_append, partsL, if_neg (Ne.symm h.1), ih _ h.2]
    simp
theorem restL_plain (l : List UInt8) : ∀ n, (32 : UInt8) ∉ l → restL n l = [] := by
  induction l with
  | nil => intro n _; rfl
  | cons b l ih =>
    intro n h
    simp only [List.mem_cons, not_or] at h
    rw [restL, if_neg (Ne.symm h.1), ih _ h.2]
theorem restL_cut (a b : List UInt8) : (32 : UInt8) ∉ a → restL 1 (a ++ 32 :: b) = b := by
  induction a with
  | nil => intro _; simp [restL]
  | cons c a ih =>
    intro h
    simp only [List.mem_cons, not_or] at h
    rw [List.cons_append, restL, if_neg (Ne.symm h.1), ih h.2]
/-- A line's first blank. -/
theorem line_cases (l : List UInt8) : (32 : UInt8) ∉ l ∨ ∃ a b, l = a ++ 32 :: b ∧ (32 : UInt8) ∉ a := by
  induction l with
  | nil => exact .inl (by simp)
  | cons c l ih =>
    by_cases hc : c = 32
    · exact .inr ⟨[], l, by simp [hc], by simp⟩
    · rcases ih with h | ⟨a, b, h1, h2⟩
      · exact .inl (by simp only [List.mem_cons, not_or]; exact ⟨Ne.symm hc, h⟩)
      · exact .inr ⟨c :: a, b, by simp [h1], by simp only [List.mem_cons, not_or]; exact ⟨Ne.symm hc, h2⟩⟩
theorem mk_list (l : List UInt8) : (ByteArray.mk l.toArray).data.toList = l := rfl
/-- The words behind the first. -/
theorem words_rest (s : ByteArray) : (∃ w, partsOf s = w :: partsOf (restOf s 1)) ∨ (partsOf s = [s] ∧ restOf s 1 = ByteArray.empty) := by
  rcases line_cases s.data.toList with h | ⟨a, b, h1, h2⟩
  · refine .inr ⟨?_, ?_⟩
    · unfold partsOf
      rw [partsL_plain _ _ h]
      rfl
    · unfold restOf
      rw [restL_plain _ _ h]
      rfl
  · refine .inl ⟨⟨a.toArray⟩, ?_⟩
    unfold partsOf restOf
    rw [h1, partsL_cut _ _ _ h2, mk_list, restL_cut _ _ h2]
    rfl
theorem parts_empty : partsOf ByteArray.empty = [ByteArray.empty] := rfl
theorem wordAt_rest (s : ByteArray) (i : Nat) : wordAt (partsOf s) (i + 1) = (partsOf (restOf s 1))[i]?.getD ByteArray.empty := by
  unfold wordAt
  rcases words_rest s with ⟨w, h⟩ | ⟨h1, h2⟩
  · rw [h]; rfl
  · rw [h1, h2, parts_empty]
    cases i <;> rfl
theorem drop_rest (s : ByteArray) : (partsOf s).drop 2 = (partsOf (restOf s 1)).drop 1 := by
  rcases words_rest s with ⟨w, h⟩ | ⟨h1, h2⟩
  · rw [h]; rfl
  · rw [h1, h2, parts_empty]; rfl
def numAt (l : List ByteArray) (i : Nat) : Int := (textNum (wordAt l i)).1
theorem empty_toList : ByteArray.empty.toList = [] := by
  rw [ByteArray.toList_eq]; rfl
end Go.Mux
