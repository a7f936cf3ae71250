/- What Keep answers. -/
import Derived.Test.YtnidoeapoknhdaaEndLaw
import Derived.Test.YtnidoeapoknhdaaWt
import Derived.Test.YtnidoeapoknhdaaSz
set_option linter.unusedSimpArgs false
set_option linter.unusedVariables false
namespace Go.Mux
open Go.RowKit
/-- How many of the first steps are kept when so many operations may stay. -/
def keepLen : List DHist → Nat → Nat
  | [], _ => 0
  | x :: l, n => if x.Lost then keepLen l n + 1 else match n with
    | 0 => 0
    | m + 1 => keepLen l m + 1
@[irreducible] def keep (l : List DHist) (n : Int) : List DHist := if n < 0 then [] else l.take (keepLen l n.toNat)
theorem drop_cons {l : List DHist} {k : Nat} {x : DHist} (hx : l[k]? = some x) : l.drop k = x :: l.drop (k + 1) := by
  obtain ⟨hk, rfl⟩ := List.getElem?_eq_some_iff.1 hx
  exact List.drop_eq_getElem_cons hk
theorem keep_lost {l : List DHist} {k : Nat} {x : DHist} (hx : l[k]? = some x) (h : x.Lost = true) (n : Nat) : keepLen (l.drop k) n = keepLen (l.drop (k + 1)) n + 1 := by
  rw [drop_cons hx]; simp [keepLen, h]
theorem keep_op {l : List DHist} {k : Nat} {x : DHist} (hx : l[k]? = some x) (h : x.Lost = false) (n : Nat) : keepLen (l.drop k) (n + 1) = keepLen (l.drop (k + 1)) n + 1 := by
  rw [drop_cons hx]; simp [keepLen, h]
theorem keep_stop {l : List DHist} {k : Nat} {x : DHist} (hx : l[k]? = some x) (h : x.Lost = false) : keepLen (l.drop k) 0 = 0 := by
  rw [drop_cons hx]; simp [keepLen, h]
theorem keep_end (l : List DHist) (n : Nat) : keepLen (l.drop l.length) n = 0 := by
  rw [List.drop_length]; rfl
theorem hist_lens {l : List DHist} (h : l.length + (l.map DHist.bulk).sum ≤ 1048576) : l.length ≤ 1048576 ∧ ∀ x ∈ l, x.Op.Data.length ≤ 1048576 := by
  refine ⟨by omega, fun x hx => ?_⟩
  have h2 : x.bulk ≤ (l.map DHist.bulk).sum := by
    clear h
    induction l with
    | nil => simp at hx
    | cons y l ih =>
      rcases List.mem_cons.1 hx with rfl | hx
      · simp
      · have := ih hx; simp; omega
  have h3 : x.Op.Data.length ≤ x.bulk := by unfold DHist.bulk DOp.bulk; omega
  omega
theorem keep_bulk (l : List DHist) (n : Int) : (keep l n).length + ((keep l n).map DHist.bulk).sum ≤ l.length + (l.map DHist.bulk).sum := by
  unfold keep
  split
  · simp
  · have h1 := Go.Proofs.Ytnidoeapoknhdaa.sum_take_le DHist.bulk l (keepLen l n.toNat)
    have h2 : (l.take (keepLen l n.toNat)).length ≤ l.length := by simp; omega
    omega
end Go.Mux
