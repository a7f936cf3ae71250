/- Small functions that only compute: their walks. -/
import Derived.Test.YtjglknaojfnllaaDoorSz
set_option linter.unusedSimpArgs false
set_option linter.unusedVariables false
namespace Go.Mux
open Go.RowKit
/-- The call returns v and leaves the world as it is. -/
def Pure (w : World) (v : Value) (e : Ending) (w' : World) : Prop := e = .returned v ∧ w = w'
@[irreducible] def withinB (n lo hi : Int) : Bool := decide (lo ≤ n) && decide (n ≤ hi)
theorem withinB_true {n lo hi : Int} : withinB n lo hi = true ↔ lo ≤ n ∧ n ≤ hi := by unfold withinB; simp
theorem withinB_false {n lo hi : Int} : withinB n lo hi = false ↔ n < lo ∨ hi < n := by unfold withinB; simp; omega
theorem Gives.of_pure {w : World} {v : Value} {P : Value → World → Prop} (hP : P v w) : ∀ e w', Pure w v e w' → Gives w P e w' := by
  rintro e w' ⟨rfl, rfl⟩
  exact ⟨_, rfl, hP, Below.refl _ _⟩
/-- A bool, nothing that was there has turned. -/
def Says (w : World) (b : Bool) : Ending → World → Prop := Gives w fun r _ => r = .bool b
theorem pure_ret {w : World} {a b : Bool} (h : a = b) : Pure w (.bool b) (.returned (.bool a)) w := ⟨by rw [h], rfl⟩
theorem says_ret {w w' : World} {a b : Bool} (h : a = b) (hb : Below w.heap.size w w') : Says w b (.returned (.bool a)) w' := ⟨_, rfl, by rw [h], hb⟩
@[irreducible] def showsB (r : Int) : Bool := withinB r 32 126 || withinB r 160 65535 && !withinB r 55296 57343
@[irreducible] def isIdB (n : Int) : Bool := withinB n 1 1000000
end Go.Mux
namespace Go.Proofs.YtjglknaojfnllaaDoor
open Go.RowKit Go.Mux
theorem impl_within (w : World) (n lo hi : Int) : Calls Tryd.prog 76 #[.int .i64 n, .int .i64 lo, .int .i64 hi] w (Pure w (.bool (withinB n lo hi))) := by
  by_cases h1 : lo ≤ n <;> by_cases h2 : n ≤ hi
  all_goals
    go_enter Tryd.func76, Tryd.ntmps76
    go_wp2
    go_ret
    exact ⟨by simp [withinB, *], rfl⟩
theorem impl_isId (w : World) (n : Int) : Calls Tryd.prog 75 #[.int .i64 n] w (Pure w (.bool (isIdB n))) := by
  go_enter Tryd.func75, Tryd.ntmps75
  go_wp2_with (go_at_call 76; refine (impl_within _ _ _ _).mono ?_; rintro e w' ⟨rfl, rfl⟩)
  go_ret
  exact ⟨by unfold isIdB; rfl, rfl⟩
end Go.Proofs.YtjglknaojfnllaaDoor
namespace Go.Mux
open Go.RowKit
theorem quiet_of_pure {P : Program} {f : FuncId} {args : Array Value} {w : World} {n : Nat} {v : Value} (h : Calls P f args (w.drewN n) (Pure (w.drewN n) v)) : Calls P f args (w.drewN n) fun e w'' => e = .returned v ∧ ∃ m, w'' = w.drewN m :=
  h.mono fun _ _ ⟨he, hm⟩ => ⟨he, n, hm.symm⟩
end Go.Mux
