/- Small functions that only compute: their walks. -/
import Derived.Test.YtaobgfneeijpmaaSz
set_option linter.unusedSimpArgs false
set_option linter.unusedVariables false
namespace Go.Mux
open Go.RowKit
/-- The call returns v and leaves the world as it is. -/
def Pure (w : World) (v : Value) (e : Ending) (w' : World) : Prop := e = .returned v ∧ w = w'
@[irreducible] def withinB (n lo hi : Int) : Bool := decide (lo ≤ n) && decide (n ≤ hi)
theorem withinB_true {n lo hi : Int} : withinB n lo hi = true ↔ lo ≤ n ∧ n ≤ hi := by unfold withinB; simp
theorem withinB_false {n lo hi : Int} : withinB n lo hi = false ↔ n < lo ∨ hi < n := by unfold withinB; simp; omega
theorem Gives.of_pure {w : World} {v : Value} {P : Value → World → Prop} (hP : P v w) : ∀ e w', Pure w v e w' → Gives w P e w' := by
  rintro e w' ⟨rfl, rfl⟩
  exact ⟨_, rfl, hP, Below.refl _ _⟩
/-- A bool, nothing that was there has turned. -/
def Says (w : World) (b : Bool) : Ending → World → Prop := Gives w fun r _ => r = .bool b
theorem pure_ret {w : World} {a b : Bool} (h : a = b) : Pure w (.bool b) (.returned (.bool a)) w := ⟨by rw [h], rfl⟩
theorem says_ret {w w' : World} {a b : Bool} (h : a = b) (hb : Below w.heap.size w w') : Says w b (.returned (.bool a)) w' := ⟨_, rfl, by rw [h], hb⟩
@[irreducible] def showsB (r : Int) : Bool := withinB r 32 126 || withinB r 160 65535 && !withinB r 55296 57343
@[irreducible] def attrOkB (a : DAttr) : Bool := withinB a.Fg 0 8 && withinB a.Bg 0 8
@[irreducible] def isIdB (n : Int) : Bool := withinB n 1 1000000
end Go.Mux
namespace Go.Proofs.Ytaobgfneeijpmaa
open Go.RowKit Go.Mux
theorem impl_within (w : World) (n lo hi : Int) : Calls Try.prog 60 #[.int .i64 n, .int .i64 lo, .int .i64 hi] w (Pure w (.bool (withinB n lo hi))) := by
  by_cases h1 : lo ≤ n <;> by_cases h2 : n ≤ hi
  all_goals
    go_enter Try.func60, Try.ntmps60
    go_wp2
    go_ret
    exact ⟨by simp [withinB, *], rfl⟩
set_option maxHeartbeats 400000 in
theorem spec_Shows (w : World) (r : Int) : Calls Try.prog 78 #[.int .i64 r] w (Pure w (.bool (showsB r))) := by
  go_enter Try.func78, Try.ntmps78
  go_wp2
  all_goals go_ret
  all_goals exact pure_ret (by rw [Bool.eq_iff_iff]; simp [showsB, withinB, *] <;> omega)
set_option maxHeartbeats 400000 in
theorem impl_Shows (w : World) (r : Int) : Calls Try.prog 97 #[.int .i64 r] w (Pure w (.bool (showsB r))) := by
  cases h1 : withinB r 32 126 <;> cases h2 : withinB r 160 65535 <;> cases h3 : withinB r 55296 57343
  all_goals
    go_enter Try.func97, Try.ntmps97
    go_wp2_with (go_at_call 60; refine (impl_within _ _ _ _).mono ?_; rintro e w' ⟨rfl, rfl⟩)
    go_ret
    exact ⟨by unfold showsB; simp [*], rfl⟩
set_option maxHeartbeats 400000 in
theorem impl_AttrOk (w : World) (cs : List Value) (x : DAttr) (h : Rep.rep w cs x) : Calls Try.prog 58 #[.agg cs.toArray] w (Says w (attrOkB x)) := by
  obtain rfl := DAttr.shape h
  clear h
  cases h1 : withinB x.Fg 0 8 <;> cases h2 : withinB x.Bg 0 8
  all_goals
    go_enter Try.func58, Try.ntmps58
    go_wp2_with (go_at_call 60; refine (impl_within _ _ _ _).mono ?_; rintro e w' ⟨rfl, rfl⟩)
    go_ret
    exact ⟨_, rfl, by unfold attrOkB; simp [*], (by repeat (first | (with_reducible exact Below.refl _ _) | (with_reducible assumption) | (with_reducible refine bel_alloc ?_ _) | ((with_reducible refine bel_set ?_ ?_ _); rotate_left; (focus first | (simp; done) | (simp; omega)))))⟩
set_option maxHeartbeats 400000 in
theorem spec_AttrOk (w : World) (cs : List Value) (x : DAttr) (h : Rep.rep w cs x) : Calls Try.prog 65 #[.agg cs.toArray] w (Says w (attrOkB x)) := by
  obtain rfl := DAttr.shape h
  clear h
  go_enter Try.func65, Try.ntmps65
  go_wp2
  all_goals go_ret
  all_goals exact says_ret (by rw [Bool.eq_iff_iff]; simp [attrOkB, withinB, *] <;> omega) (by repeat (first | (with_reducible exact Below.refl _ _) | (with_reducible assumption) | (with_reducible refine bel_alloc ?_ _) | ((with_reducible refine bel_set ?_ ?_ _); rotate_left; (focus first | (simp; done) | (simp; omega)))))
end Go.Proofs.Ytaobgfneeijpmaa
namespace Go.Mux
open Go.RowKit
theorem quiet_of_pure {P : Program} {f : FuncId} {args : Array Value} {w : World} {n : Nat} {v : Value} (h : Calls P f args (w.drewN n) (Pure (w.drewN n) v)) : Calls P f args (w.drewN n) fun e w'' => e = .returned v ∧ ∃ m, w'' = w.drewN m :=
  h.mono fun _ _ ⟨he, hm⟩ => ⟨he, n, hm.symm⟩
end Go.Mux
