/- The walk of the program's Run. -/
import Derived.Test.YtlkadeaomjoiiaaDoorFnRun
set_option linter.unusedSimpArgs false
set_option linter.unusedVariables false
namespace Go.Mux
open Go.RowKit
@[irreducible] def runOk (x : DGrid) (y a b : Int) : Bool := gridOkB x && (withinB y 0 (x.H - 1) && (decide (0 ≤ a) && (decide (a < b) && decide (b ≤ x.W))))
@[irreducible] def runOut (x : DGrid) (y a b : Int) : List UInt8 := if runOk x y a b then runBytes x y a b else []
theorem runOut_no {x : DGrid} {y a b : Int} (h : runOk x y a b = false) : runOut x y a b = [] := by unfold runOut; simp [h]
theorem runOut_yes {x : DGrid} {y a b : Int} (h : runOk x y a b = true) : runOut x y a b = runBytes x y a b := by unfold runOut; simp [h]
theorem freshS_nil (B : Nat) (w : World) {l : List UInt8} (h : l = []) : FreshS B w (.slice none 0 0) l := by
  subst h
  exact ⟨[], ⟨[], [], ⟨by simp, .inl ⟨rfl, rfl⟩⟩, by simp, rfl, rfl, by simp, by simp [Value.ownBlock]⟩, by simp, by simp⟩
end Go.Mux
namespace Go.Proofs.YtlkadeaomjoiiaaDoor
open Go.RowKit Go.Mux
end Go.Proofs.YtlkadeaomjoiiaaDoor
