/- What Paint needs of its own: the blank cell, how two cells are compared, where a row ends. -/
import Derived.Test.YtlkadeaomjoiiaaDoorFnRunLaws
set_option linter.unusedSimpArgs false
set_option linter.unusedVariables false
namespace Go.Mux
open Go.RowKit
@[irreducible] def cellSame (a b : DCell) : Bool := decide (a.R = b.R) && attrSame a.A b.A
def blankC : DCell := { R := 32, A := { Fg := 0, Bg := 0, Bold := false, Under := false, Turn := false } }
/-- How many of the first n cells stand ahead of the blanks at their end. -/
def rowEnd (row : List DCell) : Nat → Nat
  | 0 => 0
  | n + 1 => match row[n]? with
    | some c => if cellSame c blankC then rowEnd row n else n + 1
    | none => 0
end Go.Mux
namespace Go.Proofs.YtlkadeaomjoiiaaDoor
open Go.RowKit Go.Mux
theorem eq_attr_in (d : Nat) (a b : DAttr) (w : World) : (Op.equalIn (d + 2) 64 (.agg #[.int .i64 a.Fg, .int .i64 a.Bg, .bool a.Bold, .bool a.Under, .bool a.Turn]) (.agg #[.int .i64 b.Fg, .int .i64 b.Bg, .bool b.Bold, .bool b.Under, .bool b.Turn])).run Tryd.prog w = .ok (attrSame a b) w := by
  have hS : Tryd.prog.underlying 64 = some (.struct (Tryd.prog.fieldsOf 64)) := by kernel_rfl
  have hp : Tryd.prog.stoodInHeld 64 = false := by kernel_rfl
  have u1 := Tryd.underlying3
  have u2 := Tryd.underlying4
  rw [run_equalIn_agg w (d + 1) 64 _ _ hS hp]
  simp only [Program.fieldsOf, Tryd.underlying64]
  unfold attrSame
  go_simp
  by_cases h1 : a.Fg = b.Fg <;> by_cases h2 : a.Bg = b.Bg <;> by_cases h3 : a.Bold = b.Bold <;> by_cases h4 : a.Under = b.Under <;> by_cases h5 : a.Turn = b.Turn <;> simp [h1, h2, h3, h4, h5]
set_option maxRecDepth 100000 in
set_option maxHeartbeats 1000000 in
theorem eq_cell (a b : DCell) (w : World) : (Op.equalIn 10000 66 (.agg #[.int .i64 a.R, .int .i64 a.A.Fg, .int .i64 a.A.Bg, .bool a.A.Bold, .bool a.A.Under, .bool a.A.Turn]) (.agg #[.int .i64 b.R, .int .i64 b.A.Fg, .int .i64 b.A.Bg, .bool b.A.Bold, .bool b.A.Under, .bool b.A.Turn])).run Tryd.prog w = .ok (cellSame a b) w := by
  have hS : Tryd.prog.underlying 66 = some (.struct (Tryd.prog.fieldsOf 66)) := by kernel_rfl
  have hp : Tryd.prog.stoodInHeld 66 = false := by kernel_rfl
  have u1 := Tryd.underlying3
  have hn := fun w => eq_attr_in 9997 a.A b.A w
  rw [show (10000 : Nat) = 9999 + 1 from rfl, run_equalIn_agg w 9999 66 _ _ hS hp]
  simp only [Program.fieldsOf, Tryd.underlying66]
  unfold cellSame
  clear hS hp
  go_simp
  by_cases h1 : a.R = b.R <;> cases h2 : attrSame a.A b.A <;> simp [h1, h2]
set_option maxHeartbeats 400000 in
theorem impl.blank' (w : World) : Calls Tryd.prog 36 #[] w (Gives w fun r _ => r = .agg #[.int .i64 32, .int .i64 0, .int .i64 0, .bool false, .bool false, .bool false]) := by
  go_enter Tryd.func36, Tryd.ntmps36
  go_wp2
  exact bodyPost_ret (v := .agg #[.int .i64 32, .int .i64 0, .int .i64 0, .bool false, .bool false, .bool false]) (by simp [results, Tryd.results36, go_sem]) rfl ⟨_, rfl, rfl, bel_alloc (Below.refl _ _) _⟩
set_option maxHeartbeats 400000 in
theorem spec.l07Blank' (w : World) : Calls Tryd.prog 30 #[] w (Gives w fun r _ => r = .agg #[.int .i64 32, .int .i64 0, .int .i64 0, .bool false, .bool false, .bool false]) := by
  go_enter Tryd.func30, Tryd.ntmps30
  go_wp2
  exact bodyPost_ret (v := .agg #[.int .i64 32, .int .i64 0, .int .i64 0, .bool false, .bool false, .bool false]) (by simp [results, Tryd.results30, go_sem]) rfl ⟨_, rfl, rfl, bel_alloc (Below.refl _ _) _⟩
end Go.Proofs.YtlkadeaomjoiiaaDoor
