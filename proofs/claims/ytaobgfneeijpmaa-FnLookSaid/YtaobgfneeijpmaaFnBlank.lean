/- The blank cell: the walks of what gives it. -/
import Derived.Test.YtaobgfneeijpmaaFnBase
set_option linter.unusedSimpArgs false
set_option linter.unusedVariables false
namespace Go.Mux
open Go.RowKit
def blankC : DCell := { R := 32, A := { Fg := 0, Bg := 0, Bold := false, Under := false, Turn := false } }
end Go.Mux
namespace Go.Proofs.Ytaobgfneeijpmaa
open Go.RowKit Go.Mux
set_option maxHeartbeats 400000 in
theorem impl.blank' (w : World) : Calls Try.prog 86 #[] w (Gives w fun r _ => r = .agg #[.int .i64 32, .int .i64 0, .int .i64 0, .bool false, .bool false, .bool false]) := by
  go_enter Try.func86, Try.ntmps86
  go_wp2
  exact bodyPost_ret (v := .agg #[.int .i64 32, .int .i64 0, .int .i64 0, .bool false, .bool false, .bool false]) (by simp [results, Try.results86, go_sem]) rfl ⟨_, rfl, rfl, bel_alloc (Below.refl _ _) _⟩
set_option maxHeartbeats 400000 in
theorem spec.l07Blank' (w : World) : Calls Try.prog 71 #[] w (Gives w fun r _ => r = .agg #[.int .i64 32, .int .i64 0, .int .i64 0, .bool false, .bool false, .bool false]) := by
  go_enter Try.func71, Try.ntmps71
  go_wp2
  exact bodyPost_ret (v := .agg #[.int .i64 32, .int .i64 0, .int .i64 0, .bool false, .bool false, .bool false]) (by simp [results, Try.results71, go_sem]) rfl ⟨_, rfl, rfl, bel_alloc (Below.refl _ _) _⟩
end Go.Proofs.Ytaobgfneeijpmaa
