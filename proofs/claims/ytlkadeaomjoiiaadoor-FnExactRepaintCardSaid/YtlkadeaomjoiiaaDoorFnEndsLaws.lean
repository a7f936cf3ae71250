/- The contracts of Ends as the law asks for them. -/
import Derived.Test.YtlkadeaomjoiiaaDoorFnEnds
set_option linter.unusedSimpArgs false
set_option linter.unusedVariables false
namespace Go.Mux
open Go.RowKit
theorem ends_wt (x : DView) : (ends x).length ≤ 64 := by
  unfold ends
  split
  · have h := viewEnds_size x
    have e : (viewEnds x).data.toList.length = (viewEnds x).size := Array.length_toList
    omega
  · simp
end Go.Mux
namespace Go.Proofs.YtlkadeaomjoiiaaDoor
open Go.RowKit Go.Mux
end Go.Proofs.YtlkadeaomjoiiaaDoor
