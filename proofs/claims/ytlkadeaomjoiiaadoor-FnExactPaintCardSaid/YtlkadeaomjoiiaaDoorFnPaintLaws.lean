/- The contracts of Paint as the law asks for them. -/
import Derived.Test.YtlkadeaomjoiiaaDoorFnPaintS
import Derived.Test.YtlkadeaomjoiiaaDoorFnEndsLaws
set_option linter.unusedSimpArgs false
set_option linter.unusedVariables false
namespace Go.Mux
open Go.RowKit
theorem paint_wt (x : DView) : (paint x).length ≤ 2000000 := by
  unfold paint
  split
  · next h =>
    have h := viewEnds_size x
    have e : (viewEnds x).data.toList.length = (viewEnds x).size := Array.length_toList
    have hg : gridOkB x.Grid = true := by
      have h := ‹viewOk x = true›
      unfold viewOk at h
      simp only [Bool.and_eq_true] at h
      exact h.1
    have hp := paintRows_len hg x.Grid.H.toNat
    obtain ⟨s1, s2, s3, s4, _⟩ := gridOkB_size hg
    have hk : x.Grid.H.toNat * 16384 ≤ 120 * 16384 := Nat.mul_le_mul_right _ (by omega)
    rw [List.length_append, List.length_append]
    simp only [List.length_cons, List.length_nil]
    omega
  · simp
end Go.Mux
namespace Go.Proofs.YtlkadeaomjoiiaaDoor
open Go.RowKit Go.Mux
theorem impl_Paint (w : World) (cs : List Value) (x : DView) (h : Rep.rep w cs x) (ht : Tab Tryd.prog w) : Calls Tryd.prog 10 #[.agg cs.toArray] w (Gives w fun r w' => FreshS w.heap.size w' r (paint x)) := impl_Paint' w cs x h ht
theorem spec_Paint (w : World) (cs : List Value) (x : DView) (h : Rep.rep w cs x) : Calls Tryd.prog 8 #[.agg cs.toArray] w (Gives w fun r w' => RepS w' r (paint x)) := by
  refine (spec_Paint' w cs x h).mono ?_
  rintro e w' ⟨v, rfl, hF, hb⟩
  exact ⟨v, rfl, hF.repS, hb⟩
end Go.Proofs.YtlkadeaomjoiiaaDoor
