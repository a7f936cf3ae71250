/- The walks of the laws' functions on byte slices: their size, a copy, equality of two that read alike. -/
import Derived.Test.YtaobgfneeijpmaaProg
import Derived.Test.YtaobgfneeijpmaaData
import Derived.Deep.QuietTactic
import Derived.BigQuiet
set_option linter.unusedSimpArgs false
set_option linter.unusedVariables false
namespace Go.Proofs.Ytaobgfneeijpmaa
open Go.RowKit Go.Mux

theorem bytes_open {w : World} {v : Value} {l : List UInt8} (h : RepS w v l) :
    ∃ a cap, v = .slice a l.length cap ∧ l.length ≤ 9223372036854775807 ∧
      (l ≠ [] → ∃ b off, a = some ⟨b, off, none⟩ ∧ ∀ (i : Nat) x, l[i]? = some x → w.cell? ⟨b, off + i, none⟩ = some (.int .u8 x.toNat)) := by
  obtain ⟨a, cap, hv, hl, h⟩ := h
  refine ⟨a, cap, hv, hl.1, fun hne => ?_⟩
  obtain ⟨b, off, ha, hr⟩ := h hne
  refine ⟨b, off, ha, fun i x hx => ?_⟩
  obtain ⟨r, hrep, hc⟩ := hr i x hx
  have e : r = [.int .u8 x.toNat] := hrep
  have := hc 0 (.int .u8 x.toNat) (by rw [e]; rfl)
  simpa [Rep.size] using this

/-- what the size function gives: what is left, or -1. -/
def Left (left : Int) (n : Nat) (r : Int) : Prop := (r = -1 ∧ left < n) ∨ (r = left - n ∧ 0 ≤ r)
def GivesLeft (w : World) (left : Int) (n : Nat) : Ending → World → Prop := Gives w fun v _ => ∃ r, v = .int .i64 r ∧ Left left n r



theorem info_u8 : (Try.prog.info? 5).map (fun i => (i.zero, i.size, i.bytes)) = some (some (.int .u8 0), 1, 1) := by kernel_rfl
theorem size_u8 : (Try.prog.info? 5).map (·.size) = some 1 := by kernel_rfl

end Go.Proofs.Ytaobgfneeijpmaa
