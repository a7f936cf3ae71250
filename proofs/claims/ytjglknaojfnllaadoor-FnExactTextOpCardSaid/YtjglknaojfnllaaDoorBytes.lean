/- The walks of the laws' functions on byte slices: their size, a copy, equality of two that read alike. -/
import Derived.Test.YtjglknaojfnllaaDoorProg
import Derived.Test.YtjglknaojfnllaaDoorData
import Derived.Deep.QuietTactic
import Derived.BigQuiet
set_option linter.unusedSimpArgs false
set_option linter.unusedVariables false
namespace Go.Proofs.YtjglknaojfnllaaDoor
open Go.RowKit Go.Mux

theorem bytes_open {w : World} {v : Value} {l : List UInt8} (h : RepS w v l) :
    ∃ a cap, v = .slice a l.length cap ∧ l.length ≤ 9223372036854775807 ∧
      (l ≠ [] → ∃ b off, a = some ⟨b, off, none⟩ ∧ ∀ (i : Nat) x, l[i]? = some x → w.cell? ⟨b, off + i, none⟩ = some (.int .u8 x.toNat)) := by
  obtain ⟨a, cap, hv, hl, h⟩ := h
  refine ⟨a, cap, hv, hl.1, fun hne => ?_⟩
  obtain ⟨b, off, ha, hr⟩ := h hne
  refine ⟨b, off, ha, fun i x hx => ?_⟩
  obtain ⟨r, hrep, hc⟩ := hr i x hx
  have e : r = [.int .u8 x.toNat] := hrep
  have := hc 0 (.int .u8 x.toNat) (by rw [e]; rfl)
  simpa [Rep.size] using this

/-- what the size function gives: what is left, or -1. -/
def Left (left : Int) (n : Nat) (r : Int) : Prop := (r = -1 ∧ left < n) ∨ (r = left - n ∧ 0 ≤ r)
def GivesLeft (w : World) (left : Int) (n : Nat) : Ending → World → Prop := Gives w fun v _ => ∃ r, v = .int .i64 r ∧ Left left n r


set_option maxHeartbeats 400000 in
theorem eqByteS_refl (w : World) (v v' : Value) (l : List UInt8) (h : RepS w v l) (h' : RepS w v' l) :
    Calls Tryd.prog 23 #[v, v'] w (Gives w fun r _ => r = .bool true) := by
  obtain ⟨a, cap, rfl, hl, hc⟩ := bytes_open h
  obtain ⟨a', cap', rfl, -, hc'⟩ := bytes_open h'
  clear h h'
  have HC := Lib.hid hc
  have HC' := Lib.hid hc'
  clear hc hc'
  go_enter Tryd.func23, Tryd.ntmps23
  go_wp2
  go_loopw [5] (fun i wr => ∃ k : Nat, k ≤ l.length ∧ i = .int .i64 k ∧ Below w.heap.size w wr) (fun i _ => l.length - (intOf i).toNat)
  case atStart => exact ⟨0, Nat.zero_le _, rfl, Below.refl _ _⟩
  case round =>
    obtain ⟨k, hk, rfl, hb⟩ := hrel
    by_cases hlt : k < l.length
    · have hne : l ≠ [] := by intro e; rw [e] at hlt; simp at hlt
      obtain ⟨b, off, rfl, hc⟩ := HC.out hne
      obtain ⟨b', off', rfl, hc'⟩ := HC'.out hne
      have hx : l[k]? = some l[k] := by simp [hlt]
      have c1 := hc k l[k] hx
      have c2 := hc' k l[k] hx
      rw [← hb.cell (p := ⟨b, off + k, none⟩) (World.block_lt_of_cell? w _ c1)] at c1
      rw [← hb.cell (p := ⟨b', off' + k, none⟩) (World.block_lt_of_cell? w _ c2)] at c2
      clear hc hc' hx hne
      go_wp2
      go_quiet (fail)
      go_wp2
      go_roundw
      case rel => exact ⟨k + 1, by omega, by go_num, below_drewN hb _⟩
      case measure => simp [intOf]; omega
    · go_wp2
      go_ret
      exact ⟨_, rfl, rfl, hb⟩

theorem info_u8 : (Tryd.prog.info? 5).map (fun i => (i.zero, i.size, i.bytes)) = some (some (.int .u8 0), 1, 1) := by kernel_rfl
theorem size_u8 : (Tryd.prog.info? 5).map (·.size) = some 1 := by kernel_rfl

end Go.Proofs.YtjglknaojfnllaaDoor
