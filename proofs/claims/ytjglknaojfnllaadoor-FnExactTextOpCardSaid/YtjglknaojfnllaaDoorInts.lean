/- The walks of the laws' functions on slices of numbers: their size, a copy, equality of two that read alike. -/
import Derived.Test.YtjglknaojfnllaaDoorBytes
set_option linter.unusedSimpArgs false
set_option linter.unusedVariables false
namespace Go.Proofs.YtjglknaojfnllaaDoor
open Go.RowKit Go.Mux
theorem ints_open {w : World} {v : Value} {l : List Int} (h : RepS w v l) :
    ∃ a cap, v = .slice a l.length cap ∧ l.length ≤ 9223372036854775807 ∧
      (l ≠ [] → ∃ b off, a = some ⟨b, off, none⟩ ∧ ∀ (i : Nat) x, l[i]? = some x → w.cell? ⟨b, off + i, none⟩ = some (.int .i64 x) ∧ I64 x) := by
  obtain ⟨a, cap, hv, hl, h⟩ := h
  refine ⟨a, cap, hv, hl.1, fun hne => ?_⟩
  obtain ⟨b, off, ha, hr⟩ := h hne
  refine ⟨b, off, ha, fun i x hx => ?_⟩
  obtain ⟨r, ⟨hrep, hi⟩, hc⟩ := hr i x hx
  have := hc 0 (.int .i64 x) (by rw [hrep]; rfl)
  exact ⟨by simpa [Rep.size] using this, hi⟩
set_option maxHeartbeats 400000 in
theorem eqIntS_refl (w : World) (v v' : Value) (l : List Int) (h : RepS w v l) (h' : RepS w v' l) :
    Calls Tryd.prog 24 #[v, v'] w (Gives w fun r _ => r = .bool true) := by
  obtain ⟨a, cap, rfl, hl, hc⟩ := ints_open h
  obtain ⟨a', cap', rfl, -, hc'⟩ := ints_open h'
  clear h h'
  have HC := Lib.hid hc
  have HC' := Lib.hid hc'
  clear hc hc'
  go_enter Tryd.func24, Tryd.ntmps24
  go_wp2
  go_loopw [5] (fun i wr => ∃ k : Nat, k ≤ l.length ∧ i = .int .i64 k ∧ Below w.heap.size w wr) (fun i _ => l.length - (intOf i).toNat)
  case atStart => exact ⟨0, Nat.zero_le _, rfl, Below.refl _ _⟩
  case round =>
    obtain ⟨k, hk, rfl, hb⟩ := hrel
    by_cases hlt : k < l.length
    · have hne : l ≠ [] := by intro e; rw [e] at hlt; simp at hlt
      obtain ⟨b, off, rfl, hc⟩ := HC.out hne
      obtain ⟨b', off', rfl, hc'⟩ := HC'.out hne
      have hx : l[k]? = some l[k] := by simp [hlt]
      have c1 := (hc k l[k] hx).1
      have c2 := (hc' k l[k] hx).1
      rw [← hb.cell (p := ⟨b, off + k, none⟩) (World.block_lt_of_cell? w _ c1)] at c1
      rw [← hb.cell (p := ⟨b', off' + k, none⟩) (World.block_lt_of_cell? w _ c2)] at c2
      clear hc hc' hx hne
      go_wp2
      go_quiet (fail)
      go_wp2
      go_roundw
      case rel => exact ⟨k + 1, by omega, by go_num, below_drewN hb _⟩
      case measure => simp [intOf]; omega
    · go_wp2
      go_ret
      exact ⟨_, rfl, rfl, hb⟩
theorem info_int : (Tryd.prog.info? 3).map (fun i => (i.zero, i.size, i.bytes)) = some (some (.int .i64 0), 1, 8) := by kernel_rfl
theorem size_int : (Tryd.prog.info? 3).map (·.size) = some 1 := by kernel_rfl
end Go.Proofs.YtjglknaojfnllaaDoor
