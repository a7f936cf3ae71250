/- The walks of the laws' functions on byte slices: their size, a copy, equality of two that read alike. -/
import Derived.Test.YtlkadeaomjoiiaaDoorProg
import Derived.Test.YtlkadeaomjoiiaaDoorData
import Derived.Deep.QuietTactic
import Derived.BigQuiet
set_option linter.unusedSimpArgs false
set_option linter.unusedVariables false
namespace Go.Proofs.YtlkadeaomjoiiaaDoor
open Go.RowKit Go.Mux

theorem bytes_open {w : World} {v : Value} {l : List UInt8} (h : RepS w v l) :
    ∃ a cap, v = .slice a l.length cap ∧ l.length ≤ 9223372036854775807 ∧
      (l ≠ [] → ∃ b off, a = some ⟨b, off, none⟩ ∧ ∀ (i : Nat) x, l[i]? = some x → w.cell? ⟨b, off + i, none⟩ = some (.int .u8 x.toNat)) := by
  obtain ⟨a, cap, hv, hl, h⟩ := h
  refine ⟨a, cap, hv, hl.1, fun hne => ?_⟩
  obtain ⟨b, off, ha, hr⟩ := h hne
  refine ⟨b, off, ha, fun i x hx => ?_⟩
  obtain ⟨r, hrep, hc⟩ := hr i x hx
  have e : r = [.int .u8 x.toNat] := hrep
  have := hc 0 (.int .u8 x.toNat) (by rw [e]; rfl)
  simpa [Rep.size] using this

/-- what the size function gives: what is left, or -1. -/
def Left (left : Int) (n : Nat) (r : Int) : Prop := (r = -1 ∧ left < n) ∨ (r = left - n ∧ 0 ≤ r)
def GivesLeft (w : World) (left : Int) (n : Nat) : Ending → World → Prop := Gives w fun v _ => ∃ r, v = .int .i64 r ∧ Left left n r

set_option maxHeartbeats 400000 in
theorem szByteS_any (w : World) (v : Value) (l : List UInt8) (left : Int) (h : RepS w v l) (h0 : 0 ≤ left) (h1 : left ≤ 1048576) :
    Calls Tryd.prog 41 #[v, .int .i64 left] w (GivesLeft w left l.length) := by
  obtain ⟨a, cap, rfl, hl, -⟩ := bytes_open h
  clear h
  go_enter Tryd.func41, Tryd.ntmps41
  go_wp2
  all_goals go_ret
  · exact ⟨_, rfl, ⟨_, rfl, .inl ⟨rfl, by omega⟩⟩, Below.refl _ _⟩
  · exact ⟨_, rfl, ⟨_, rfl, .inr ⟨rfl, by omega⟩⟩, Below.refl _ _⟩

set_option maxHeartbeats 400000 in
theorem eqByteS_refl (w : World) (v v' : Value) (l : List UInt8) (h : RepS w v l) (h' : RepS w v' l) :
    Calls Tryd.prog 11 #[v, v'] w (Gives w fun r _ => r = .bool true) := by
  obtain ⟨a, cap, rfl, hl, hc⟩ := bytes_open h
  obtain ⟨a', cap', rfl, -, hc'⟩ := bytes_open h'
  clear h h'
  have HC := Lib.hid hc
  have HC' := Lib.hid hc'
  clear hc hc'
  go_enter Tryd.func11, Tryd.ntmps11
  go_wp2
  go_loopw [5] (fun i wr => ∃ k : Nat, k ≤ l.length ∧ i = .int .i64 k ∧ Below w.heap.size w wr) (fun i _ => l.length - (intOf i).toNat)
  case atStart => exact ⟨0, Nat.zero_le _, rfl, Below.refl _ _⟩
  case round =>
    obtain ⟨k, hk, rfl, hb⟩ := hrel
    by_cases hlt : k < l.length
    · have hne : l ≠ [] := by intro e; rw [e] at hlt; simp at hlt
      obtain ⟨b, off, rfl, hc⟩ := HC.out hne
      obtain ⟨b', off', rfl, hc'⟩ := HC'.out hne
      have hx : l[k]? = some l[k] := by simp [hlt]
      have c1 := hc k l[k] hx
      have c2 := hc' k l[k] hx
      rw [← hb.cell (p := ⟨b, off + k, none⟩) (World.block_lt_of_cell? w _ c1)] at c1
      rw [← hb.cell (p := ⟨b', off' + k, none⟩) (World.block_lt_of_cell? w _ c2)] at c2
      clear hc hc' hx hne
      go_wp2
      go_quiet (fail)
      go_wp2
      go_roundw
      case rel => exact ⟨k + 1, by omega, by go_num, below_drewN hb _⟩
      case measure => simp [intOf]; omega
    · go_wp2
      go_ret
      exact ⟨_, rfl, rfl, hb⟩

theorem info_u8 : (Tryd.prog.info? 5).map (fun i => (i.zero, i.size, i.bytes)) = some (some (.int .u8 0), 1, 1) := by kernel_rfl
theorem size_u8 : (Tryd.prog.info? 5).map (·.size) = some 1 := by kernel_rfl

set_option maxHeartbeats 400000 in
theorem toByteS_any (w : World) (v : Value) (l : List UInt8) (h : RepS w v l) (hsz : l.length ≤ 1048576) :
    Calls Tryd.prog 49 #[v] w (Gives w fun r w' => FreshS w.heap.size w' r l) := by
  obtain ⟨a, cap, rfl, hl, hc⟩ := bytes_open h
  clear h
  have HC := Lib.hid hc
  clear hc
  go_enter Tryd.func49, Tryd.ntmps49
  go_wp2_with (at_make; refine wpList_make_row rfl _ _ _ rfl l.length rfl rfl 5 _ _ _ Tryd.underlying28 info_u8 (by omega) (by omega) ?_)
  have hF := Filling.start (α := UInt8) w.heap.size w l.length (Value.int .u8 0).cells (Nat.le_refl _) hl
  go_loopw [4] (fun i wr => ∃ k fp, k ≤ l.length ∧ i = .int .i64 (k : Nat) ∧ Filling w.heap.size wr w.heap.size l.length (l.take k) fp ∧ Below w.heap.size w wr) (fun i _ => l.length - (intOf i).toNat)
  case atStart => exact ⟨0, [], Nat.zero_le _, rfl, by simpa [Rep.size, Rep.tid, Value.cells] using hF, (Below.refl _ _).alloc (Nat.le_refl _) _⟩
  case round =>
    clear hF
    obtain ⟨k, fp, hk, rfl, hF, hb⟩ := hrel
    by_cases hlt : k < l.length
    · have hne : l ≠ [] := by intro e; rw [e] at hlt; simp at hlt
      obtain ⟨b, off, rfl, hc⟩ := HC.out hne
      have hx : l[k]? = some l[k] := by simp [hlt]
      have c1 := hc k l[k] hx
      rw [← hb.cell (p := ⟨b, off + k, none⟩) (World.block_lt_of_cell? w _ c1)] at c1
      have hlk : (l.take k).length = k := by simp; omega
      have hts : l.take k ++ [l[k]] = l.take (k + 1) := by rw [List.take_succ_eq_append_getElem hlt]
      obtain ⟨cur, hg, hfit, hS⟩ := hF.step (Below.refl _ _) (by omega) (x := l[k]) (r := [.int .u8 l[k].toNat]) (f := []) ⟨rfl, rfl⟩ (by simp) (by simp) k (by rw [hlk]; simp [Rep.size]) _ hts 5 rfl
      have HS := Lib.hid hS
      have H1 := Lib.hid (Rep.one (α := UInt8) (w := w) (cs := [.int .u8 l[k].toNat]) (x := l[k]) rfl)
      clear hc hx hne hts hlk hF hS
      go_wp2_with (refine wpList_store_at rfl 5 _ _ rfl _ _ rfl _ rfl [_] rfl cur _ hg hfit H1.out size_u8 ?_; go_loud (intro W1 hW1; have HF := Lib.hid (HS.out W1 hW1); have hb1 := below_row hb (Nat.le_refl _) hW1; clear hW1 HS H1))
      go_roundw
      case rel => exact ⟨k + 1, _, by omega, by go_num, HF.out, hb1⟩
      case measure => simp [intOf]; omega
    · obtain rfl : k = l.length := by omega
      rw [List.take_length] at hF
      go_wp2
      go_ret
      exact ⟨_, rfl, hF.finish rfl (by unfold maxLen; omega), hb⟩
end Go.Proofs.YtlkadeaomjoiiaaDoor
