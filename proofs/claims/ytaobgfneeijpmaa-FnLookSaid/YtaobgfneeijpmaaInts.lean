/- The walks of the laws' functions on slices of numbers: their size, a copy, equality of two that read alike. -/
import Derived.Test.YtaobgfneeijpmaaBytes
set_option linter.unusedSimpArgs false
set_option linter.unusedVariables false
namespace Go.Proofs.Ytaobgfneeijpmaa
open Go.RowKit Go.Mux
theorem ints_open {w : World} {v : Value} {l : List Int} (h : RepS w v l) :
    ∃ a cap, v = .slice a l.length cap ∧ l.length ≤ 9223372036854775807 ∧
      (l ≠ [] → ∃ b off, a = some ⟨b, off, none⟩ ∧ ∀ (i : Nat) x, l[i]? = some x → w.cell? ⟨b, off + i, none⟩ = some (.int .i64 x) ∧ I64 x) := by
  obtain ⟨a, cap, hv, hl, h⟩ := h
  refine ⟨a, cap, hv, hl.1, fun hne => ?_⟩
  obtain ⟨b, off, ha, hr⟩ := h hne
  refine ⟨b, off, ha, fun i x hx => ?_⟩
  obtain ⟨r, ⟨hrep, hi⟩, hc⟩ := hr i x hx
  have := hc 0 (.int .i64 x) (by rw [hrep]; rfl)
  exact ⟨by simpa [Rep.size] using this, hi⟩
set_option maxHeartbeats 400000 in
theorem szIntS_any (w : World) (v : Value) (l : List Int) (left : Int) (h : RepS w v l) (h0 : 0 ≤ left) (h1 : left ≤ 1048576) :
    Calls Try.prog 34 #[v, .int .i64 left] w (GivesLeft w left l.length) := by
  obtain ⟨a, cap, rfl, hl, -⟩ := ints_open h
  clear h
  go_enter Try.func34, Try.ntmps34
  go_wp2
  all_goals go_ret
  · exact ⟨_, rfl, ⟨_, rfl, .inl ⟨rfl, by omega⟩⟩, Below.refl _ _⟩
  · exact ⟨_, rfl, ⟨_, rfl, .inr ⟨rfl, by omega⟩⟩, Below.refl _ _⟩
set_option maxHeartbeats 400000 in
theorem eqIntS_refl (w : World) (v v' : Value) (l : List Int) (h : RepS w v l) (h' : RepS w v' l) :
    Calls Try.prog 44 #[v, v'] w (Gives w fun r _ => r = .bool true) := by
  obtain ⟨a, cap, rfl, hl, hc⟩ := ints_open h
  obtain ⟨a', cap', rfl, -, hc'⟩ := ints_open h'
  clear h h'
  have HC := Lib.hid hc
  have HC' := Lib.hid hc'
  clear hc hc'
  go_enter Try.func44, Try.ntmps44
  go_wp2
  go_loopw [5] (fun i wr => ∃ k : Nat, k ≤ l.length ∧ i = .int .i64 k ∧ Below w.heap.size w wr) (fun i _ => l.length - (intOf i).toNat)
  case atStart => exact ⟨0, Nat.zero_le _, rfl, Below.refl _ _⟩
  case round =>
    obtain ⟨k, hk, rfl, hb⟩ := hrel
    by_cases hlt : k < l.length
    · have hne : l ≠ [] := by intro e; rw [e] at hlt; simp at hlt
      obtain ⟨b, off, rfl, hc⟩ := HC.out hne
      obtain ⟨b', off', rfl, hc'⟩ := HC'.out hne
      have hx : l[k]? = some l[k] := by simp [hlt]
      have c1 := (hc k l[k] hx).1
      have c2 := (hc' k l[k] hx).1
      rw [← hb.cell (p := ⟨b, off + k, none⟩) (World.block_lt_of_cell? w _ c1)] at c1
      rw [← hb.cell (p := ⟨b', off' + k, none⟩) (World.block_lt_of_cell? w _ c2)] at c2
      clear hc hc' hx hne
      go_wp2
      go_quiet (fail)
      go_wp2
      go_roundw
      case rel => exact ⟨k + 1, by omega, by go_num, below_drewN hb _⟩
      case measure => simp [intOf]; omega
    · go_wp2
      go_ret
      exact ⟨_, rfl, rfl, hb⟩
theorem info_int : (Try.prog.info? 3).map (fun i => (i.zero, i.size, i.bytes)) = some (some (.int .i64 0), 1, 8) := by kernel_rfl
theorem size_int : (Try.prog.info? 3).map (·.size) = some 1 := by kernel_rfl
set_option maxHeartbeats 400000 in
theorem toIntS_any (w : World) (v : Value) (l : List Int) (h : RepS w v l) (hsz : l.length ≤ 1048576) :
    Calls Try.prog 40 #[v] w (Gives w fun r w' => FreshS w.heap.size w' r l) := by
  obtain ⟨a, cap, rfl, hl, hc⟩ := ints_open h
  clear h
  have HC := Lib.hid hc
  clear hc
  go_enter Try.func40, Try.ntmps40
  go_wp2_with (at_make; refine wpList_make_row rfl _ _ _ rfl l.length rfl rfl 3 _ _ _ Try.underlying28 info_int (by omega) (by omega) ?_)
  have hF := Filling.start (α := Int) w.heap.size w l.length (Value.int .i64 0).cells (Nat.le_refl _) hl
  go_loopw [4] (fun i wr => ∃ k fp, k ≤ l.length ∧ i = .int .i64 (k : Nat) ∧ Filling w.heap.size wr w.heap.size l.length (l.take k) fp ∧ Below w.heap.size w wr) (fun i _ => l.length - (intOf i).toNat)
  case atStart => exact ⟨0, [], Nat.zero_le _, rfl, by simpa [Rep.size, Rep.tid, Value.cells] using hF, (Below.refl _ _).alloc (Nat.le_refl _) _⟩
  case round =>
    clear hF
    obtain ⟨k, fp, hk, rfl, hF, hb⟩ := hrel
    by_cases hlt : k < l.length
    · have hne : l ≠ [] := by intro e; rw [e] at hlt; simp at hlt
      obtain ⟨b, off, rfl, hc⟩ := HC.out hne
      obtain ⟨x, hx⟩ : ∃ x, l[k]? = some x := ⟨l[k], by simp [hlt]⟩
      obtain ⟨c1, hi⟩ := hc k x hx
      have HI := Lib.hid hi
      rw [← hb.cell (p := ⟨b, off + k, none⟩) (World.block_lt_of_cell? w _ c1)] at c1
      have hlk : (l.take k).length = k := by simp; omega
      have hts : l.take k ++ [x] = l.take (k + 1) := by rw [List.take_add_one, hx]; rfl
      obtain ⟨cur, hg, hfit, hS⟩ := hF.step (Below.refl _ _) (by omega) (x := x) (r := [.int .i64 x]) (f := []) ⟨⟨rfl, hi⟩, rfl⟩ (by simp) (by simp) k (by rw [hlk]; simp [Rep.size]) _ hts 3 rfl
      have HS := Lib.hid hS
      have H1 := Lib.hid (Rep.one (α := Int) (w := w) (cs := [.int .i64 x]) (x := x) ⟨rfl, hi⟩)
      clear hc hx hne hts hlk hF hS hi
      go_wp2_with (refine wpList_store_at rfl 3 _ _ rfl _ _ rfl _ rfl [_] rfl cur _ hg hfit H1.out size_int ?_; go_loud (intro W1 hW1; have HF := Lib.hid (HS.out W1 hW1); have hb1 := below_row hb (Nat.le_refl _) hW1; clear hW1 HS H1))
      go_roundw
      case rel => exact ⟨k + 1, _, by omega, by go_num, HF.out, hb1⟩
      case measure => simp [intOf]; omega
    · obtain rfl : k = l.length := by omega
      rw [List.take_length] at hF
      go_wp2
      go_ret
      exact ⟨_, rfl, hF.finish rfl (by unfold maxLen; omega), hb⟩
end Go.Proofs.Ytaobgfneeijpmaa
