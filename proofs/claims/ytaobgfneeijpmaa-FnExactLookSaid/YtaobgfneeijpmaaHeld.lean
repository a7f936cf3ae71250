/- The walks of the laws' checking functions: what was marked is found again. -/
import Derived.Test.YtaobgfneeijpmaaMark
import Derived.Test.YtaobgfneeijpmaaExt
set_option linter.unusedSimpArgs false
set_option linter.unusedVariables false
namespace Go.Proofs.Ytaobgfneeijpmaa
open Go.RowKit Go.Mux
set_option maxRecDepth 100000 in
set_option maxHeartbeats 4000000 in
theorem heldCellS_any (w : World) (v : Value) (l : List DCell) (k k' : Int) (h : RepS w v l) (hh : HoldL DCell.Hold l k k') (h0 : 1 ≤ k) (h1 : k' ≤ 1099511627776) :
    Calls Try.prog 49 #[v, .int .i64 k] w (Gives w fun r _ => r = .int .i64 k') := by
  obtain ⟨a, cap, rfl, hl, hc⟩ := h
  have HC := Lib.hid hc
  have HHL := Lib.hid hh
  clear hc hh
  go_enter Try.func49, Try.ntmps49
  go_wp2
  go_loopw [1, 5] (fun kv i wr => ∃ (j : Nat) (q : Int), j ≤ l.length ∧ i = .int .i64 j ∧ kv = .int .i64 q ∧ 1 ≤ q ∧ Hid (HoldL DCell.Hold (l.drop j) q k') ∧ Below w.heap.size w wr) (fun _ i _ => l.length - (intOf i).toNat)
  case atStart => exact ⟨0, k, Nat.zero_le _, rfl, rfl, h0, by simpa using HHL, Below.refl _ _⟩
  case round =>
    obtain ⟨j, q, hj, rfl, rfl, hq0, HL0, hB0⟩ := hrel
    by_cases hlt : j < l.length
    · have hne : l ≠ [] := by intro e; rw [e] at hlt; simp at hlt
      obtain ⟨b, off, rfl, hc⟩ := HC.out hne
      obtain ⟨x, hx⟩ : ∃ x, l[j]? = some x := ⟨l[j], by simp [hlt]⟩
      obtain ⟨rr, hrep, hcell⟩ := hc j x hx
      obtain ⟨qn, hhx, hrest⟩ := HL0.out.drop hx
      have hle := HoldL.le DCell.Hold_le hrest
      have HRest := Lib.hid hrest
      have HB := Lib.hid hB0
      have hcell2 : ∀ (c : Nat) u, rr[c]? = some u → wr.cell? ⟨b, off + j * Rep.size DCell + c, none⟩ = some u := fun c u hu => (hB0.cell (p := ⟨b, _, none⟩) (World.block_lt_of_cell? w _ (hcell c u hu))).trans (hcell c u hu)
      clear hc hcell hne hx hrest HL0 hB0
      obtain ⟨e0, e1, e2, e3, e4, e5, hend⟩ := hhx
      have HE := Lib.hid hend
      have hend2 : qn ≤ 1099511627776 := by omega
      have hend3 : q + 1 + 1 + 1 + 1 + 1 + 1 ≤ 1099511627776 := by omega
      clear hend
      obtain ⟨rfl, r0, r1, r2⟩ := DCell.rep_iff.1 hrep
      have c0 : wr.cell? ⟨b, off + j * 6, none⟩ = some (.int .i64 (q)) := by rw [← e0]; exact hcell2 0 _ rfl
      clear e0
      have c1 : wr.cell? ⟨b, off + j * 6 + 1, none⟩ = some (.int .i64 (q + 1)) := by rw [← e1]; exact hcell2 1 _ rfl
      clear e1
      have c2 : wr.cell? ⟨b, off + j * 6 + 2, none⟩ = some (.int .i64 (q + 1 + 1)) := by rw [← e2]; exact hcell2 2 _ rfl
      clear e2
      have c3 : wr.cell? ⟨b, off + j * 6 + 3, none⟩ = some (.bool ((q + 1 + 1 + 1) % 3 == 0)) := by rw [← e3]; exact hcell2 3 _ rfl
      clear e3
      have c4 : wr.cell? ⟨b, off + j * 6 + 4, none⟩ = some (.bool ((q + 1 + 1 + 1 + 1) % 3 == 0)) := by rw [← e4]; exact hcell2 4 _ rfl
      clear e4
      have c5 : wr.cell? ⟨b, off + j * 6 + 5, none⟩ = some (.bool ((q + 1 + 1 + 1 + 1 + 1) % 3 == 0)) := by rw [← e5]; exact hcell2 5 _ rfl
      clear e5
      clear hcell2 hrep
      have HLT := Lib.hid (World.block_lt_of_cell? wr _ c0)
      go_wp2_with fail
      go_roundw
      case rel => exact ⟨j + 1, q + 1 + 1 + 1 + 1 + 1 + 1, by omega, by go_num, rfl, by omega, by rw [← HE.out]; exact HRest, HB.out⟩
      case measure => simp [intOf]; omega
    · obtain rfl : j = l.length := by omega
      have he : q = k' := by have := HL0.out; rw [List.drop_length] at this; exact this.symm
      have HE := Lib.hid he
      clear he
      go_wp2
      go_ret
      exact ⟨_, rfl, (by first | rfl | (rw [HE.out]; rfl)), hB0⟩
set_option maxRecDepth 100000 in
set_option maxHeartbeats 2000000 in
theorem heldGrid_any (w : World) (cs : List Value) (x : DGrid) (k k' : Int) (h : Rep.rep w cs x) (hh : DGrid.HoldV x k k') (h0 : 1 ≤ k) (h1 : k' ≤ 1099511627776) :
    Calls Try.prog 18 #[.agg cs.toArray, .int .i64 k] w (Gives w fun r _ => r = .int .i64 k') := by
  have HP := Lib.hid (show ∀ W, Below w.heap.size w W → Rep.rep W cs x from fun W hb => Rep.mono h hb)
  obtain ⟨v0, rfl, r0, r1, r2⟩ := DGrid.rep_iff.1 h
  clear h HP
  have e0 := hh
  clear hh
  have l0 := HoldL.le DCell.Hold_le e0
  have E0 := Lib.hid e0
  clear e0
  have R0 := Lib.hid r2
  clear r2
  go_enter Try.func18, Try.ntmps18
  go_wp2_with fail
  refine (heldCellS_any _ v0 x.Cells k k' (R0.out.mono (show Below w.heap.size w _ from (by repeat (first | (with_reducible exact Below.refl _ _) | (with_reducible assumption) | (with_reducible refine bel_alloc ?_ _) | ((with_reducible refine bel_set ?_ ?_ _); rotate_left; (focus first | (simp; done) | (simp; omega))))))) E0.out (by omega) (by omega)).mono ?_
  rintro e W0 ⟨_, rfl, rfl, hb⟩
  have HB := Lib.hid (bel_next (show Below w.heap.size w _ from (by repeat (first | (with_reducible exact Below.refl _ _) | (with_reducible assumption) | (with_reducible refine bel_alloc ?_ _) | ((with_reducible refine bel_set ?_ ?_ _); rotate_left; (focus first | (simp; done) | (simp; omega)))))) hb)
  have hcb0 := bel_cell hb
  have HZ := Lib.hid (show w.heap.size < W0.heap.size from by have := hb.size; simp at this; omega)
  have hz0 := HZ.out
  clear hb
  go_wp2_with fail
  go_ret
  exact ⟨_, rfl, rfl, HB.out⟩
end Go.Proofs.Ytaobgfneeijpmaa
