/- The walks of the laws' checking functions: what was marked is found again. -/
import Derived.Test.YtjglknaojfnllaaDoorMark
import Derived.Test.YtjglknaojfnllaaDoorExt
set_option linter.unusedSimpArgs false
set_option linter.unusedVariables false
namespace Go.Proofs.YtjglknaojfnllaaDoor
open Go.RowKit Go.Mux
set_option maxRecDepth 100000 in
set_option maxHeartbeats 4000000 in
theorem heldByteS_any (w : World) (v : Value) (l : List UInt8) (k k' : Int) (h : RepS w v l) (hh : HoldL ByteHold l k k') (h0 : 1 ≤ k) (h1 : k' ≤ 1099511627776) :
    Calls Tryd.prog 27 #[v, .int .i64 k] w (Gives w fun r _ => r = .int .i64 k') := by
  obtain ⟨a, cap, rfl, hl, hc⟩ := h
  have HC := Lib.hid hc
  have HHL := Lib.hid hh
  clear hc hh
  go_enter Tryd.func27, Tryd.ntmps27
  go_wp2
  go_loopw [1, 5] (fun kv i wr => ∃ (j : Nat) (q : Int), j ≤ l.length ∧ i = .int .i64 j ∧ kv = .int .i64 q ∧ 1 ≤ q ∧ Hid (HoldL ByteHold (l.drop j) q k') ∧ Below w.heap.size w wr) (fun _ i _ => l.length - (intOf i).toNat)
  case atStart => exact ⟨0, k, Nat.zero_le _, rfl, rfl, h0, by simpa using HHL, Below.refl _ _⟩
  case round =>
    obtain ⟨j, q, hj, rfl, rfl, hq0, HL0, hB0⟩ := hrel
    by_cases hlt : j < l.length
    · have hne : l ≠ [] := by intro e; rw [e] at hlt; simp at hlt
      obtain ⟨b, off, rfl, hc⟩ := HC.out hne
      obtain ⟨x, hx⟩ : ∃ x, l[j]? = some x := ⟨l[j], by simp [hlt]⟩
      obtain ⟨rr, hrep, hcell⟩ := hc j x hx
      obtain ⟨qn, hhx, hrest⟩ := HL0.out.drop hx
      have hle := HoldL.le ByteHold_le hrest
      have HRest := Lib.hid hrest
      have HB := Lib.hid hB0
      have hcell2 : ∀ (c : Nat) u, rr[c]? = some u → wr.cell? ⟨b, off + j * Rep.size UInt8 + c, none⟩ = some u := fun c u hu => (hB0.cell (p := ⟨b, _, none⟩) (World.block_lt_of_cell? w _ (hcell c u hu))).trans (hcell c u hu)
      clear hc hcell hne hx hrest HL0 hB0
      obtain ⟨e0, hend⟩ := hhx
      have HE := Lib.hid hend
      have hend2 : qn ≤ 1099511627776 := by omega
      have hend3 : q + 1 ≤ 1099511627776 := by omega
      clear hend
      obtain rfl := (show rr = [Value.int .u8 x.toNat] from hrep)
      have c0 : wr.cell? ⟨b, off + j, none⟩ = some (.int .u8 ((q) % 256)) := by rw [← e0]; exact (by have hz := hcell2 0 _ rfl; rw [show j * Rep.size UInt8 = j from Nat.mul_one j] at hz; exact hz)
      clear e0
      clear hcell2 hrep
      have HLT := Lib.hid (World.block_lt_of_cell? wr _ c0)
      go_wp2_with fail
      go_roundw
      case rel => exact ⟨j + 1, q + 1, by omega, by go_num, rfl, by omega, by rw [← HE.out]; exact HRest, HB.out⟩
      case measure => simp [intOf]; omega
    · obtain rfl : j = l.length := by omega
      have he : q = k' := by have := HL0.out; rw [List.drop_length] at this; exact this.symm
      have HE := Lib.hid he
      clear he
      go_wp2
      go_ret
      exact ⟨_, rfl, (by first | rfl | (rw [HE.out]; rfl)), hB0⟩
set_option maxRecDepth 100000 in
set_option maxHeartbeats 4000000 in
theorem heldIntS_any (w : World) (v : Value) (l : List Int) (k k' : Int) (h : RepS w v l) (hh : HoldL IntHold l k k') (h0 : 1 ≤ k) (h1 : k' ≤ 1099511627776) :
    Calls Tryd.prog 28 #[v, .int .i64 k] w (Gives w fun r _ => r = .int .i64 k') := by
  obtain ⟨a, cap, rfl, hl, hc⟩ := h
  have HC := Lib.hid hc
  have HHL := Lib.hid hh
  clear hc hh
  go_enter Tryd.func28, Tryd.ntmps28
  go_wp2
  go_loopw [1, 5] (fun kv i wr => ∃ (j : Nat) (q : Int), j ≤ l.length ∧ i = .int .i64 j ∧ kv = .int .i64 q ∧ 1 ≤ q ∧ Hid (HoldL IntHold (l.drop j) q k') ∧ Below w.heap.size w wr) (fun _ i _ => l.length - (intOf i).toNat)
  case atStart => exact ⟨0, k, Nat.zero_le _, rfl, rfl, h0, by simpa using HHL, Below.refl _ _⟩
  case round =>
    obtain ⟨j, q, hj, rfl, rfl, hq0, HL0, hB0⟩ := hrel
    by_cases hlt : j < l.length
    · have hne : l ≠ [] := by intro e; rw [e] at hlt; simp at hlt
      obtain ⟨b, off, rfl, hc⟩ := HC.out hne
      obtain ⟨x, hx⟩ : ∃ x, l[j]? = some x := ⟨l[j], by simp [hlt]⟩
      obtain ⟨rr, hrep, hcell⟩ := hc j x hx
      obtain ⟨qn, hhx, hrest⟩ := HL0.out.drop hx
      have hle := HoldL.le IntHold_le hrest
      have HRest := Lib.hid hrest
      have HB := Lib.hid hB0
      have hcell2 : ∀ (c : Nat) u, rr[c]? = some u → wr.cell? ⟨b, off + j * Rep.size Int + c, none⟩ = some u := fun c u hu => (hB0.cell (p := ⟨b, _, none⟩) (World.block_lt_of_cell? w _ (hcell c u hu))).trans (hcell c u hu)
      clear hc hcell hne hx hrest HL0 hB0
      obtain ⟨e0, hend⟩ := hhx
      have HE := Lib.hid hend
      have hend2 : qn ≤ 1099511627776 := by omega
      have hend3 : q + 1 ≤ 1099511627776 := by omega
      clear hend
      obtain rfl := (show rr = [Value.int .i64 x] from hrep.1)
      have c0 : wr.cell? ⟨b, off + j, none⟩ = some (.int .i64 (q)) := by rw [← e0]; exact (by have hz := hcell2 0 _ rfl; rw [show j * Rep.size Int = j from Nat.mul_one j] at hz; exact hz)
      clear e0
      clear hcell2 hrep
      have HLT := Lib.hid (World.block_lt_of_cell? wr _ c0)
      go_wp2_with fail
      go_roundw
      case rel => exact ⟨j + 1, q + 1, by omega, by go_num, rfl, by omega, by rw [← HE.out]; exact HRest, HB.out⟩
      case measure => simp [intOf]; omega
    · obtain rfl : j = l.length := by omega
      have he : q = k' := by have := HL0.out; rw [List.drop_length] at this; exact this.symm
      have HE := Lib.hid he
      clear he
      go_wp2
      go_ret
      exact ⟨_, rfl, (by first | rfl | (rw [HE.out]; rfl)), hB0⟩
set_option maxRecDepth 100000 in
set_option maxHeartbeats 2000000 in
theorem heldOp_any (w : World) (cs : List Value) (x : DOp) (k k' : Int) (h : Rep.rep w cs x) (hh : DOp.HoldV x k k') (h0 : 1 ≤ k) (h1 : k' ≤ 1099511627776) :
    Calls Tryd.prog 14 #[.agg cs.toArray, .int .i64 k] w (Gives w fun r _ => r = .int .i64 k') := by
  have HP := Lib.hid (show ∀ W, Below w.heap.size w W → Rep.rep W cs x from fun W hb => Rep.mono h hb)
  obtain ⟨v0, rfl, r0, r1, r2, r3, r4, r5, r6, r7⟩ := DOp.rep_iff.1 h
  clear h HP
  have e0 := hh
  clear hh
  have l0 := HoldL.le ByteHold_le e0
  have E0 := Lib.hid e0
  clear e0
  have R0 := Lib.hid r7
  clear r7
  go_enter Tryd.func14, Tryd.ntmps14
  go_wp2_with fail
  refine (heldByteS_any _ v0 x.Data k k' (R0.out.mono (show Below w.heap.size w _ from (by repeat (first | (with_reducible exact Below.refl _ _) | (with_reducible assumption) | (with_reducible refine bel_alloc ?_ _) | ((with_reducible refine bel_set ?_ ?_ _); rotate_left; (focus first | (simp; done) | (simp; omega))))))) E0.out (by omega) (by omega)).mono ?_
  rintro e W0 ⟨_, rfl, rfl, hb⟩
  have HB := Lib.hid (bel_next (show Below w.heap.size w _ from (by repeat (first | (with_reducible exact Below.refl _ _) | (with_reducible assumption) | (with_reducible refine bel_alloc ?_ _) | ((with_reducible refine bel_set ?_ ?_ _); rotate_left; (focus first | (simp; done) | (simp; omega)))))) hb)
  have hcb0 := bel_cell hb
  have HZ := Lib.hid (show w.heap.size < W0.heap.size from by have := hb.size; simp at this; omega)
  have hz0 := HZ.out
  clear hb
  go_wp2_with fail
  go_ret
  exact ⟨_, rfl, rfl, HB.out⟩
set_option maxRecDepth 100000 in
set_option maxHeartbeats 2000000 in
theorem heldStep_any (w : World) (cs : List Value) (x : DStep) (k k' : Int) (h : Rep.rep w cs x) (hh : DStep.HoldV x k k') (h0 : 1 ≤ k) (h1 : k' ≤ 1099511627776) :
    Calls Tryd.prog 9 #[.agg cs.toArray, .int .i64 k] w (Gives w fun r _ => r = .int .i64 k') := by
  have HP := Lib.hid (show ∀ W, Below w.heap.size w W → Rep.rep W cs x from fun W hb => Rep.mono h hb)
  obtain ⟨v0, v1, rfl, r0, r1, r2, r3, r4, r5⟩ := DStep.rep_iff.1 h
  clear h HP
  obtain ⟨q0, e0, e1⟩ := hh
  have l0 := HoldL.le ByteHold_le e0
  have E0 := Lib.hid e0
  clear e0
  have l1 := HoldL.le IntHold_le e1
  have E1 := Lib.hid e1
  clear e1
  have R0 := Lib.hid r4
  clear r4
  have R1 := Lib.hid r5
  clear r5
  go_enter Tryd.func9, Tryd.ntmps9
  go_wp2_with fail
  refine (heldByteS_any _ v0 x.Data k q0 (R0.out.mono (show Below w.heap.size w _ from (by repeat (first | (with_reducible exact Below.refl _ _) | (with_reducible assumption) | (with_reducible refine bel_alloc ?_ _) | ((with_reducible refine bel_set ?_ ?_ _); rotate_left; (focus first | (simp; done) | (simp; omega))))))) E0.out (by omega) (by omega)).mono ?_
  rintro e W0 ⟨_, rfl, rfl, hb⟩
  have HB := Lib.hid (bel_next (show Below w.heap.size w _ from (by repeat (first | (with_reducible exact Below.refl _ _) | (with_reducible assumption) | (with_reducible refine bel_alloc ?_ _) | ((with_reducible refine bel_set ?_ ?_ _); rotate_left; (focus first | (simp; done) | (simp; omega)))))) hb)
  have hcb0 := bel_cell hb
  have HZ := Lib.hid (show w.heap.size < W0.heap.size from by have := hb.size; simp at this; omega)
  have hz0 := HZ.out
  clear hb
  go_wp2_with fail
  refine (heldIntS_any _ v1 x.Cuts q0 k' (R1.out.mono HB.out) E1.out (by omega) (by omega)).mono ?_
  rintro e W1 ⟨_, rfl, rfl, hb⟩
  replace HB := Lib.hid (bel_next HB.out hb)
  have hcb1 := bel_cell hb
  replace HZ := Lib.hid (Nat.lt_of_lt_of_le HZ.out hb.size)
  have hz1 := HZ.out
  clear hb
  go_wp2_with fail
  go_ret
  exact ⟨_, rfl, rfl, HB.out⟩
end Go.Proofs.YtjglknaojfnllaaDoor
