/- The walks of the laws' checking functions: what was marked is found again. -/
import Derived.Test.YtlkadeaomjoiiaaDoorMark
import Derived.Test.YtlkadeaomjoiiaaDoorExt
set_option linter.unusedSimpArgs false
set_option linter.unusedVariables false
namespace Go.Proofs.YtlkadeaomjoiiaaDoor
open Go.RowKit Go.Mux
set_option maxRecDepth 100000 in
set_option maxHeartbeats 4000000 in
theorem heldByteS_any (w : World) (v : Value) (l : List UInt8) (k k' : Int) (h : RepS w v l) (hh : HoldL ByteHold l k k') (h0 : 1 ≤ k) (h1 : k' ≤ 1099511627776) :
    Calls Tryd.prog 15 #[v, .int .i64 k] w (Gives w fun r _ => r = .int .i64 k') := by
  obtain ⟨a, cap, rfl, hl, hc⟩ := h
  have HC := Lib.hid hc
  have HHL := Lib.hid hh
  clear hc hh
  go_enter Tryd.func15, Tryd.ntmps15
  go_wp2
  go_loopw [1, 5] (fun kv i wr => ∃ (j : Nat) (q : Int), j ≤ l.length ∧ i = .int .i64 j ∧ kv = .int .i64 q ∧ 1 ≤ q ∧ Hid (HoldL ByteHold (l.drop j) q k') ∧ Below w.heap.size w wr) (fun _ i _ => l.length - (intOf i).toNat)
  case atStart => exact ⟨0, k, Nat.zero_le _, rfl, rfl, h0, by simpa using HHL, Below.refl _ _⟩
  case round =>
    obtain ⟨j, q, hj, rfl, rfl, hq0, HL0, hB0⟩ := hrel
    by_cases hlt : j < l.length
    · have hne : l ≠ [] := by intro e; rw [e] at hlt; simp at hlt
      obtain ⟨b, off, rfl, hc⟩ := HC.out hne
      obtain ⟨x, hx⟩ : ∃ x, l[j]? = some x := ⟨l[j], by simp [hlt]⟩
      obtain ⟨rr, hrep, hcell⟩ := hc j x hx
      obtain ⟨qn, hhx, hrest⟩ := HL0.out.drop hx
      have hle := HoldL.le ByteHold_le hrest
      have HRest := Lib.hid hrest
      have HB := Lib.hid hB0
      have hcell2 : ∀ (c : Nat) u, rr[c]? = some u → wr.cell? ⟨b, off + j * Rep.size UInt8 + c, none⟩ = some u := fun c u hu => (hB0.cell (p := ⟨b, _, none⟩) (World.block_lt_of_cell? w _ (hcell c u hu))).trans (hcell c u hu)
      clear hc hcell hne hx hrest HL0 hB0
      obtain ⟨e0, hend⟩ := hhx
      have HE := Lib.hid hend
      have hend2 : qn ≤ 1099511627776 := by omega
      have hend3 : q + 1 ≤ 1099511627776 := by omega
      clear hend
      obtain rfl := (show rr = [Value.int .u8 x.toNat] from hrep)
      have c0 : wr.cell? ⟨b, off + j, none⟩ = some (.int .u8 ((q) % 256)) := by rw [← e0]; exact (by have hz := hcell2 0 _ rfl; rw [show j * Rep.size UInt8 = j from Nat.mul_one j] at hz; exact hz)
      clear e0
      clear hcell2 hrep
      have HLT := Lib.hid (World.block_lt_of_cell? wr _ c0)
      go_wp2_with fail
      go_roundw
      case rel => exact ⟨j + 1, q + 1, by omega, by go_num, rfl, by omega, by rw [← HE.out]; exact HRest, HB.out⟩
      case measure => simp [intOf]; omega
    · obtain rfl : j = l.length := by omega
      have he : q = k' := by have := HL0.out; rw [List.drop_length] at this; exact this.symm
      have HE := Lib.hid he
      clear he
      go_wp2
      go_ret
      exact ⟨_, rfl, (by first | rfl | (rw [HE.out]; rfl)), hB0⟩
end Go.Proofs.YtlkadeaomjoiiaaDoor
