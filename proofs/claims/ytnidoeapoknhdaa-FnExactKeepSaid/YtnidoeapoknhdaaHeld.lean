/- The walks of the laws' checking functions: what was marked is found again. -/
import Derived.Test.YtnidoeapoknhdaaMark
import Derived.Test.YtnidoeapoknhdaaExt
set_option linter.unusedSimpArgs false
set_option linter.unusedVariables false
namespace Go.Proofs.Ytnidoeapoknhdaa
open Go.RowKit Go.Mux
set_option maxRecDepth 100000 in
set_option maxHeartbeats 4000000 in
theorem heldByteS_any (w : World) (v : Value) (l : List UInt8) (k k' : Int) (h : RepS w v l) (hh : HoldL ByteHold l k k') (h0 : 1 ≤ k) (h1 : k' ≤ 1099511627776) :
    Calls Try.prog 57 #[v, .int .i64 k] w (Gives w fun r _ => r = .int .i64 k') := by
  obtain ⟨a, cap, rfl, hl, hc⟩ := h
  have HC := Lib.hid hc
  have HHL := Lib.hid hh
  clear hc hh
  go_enter Try.func57, Try.ntmps57
  go_wp2
  go_loopw [1, 5] (fun kv i wr => ∃ (j : Nat) (q : Int), j ≤ l.length ∧ i = .int .i64 j ∧ kv = .int .i64 q ∧ 1 ≤ q ∧ Hid (HoldL ByteHold (l.drop j) q k') ∧ Below w.heap.size w wr) (fun _ i _ => l.length - (intOf i).toNat)
  case atStart => exact ⟨0, k, Nat.zero_le _, rfl, rfl, h0, by simpa using HHL, Below.refl _ _⟩
  case round =>
    obtain ⟨j, q, hj, rfl, rfl, hq0, HL0, hB0⟩ := hrel
    by_cases hlt : j < l.length
    · have hne : l ≠ [] := by intro e; rw [e] at hlt; simp at hlt
      obtain ⟨b, off, rfl, hc⟩ := HC.out hne
      obtain ⟨x, hx⟩ : ∃ x, l[j]? = some x := ⟨l[j], by simp [hlt]⟩
      obtain ⟨rr, hrep, hcell⟩ := hc j x hx
      obtain ⟨qn, hhx, hrest⟩ := HL0.out.drop hx
      have hle := HoldL.le ByteHold_le hrest
      have HRest := Lib.hid hrest
      have HB := Lib.hid hB0
      have hcell2 : ∀ (c : Nat) u, rr[c]? = some u → wr.cell? ⟨b, off + j * Rep.size UInt8 + c, none⟩ = some u := fun c u hu => (hB0.cell (p := ⟨b, _, none⟩) (World.block_lt_of_cell? w _ (hcell c u hu))).trans (hcell c u hu)
      clear hc hcell hne hx hrest HL0 hB0
      obtain ⟨e0, hend⟩ := hhx
      have HE := Lib.hid hend
      have hend2 : qn ≤ 1099511627776 := by omega
      have hend3 : q + 1 ≤ 1099511627776 := by omega
      clear hend
      obtain rfl := (show rr = [Value.int .u8 x.toNat] from hrep)
      have c0 : wr.cell? ⟨b, off + j, none⟩ = some (.int .u8 ((q) % 256)) := by rw [← e0]; exact (by have hz := hcell2 0 _ rfl; rw [show j * Rep.size UInt8 = j from Nat.mul_one j] at hz; exact hz)
      clear e0
      clear hcell2 hrep
      have HLT := Lib.hid (World.block_lt_of_cell? wr _ c0)
      go_wp2_with fail
      go_roundw
      case rel => exact ⟨j + 1, q + 1, by omega, by go_num, rfl, by omega, by rw [← HE.out]; exact HRest, HB.out⟩
      case measure => simp [intOf]; omega
    · obtain rfl : j = l.length := by omega
      have he : q = k' := by have := HL0.out; rw [List.drop_length] at this; exact this.symm
      have HE := Lib.hid he
      clear he
      go_wp2
      go_ret
      exact ⟨_, rfl, (by first | rfl | (rw [HE.out]; rfl)), hB0⟩
set_option maxRecDepth 100000 in
set_option maxHeartbeats 4000000 in
theorem heldProcS_any (w : World) (v : Value) (l : List DProc) (k k' : Int) (h : RepS w v l) (hh : HoldL DProc.Hold l k k') (h0 : 1 ≤ k) (h1 : k' ≤ 1099511627776) :
    Calls Try.prog 62 #[v, .int .i64 k] w (Gives w fun r _ => r = .int .i64 k') := by
  obtain ⟨a, cap, rfl, hl, hc⟩ := h
  have HC := Lib.hid hc
  have HHL := Lib.hid hh
  clear hc hh
  go_enter Try.func62, Try.ntmps62
  go_wp2
  go_loopw [1, 5] (fun kv i wr => ∃ (j : Nat) (q : Int), j ≤ l.length ∧ i = .int .i64 j ∧ kv = .int .i64 q ∧ 1 ≤ q ∧ Hid (HoldL DProc.Hold (l.drop j) q k') ∧ Below w.heap.size w wr) (fun _ i _ => l.length - (intOf i).toNat)
  case atStart => exact ⟨0, k, Nat.zero_le _, rfl, rfl, h0, by simpa using HHL, Below.refl _ _⟩
  case round =>
    obtain ⟨j, q, hj, rfl, rfl, hq0, HL0, hB0⟩ := hrel
    by_cases hlt : j < l.length
    · have hne : l ≠ [] := by intro e; rw [e] at hlt; simp at hlt
      obtain ⟨b, off, rfl, hc⟩ := HC.out hne
      obtain ⟨x, hx⟩ : ∃ x, l[j]? = some x := ⟨l[j], by simp [hlt]⟩
      obtain ⟨rr, hrep, hcell⟩ := hc j x hx
      obtain ⟨qn, hhx, hrest⟩ := HL0.out.drop hx
      have hle := HoldL.le DProc.Hold_le hrest
      have HRest := Lib.hid hrest
      have HB := Lib.hid hB0
      have hcell2 : ∀ (c : Nat) u, rr[c]? = some u → wr.cell? ⟨b, off + j * Rep.size DProc + c, none⟩ = some u := fun c u hu => (hB0.cell (p := ⟨b, _, none⟩) (World.block_lt_of_cell? w _ (hcell c u hu))).trans (hcell c u hu)
      clear hc hcell hne hx hrest HL0 hB0
      obtain ⟨e0, e1, hend⟩ := hhx
      have HE := Lib.hid hend
      have hend2 : qn ≤ 1099511627776 := by omega
      have hend3 : q + 1 + 1 ≤ 1099511627776 := by omega
      clear hend
      obtain ⟨rfl, r0, r1⟩ := DProc.rep_iff.1 hrep
      have c0 : wr.cell? ⟨b, off + j * 2, none⟩ = some (.int .i64 (q)) := by rw [← e0]; exact hcell2 0 _ rfl
      clear e0
      have c1 : wr.cell? ⟨b, off + j * 2 + 1, none⟩ = some (.int .i64 (q + 1)) := by rw [← e1]; exact hcell2 1 _ rfl
      clear e1
      clear hcell2 hrep
      have HLT := Lib.hid (World.block_lt_of_cell? wr _ c0)
      go_wp2_with fail
      go_roundw
      case rel => exact ⟨j + 1, q + 1 + 1, by omega, by go_num, rfl, by omega, by rw [← HE.out]; exact HRest, HB.out⟩
      case measure => simp [intOf]; omega
    · obtain rfl : j = l.length := by omega
      have he : q = k' := by have := HL0.out; rw [List.drop_length] at this; exact this.symm
      have HE := Lib.hid he
      clear he
      go_wp2
      go_ret
      exact ⟨_, rfl, (by first | rfl | (rw [HE.out]; rfl)), hB0⟩
set_option maxRecDepth 100000 in
set_option maxHeartbeats 4000000 in
theorem heldAskS_any (w : World) (v : Value) (l : List DAsk) (k k' : Int) (h : RepS w v l) (hh : HoldL DAsk.Hold l k k') (h0 : 1 ≤ k) (h1 : k' ≤ 1099511627776) :
    Calls Try.prog 63 #[v, .int .i64 k] w (Gives w fun r _ => r = .int .i64 k') := by
  obtain ⟨a, cap, rfl, hl, hc⟩ := h
  have HC := Lib.hid hc
  have HHL := Lib.hid hh
  clear hc hh
  go_enter Try.func63, Try.ntmps63
  go_wp2
  go_loopw [1, 5] (fun kv i wr => ∃ (j : Nat) (q : Int), j ≤ l.length ∧ i = .int .i64 j ∧ kv = .int .i64 q ∧ 1 ≤ q ∧ Hid (HoldL DAsk.Hold (l.drop j) q k') ∧ Below w.heap.size w wr) (fun _ i _ => l.length - (intOf i).toNat)
  case atStart => exact ⟨0, k, Nat.zero_le _, rfl, rfl, h0, by simpa using HHL, Below.refl _ _⟩
  case round =>
    obtain ⟨j, q, hj, rfl, rfl, hq0, HL0, hB0⟩ := hrel
    by_cases hlt : j < l.length
    · have hne : l ≠ [] := by intro e; rw [e] at hlt; simp at hlt
      obtain ⟨b, off, rfl, hc⟩ := HC.out hne
      obtain ⟨x, hx⟩ : ∃ x, l[j]? = some x := ⟨l[j], by simp [hlt]⟩
      obtain ⟨rr, hrep, hcell⟩ := hc j x hx
      obtain ⟨qn, hhx, hrest⟩ := HL0.out.drop hx
      have hle := HoldL.le DAsk.Hold_le hrest
      have HRest := Lib.hid hrest
      have HB := Lib.hid hB0
      have hcell2 : ∀ (c : Nat) u, rr[c]? = some u → wr.cell? ⟨b, off + j * Rep.size DAsk + c, none⟩ = some u := fun c u hu => (hB0.cell (p := ⟨b, _, none⟩) (World.block_lt_of_cell? w _ (hcell c u hu))).trans (hcell c u hu)
      clear hc hcell hne hx hrest HL0 hB0
      obtain ⟨e0, e1, e2, e3, e4, e5, hend⟩ := hhx
      have HE := Lib.hid hend
      have hend2 : qn ≤ 1099511627776 := by omega
      have hend3 : q + 1 + 1 + 1 + 1 + 1 + 1 ≤ 1099511627776 := by omega
      clear hend
      obtain ⟨rfl, r0, r1, r2, r3, r4, r5⟩ := DAsk.rep_iff.1 hrep
      have c0 : wr.cell? ⟨b, off + j * 6, none⟩ = some (.int .i64 (q)) := by rw [← e0]; exact hcell2 0 _ rfl
      clear e0
      have c1 : wr.cell? ⟨b, off + j * 6 + 1, none⟩ = some (.string (markT (q + 1))) := by rw [← e1]; exact hcell2 1 _ rfl
      clear e1
      have c2 : wr.cell? ⟨b, off + j * 6 + 2, none⟩ = some (.string (markT (q + 1 + 1))) := by rw [← e2]; exact hcell2 2 _ rfl
      clear e2
      have c3 : wr.cell? ⟨b, off + j * 6 + 3, none⟩ = some (.int .i64 (q + 1 + 1 + 1)) := by rw [← e3]; exact hcell2 3 _ rfl
      clear e3
      have c4 : wr.cell? ⟨b, off + j * 6 + 4, none⟩ = some (.int .i64 (q + 1 + 1 + 1 + 1)) := by rw [← e4]; exact hcell2 4 _ rfl
      clear e4
      have c5 : wr.cell? ⟨b, off + j * 6 + 5, none⟩ = some (.int .i64 (q + 1 + 1 + 1 + 1 + 1)) := by rw [← e5]; exact hcell2 5 _ rfl
      clear e5
      clear hcell2 hrep
      have HLT := Lib.hid (World.block_lt_of_cell? wr _ c0)
      go_wp2_with fail
      have ec := ext_cell c1
      refine wp_region_ext (by kernel_rfl) (by kernel_rfl) ?_
      repeat (go_big_quiet_step ((go_at_call 55; exact ext_gives (markText_any _ (q + 1) (by omega) (by omega)))))
      refine wpQuiet_nil ?_
      intro _ hw'
      obtain ⟨eW0, rfl⟩ := hw'
      clear ec
      replace HB := Lib.hid (bel_next HB.out eW0.bel)
      replace c0 := ext_cell c0 eW0
      replace c1 := ext_cell c1 eW0
      replace c2 := ext_cell c2 eW0
      replace c3 := ext_cell c3 eW0
      replace c4 := ext_cell c4 eW0
      replace c5 := ext_cell c5 eW0
      replace HLT := Lib.hid (Nat.lt_of_lt_of_le HLT.out eW0.bel.size)
      go_wp2_with fail
      have ec := ext_cell c2
      refine wp_region_ext (by kernel_rfl) (by kernel_rfl) ?_
      repeat (go_big_quiet_step ((go_at_call 55; exact ext_gives (markText_any _ (q + 1 + 1) (by omega) (by omega)))))
      refine wpQuiet_nil ?_
      intro _ hw'
      obtain ⟨eW1, rfl⟩ := hw'
      clear ec
      replace HB := Lib.hid (bel_next HB.out eW1.bel)
      replace c0 := ext_cell c0 eW1
      replace c1 := ext_cell c1 eW1
      replace c2 := ext_cell c2 eW1
      replace c3 := ext_cell c3 eW1
      replace c4 := ext_cell c4 eW1
      replace c5 := ext_cell c5 eW1
      replace HLT := Lib.hid (Nat.lt_of_lt_of_le HLT.out eW1.bel.size)
      go_wp2_with fail
      go_roundw
      case rel => exact ⟨j + 1, q + 1 + 1 + 1 + 1 + 1 + 1, by omega, by go_num, rfl, by omega, by rw [← HE.out]; exact HRest, HB.out⟩
      case measure => simp [intOf]; omega
    · obtain rfl : j = l.length := by omega
      have he : q = k' := by have := HL0.out; rw [List.drop_length] at this; exact this.symm
      have HE := Lib.hid he
      clear he
      go_wp2
      go_ret
      exact ⟨_, rfl, (by first | rfl | (rw [HE.out]; rfl)), hB0⟩
set_option maxRecDepth 100000 in
set_option maxHeartbeats 4000000 in
theorem heldHistS_any (w : World) (v : Value) (l : List DHist) (k k' : Int) (h : RepS w v l) (hh : HoldL DHist.Hold l k k') (h0 : 1 ≤ k) (h1 : k' ≤ 1099511627776) :
    Calls Try.prog 27 #[v, .int .i64 k] w (Gives w fun r _ => r = .int .i64 k') := by
  obtain ⟨a, cap, rfl, hl, hc⟩ := h
  have HC := Lib.hid hc
  have HHL := Lib.hid hh
  clear hc hh
  go_enter Try.func27, Try.ntmps27
  go_wp2
  go_loopw [1, 5] (fun kv i wr => ∃ (j : Nat) (q : Int), j ≤ l.length ∧ i = .int .i64 j ∧ kv = .int .i64 q ∧ 1 ≤ q ∧ Hid (HoldL DHist.Hold (l.drop j) q k') ∧ Below w.heap.size w wr) (fun _ i _ => l.length - (intOf i).toNat)
  case atStart => exact ⟨0, k, Nat.zero_le _, rfl, rfl, h0, by simpa using HHL, Below.refl _ _⟩
  case round =>
    obtain ⟨j, q, hj, rfl, rfl, hq0, HL0, hB0⟩ := hrel
    by_cases hlt : j < l.length
    · have hne : l ≠ [] := by intro e; rw [e] at hlt; simp at hlt
      obtain ⟨b, off, rfl, hc⟩ := HC.out hne
      obtain ⟨x, hx⟩ : ∃ x, l[j]? = some x := ⟨l[j], by simp [hlt]⟩
      obtain ⟨rr, hrep, hcell⟩ := hc j x hx
      obtain ⟨qn, hhx, hrest⟩ := HL0.out.drop hx
      have hle := HoldL.le DHist.Hold_le hrest
      have HRest := Lib.hid hrest
      have HB := Lib.hid hB0
      have hcell2 : ∀ (c : Nat) u, rr[c]? = some u → wr.cell? ⟨b, off + j * Rep.size DHist + c, none⟩ = some u := fun c u hu => (hB0.cell (p := ⟨b, _, none⟩) (World.block_lt_of_cell? w _ (hcell c u hu))).trans (hcell c u hu)
      clear hc hcell hne hx hrest HL0 hB0
      obtain ⟨q0, e0, e1, e2, e3, e4, e5, e6, e7, e8, hend⟩ := hhx
      have l0 := HoldL.le ByteHold_le e8
      have HE := Lib.hid hend
      have hend2 : qn ≤ 1099511627776 := by omega
      have hend3 : q0 ≤ 1099511627776 := by omega
      clear hend
      obtain ⟨v0, rfl, r0, r1, r2, r3, r4, r5, r6, r7⟩ := DHist.rep_iff.1 hrep
      have HR0 := Lib.hid r7
      clear r7
      have c0 : wr.cell? ⟨b, off + j * 9, none⟩ = some (.bool ((q) % 3 == 0)) := by rw [← e0]; exact hcell2 0 _ rfl
      clear e0
      have c1 : wr.cell? ⟨b, off + j * 9 + 1, none⟩ = some (.int .i64 (q + 1)) := by rw [← e1]; exact hcell2 1 _ rfl
      clear e1
      have c2 : wr.cell? ⟨b, off + j * 9 + 2, none⟩ = some (.int .i64 (q + 1 + 1)) := by rw [← e2]; exact hcell2 2 _ rfl
      clear e2
      have c3 : wr.cell? ⟨b, off + j * 9 + 3, none⟩ = some (.int .i64 (q + 1 + 1 + 1)) := by rw [← e3]; exact hcell2 3 _ rfl
      clear e3
      have c4 : wr.cell? ⟨b, off + j * 9 + 4, none⟩ = some (.int .i64 (q + 1 + 1 + 1 + 1)) := by rw [← e4]; exact hcell2 4 _ rfl
      clear e4
      have c5 : wr.cell? ⟨b, off + j * 9 + 5, none⟩ = some (.string (markT (q + 1 + 1 + 1 + 1 + 1))) := by rw [← e5]; exact hcell2 5 _ rfl
      clear e5
      have c6 : wr.cell? ⟨b, off + j * 9 + 6, none⟩ = some (.string (markT (q + 1 + 1 + 1 + 1 + 1 + 1))) := by rw [← e6]; exact hcell2 6 _ rfl
      clear e6
      have c7 : wr.cell? ⟨b, off + j * 9 + 7, none⟩ = some (.string (markT (q + 1 + 1 + 1 + 1 + 1 + 1 + 1))) := by rw [← e7]; exact hcell2 7 _ rfl
      clear e7
      have c8 : wr.cell? ⟨b, off + j * 9 + 8, none⟩ = some v0 := hcell2 8 _ rfl
      have HS0 := Lib.hid e8
      clear e8
      clear hcell2 hrep
      have HLT := Lib.hid (World.block_lt_of_cell? wr _ c0)
      go_wp2_with fail
      have ec := ext_cell c5
      refine wp_region_ext (by kernel_rfl) (by kernel_rfl) ?_
      repeat (go_big_quiet_step ((go_at_call 55; exact ext_gives (markText_any _ (q + 1 + 1 + 1 + 1 + 1) (by omega) (by omega)))))
      refine wpQuiet_nil ?_
      intro _ hw'
      obtain ⟨eW0, rfl⟩ := hw'
      clear ec
      replace HB := Lib.hid (bel_next HB.out eW0.bel)
      replace c0 := ext_cell c0 eW0
      replace c1 := ext_cell c1 eW0
      replace c2 := ext_cell c2 eW0
      replace c3 := ext_cell c3 eW0
      replace c4 := ext_cell c4 eW0
      replace c5 := ext_cell c5 eW0
      replace c6 := ext_cell c6 eW0
      replace c7 := ext_cell c7 eW0
      replace c8 := ext_cell c8 eW0
      replace HLT := Lib.hid (Nat.lt_of_lt_of_le HLT.out eW0.bel.size)
      go_wp2_with fail
      have ec := ext_cell c6
      refine wp_region_ext (by kernel_rfl) (by kernel_rfl) ?_
      repeat (go_big_quiet_step ((go_at_call 55; exact ext_gives (markText_any _ (q + 1 + 1 + 1 + 1 + 1 + 1) (by omega) (by omega)))))
      refine wpQuiet_nil ?_
      intro _ hw'
      obtain ⟨eW1, rfl⟩ := hw'
      clear ec
      replace HB := Lib.hid (bel_next HB.out eW1.bel)
      replace c0 := ext_cell c0 eW1
      replace c1 := ext_cell c1 eW1
      replace c2 := ext_cell c2 eW1
      replace c3 := ext_cell c3 eW1
      replace c4 := ext_cell c4 eW1
      replace c5 := ext_cell c5 eW1
      replace c6 := ext_cell c6 eW1
      replace c7 := ext_cell c7 eW1
      replace c8 := ext_cell c8 eW1
      replace HLT := Lib.hid (Nat.lt_of_lt_of_le HLT.out eW1.bel.size)
      go_wp2_with fail
      have ec := ext_cell c7
      refine wp_region_ext (by kernel_rfl) (by kernel_rfl) ?_
      repeat (go_big_quiet_step ((go_at_call 55; exact ext_gives (markText_any _ (q + 1 + 1 + 1 + 1 + 1 + 1 + 1) (by omega) (by omega)))))
      refine wpQuiet_nil ?_
      intro _ hw'
      obtain ⟨eW2, rfl⟩ := hw'
      clear ec
      replace HB := Lib.hid (bel_next HB.out eW2.bel)
      replace c0 := ext_cell c0 eW2
      replace c1 := ext_cell c1 eW2
      replace c2 := ext_cell c2 eW2
      replace c3 := ext_cell c3 eW2
      replace c4 := ext_cell c4 eW2
      replace c5 := ext_cell c5 eW2
      replace c6 := ext_cell c6 eW2
      replace c7 := ext_cell c7 eW2
      replace c8 := ext_cell c8 eW2
      replace HLT := Lib.hid (Nat.lt_of_lt_of_le HLT.out eW2.bel.size)
      go_wp2_with fail
      refine (heldByteS_any _ v0 x.Op.Data (q + 1 + 1 + 1 + 1 + 1 + 1 + 1 + 1) q0 (HR0.out.mono HB.out) HS0.out (by omega) (by omega)).mono ?_
      rintro e W4 ⟨_, rfl, rfl, hb⟩
      replace HB := Lib.hid (bel_next HB.out hb)
      replace c0 := (hb.cell (p := ⟨b, _, none⟩) HLT.out).trans c0
      replace c1 := (hb.cell (p := ⟨b, _, none⟩) HLT.out).trans c1
      replace c2 := (hb.cell (p := ⟨b, _, none⟩) HLT.out).trans c2
      replace c3 := (hb.cell (p := ⟨b, _, none⟩) HLT.out).trans c3
      replace c4 := (hb.cell (p := ⟨b, _, none⟩) HLT.out).trans c4
      replace c5 := (hb.cell (p := ⟨b, _, none⟩) HLT.out).trans c5
      replace c6 := (hb.cell (p := ⟨b, _, none⟩) HLT.out).trans c6
      replace c7 := (hb.cell (p := ⟨b, _, none⟩) HLT.out).trans c7
      replace c8 := (hb.cell (p := ⟨b, _, none⟩) HLT.out).trans c8
      replace HLT := Lib.hid (Nat.lt_of_lt_of_le HLT.out hb.size)
      clear hb
      go_wp2_with fail
      go_roundw
      case rel => exact ⟨j + 1, q0, by omega, by go_num, rfl, by omega, by rw [← HE.out]; exact HRest, HB.out⟩
      case measure => simp [intOf]; omega
    · obtain rfl : j = l.length := by omega
      have he : q = k' := by have := HL0.out; rw [List.drop_length] at this; exact this.symm
      have HE := Lib.hid he
      clear he
      go_wp2
      go_ret
      exact ⟨_, rfl, (by first | rfl | (rw [HE.out]; rfl)), hB0⟩
set_option maxRecDepth 100000 in
set_option maxHeartbeats 2000000 in
theorem heldTable_any (w : World) (cs : List Value) (x : DTable) (k k' : Int) (h : Rep.rep w cs x) (hh : DTable.HoldV x k k') (h0 : 1 ≤ k) (h1 : k' ≤ 1099511627776) :
    Calls Try.prog 31 #[.agg cs.toArray, .int .i64 k] w (Gives w fun r _ => r = .int .i64 k') := by
  have HP := Lib.hid (show ∀ W, Below w.heap.size w W → Rep.rep W cs x from fun W hb => Rep.mono h hb)
  obtain ⟨v0, v1, rfl, r0, r1, r2⟩ := DTable.rep_iff.1 h
  clear h HP
  obtain ⟨q0, e0, e1⟩ := hh
  have l0 := HoldL.le DProc.Hold_le e0
  have E0 := Lib.hid e0
  clear e0
  have l1 := HoldL.le DAsk.Hold_le e1
  have E1 := Lib.hid e1
  clear e1
  have R0 := Lib.hid r1
  clear r1
  have R1 := Lib.hid r2
  clear r2
  go_enter Try.func31, Try.ntmps31
  go_wp2_with fail
  refine (heldProcS_any _ v0 x.Live k q0 (R0.out.mono (show Below w.heap.size w _ from (by repeat (first | (with_reducible exact Below.refl _ _) | (with_reducible assumption) | (with_reducible refine bel_alloc ?_ _) | ((with_reducible refine bel_set ?_ ?_ _); rotate_left; (focus first | (simp; done) | (simp; omega))))))) E0.out (by omega) (by omega)).mono ?_
  rintro e W0 ⟨_, rfl, rfl, hb⟩
  have HB := Lib.hid (bel_next (show Below w.heap.size w _ from (by repeat (first | (with_reducible exact Below.refl _ _) | (with_reducible assumption) | (with_reducible refine bel_alloc ?_ _) | ((with_reducible refine bel_set ?_ ?_ _); rotate_left; (focus first | (simp; done) | (simp; omega)))))) hb)
  have hcb0 := bel_cell hb
  have HZ := Lib.hid (show w.heap.size < W0.heap.size from by have := hb.size; simp at this; omega)
  have hz0 := HZ.out
  clear hb
  go_wp2_with fail
  refine (heldAskS_any _ v1 x.Asked q0 k' (R1.out.mono HB.out) E1.out (by omega) (by omega)).mono ?_
  rintro e W1 ⟨_, rfl, rfl, hb⟩
  replace HB := Lib.hid (bel_next HB.out hb)
  have hcb1 := bel_cell hb
  replace HZ := Lib.hid (Nat.lt_of_lt_of_le HZ.out hb.size)
  have hz1 := HZ.out
  clear hb
  go_wp2_with fail
  go_ret
  exact ⟨_, rfl, rfl, HB.out⟩
end Go.Proofs.Ytnidoeapoknhdaa
