/- For every input the exact law of Run returns true: the program's function and the reference's give the same, the arguments are left as they were, and the result lies in memory of its own. -/
import Derived.Test.YtokfhjcllloeeaaDoorRows
import Derived.Test.YtokfhjcllloeeaaDoorFnRunLaws
import Derived.Test.YtokfhjcllloeeaaDoorRead
import Derived.Test.YtokfhjcllloeeaaDoorLawMark
import Derived.Test.YtokfhjcllloeeaaDoorCards
import Derived.Test.YtokfhjcllloeeaaDoorTie
import Derived.WalkKit
import Derived.Deep.DeepHandedRow
import Derived.Lib.LaidTab
import Derived.Stop.LaidErr
import Derived.MakeChecks
import Derived.ProofKit
import Derived.OpenShut
import Derived.ShutString
import Derived.ChangeOld
set_option linter.unusedSimpArgs false
set_option linter.unusedVariables false
namespace Go.Proofs.YtokfhjcllloeeaaDoor
open Go.RowKit Go.Mux
open Go.ChangeShapes Go.WideShapes Go.ChangeAt
open Go.ChangeMaps (open_string shut_string)
set_option linter.unusedVariables false
theorem own_Run : ownKnob Tryd.prog.godebug = none := by kernel_rfl
theorem laidOut_Run : laidOutB Tryd.prog = true := by kernel_rfl
set_option maxRecDepth 100000 in
set_option maxHeartbeats 4000000 in
theorem law_Run (w : World) (cs0 : List Value) (x0 : DGrid) (x1 : Int) (x2 : Int) (x3 : Int) (g0 : Rep.rep w cs0 x0) (g1 : I64 x1) (g2 : I64 x2) (g3 : I64 x3) (ht : Tab Tryd.prog w) :
    Calls Tryd.prog 4 #[.agg cs0.toArray, .int .i64 x1, .int .i64 x2, .int .i64 x3] w fun e w' => e = .returned (.bool true) ∧ Below w.heap.size w w' := by
  have HT := Lib.hid ht
  clear ht
  have Rp0 := Lib.hid g0
  clear g0
  have G1 := Lib.hid g1
  unfold I64 at g1
  obtain ⟨gl1, gh1⟩ := g1
  have G2 := Lib.hid g2
  unfold I64 at g2
  obtain ⟨gl2, gh2⟩ := g2
  have G3 := Lib.hid g3
  unfold I64 at g3
  obtain ⟨gl3, gh3⟩ := g3
  have X4 := Lib.hid (range_box w 24 cs0)
  have HB := Lib.hid (bel_alloc (Below.refl w.heap.size w) (.cells cs0.toArray 24))
  have Lp0 := Lib.hid (Rep.len Rp0.out)
  have ONEp0 := Lib.hid (Rep.one Rp0.out)
  have wl0 := DGrid.wtV_le x0
  have wg0 := runOut_wt x0 x1 x2 x3
  go_enter Tryd.func4, Tryd.ntmps4
  go_wp2_with (first | ((with_reducible (show wpList _ _ _ (Oper.mk _ (Op.load 24 (Operand.tmp 4)) _ _ _ _ :: _) _ _)); refine wpList_load_box rfl 24 _ rfl _ _ rfl cs0 X4.out Tryd.underlying24 (by rw [Lp0.out]; exact size_lawsGrid) ?_))
  refine (szGrid_any _ cs0 x0 (1048576 : Int) (Rep.mono Rp0.out HB.out) (by omega) (by omega)).mono ?_
  rintro e W1 ⟨_, rfl, ⟨r, rfl, hr⟩, hb⟩
  have z1 := hb.size
  (try simp only [World.size_alloc, drew_size] at z1)
  replace HB := Lib.hid (bel_step HB.out hb)
  replace X4 := Lib.hid (range_step hb X4.out)
  clear hb
  rcases hr with ⟨rfl, hs1⟩ | ⟨rfl, hs1⟩
  · go_wp2_with fail
    go_ret
    exact ⟨rfl, HB.out⟩
  go_wp2_with (first | ((with_reducible (show wpList _ _ _ (Oper.mk _ (Op.load 24 (Operand.tmp 4)) _ _ _ _ :: _) _ _)); refine wpList_load_box rfl 24 _ rfl _ _ rfl cs0 X4.out Tryd.underlying24 (by rw [Lp0.out]; exact size_lawsGrid) ?_))
  refine (toGrid_any _ cs0 x0 (Rep.mono Rp0.out HB.out) (by omega)).mono ?_
  rintro e W2 ⟨_, rfl, ⟨cW2, rfl, hF⟩, hb⟩
  have z2 := hb.size
  (try simp only [World.size_alloc, drew_size] at z2)
  replace HB := Lib.hid (bel_step HB.out hb)
  replace X4 := Lib.hid (range_step hb X4.out)
  have Ro1 := Lib.hid hF.frIn
  have Lo1 := Lib.hid (Rep.len hF.rep)
  have ONEo1 := Lib.hid (Rep.one hF.rep)
  clear hF hb
  go_wp2_with (fail)
  refine (spec_Run _ cW2 x0 x1 x2 x3 Ro1.out.rep G1.out G2.out G3.out).mono ?_
  rintro e W3 ⟨vW3_0, rfl, hF0, hb⟩
  have z3 := hb.size
  (try simp only [World.size_alloc, drew_size] at z3)
  replace HB := Lib.hid (bel_step HB.out hb)
  replace Ro1 := Lib.hid (FrIn.step hb Ro1.out)
  replace X4 := Lib.hid (range_step hb X4.out)
  have Ro2 := Lib.hid hF0
  have Co2 := Lib.hid (Below.refl W3.heap.size W3)
  clear hF0
  clear hb
  go_wp2_with (first | ((with_reducible (show wpList _ _ _ (Oper.mk _ (Op.load 24 (Operand.tmp 4)) _ _ _ _ :: _) _ _)); refine wpList_load_box rfl 24 _ rfl _ _ rfl cs0 X4.out Tryd.underlying24 (by rw [Lp0.out]; exact size_lawsGrid) ?_))
  refine (toGrid_any _ cs0 x0 (Rep.mono Rp0.out HB.out) (by omega)).mono ?_
  rintro e W4 ⟨_, rfl, ⟨cW4, rfl, hF⟩, hb⟩
  have z4 := hb.size
  (try simp only [World.size_alloc, drew_size] at z4)
  replace HB := Lib.hid (bel_step HB.out hb)
  replace Ro1 := Lib.hid (FrIn.step hb Ro1.out)
  replace Co2 := Lib.hid (bel_step Co2.out hb)
  replace X4 := Lib.hid (range_step hb X4.out)
  have Ro3 := Lib.hid hF.frIn
  have Lo3 := Lib.hid (Rep.len hF.rep)
  have ONEo3 := Lib.hid (Rep.one hF.rep)
  clear hF hb
  go_wp2_with (first | ((with_reducible (show wpList _ _ _ (Oper.mk _ (Op.store 32 (Operand.tmp 11) _) _ _ _ _ :: _) _ _)); refine wpList_store_at rfl 32 _ _ rfl _ 0 rfl _ rfl cW4 rfl _ _ (heap_alloc_new _ _) (by rw [Lo3.out]; decide) ONEo3.out (by rw [Lo3.out]; exact size_implGrid) ?_; intro W5 hW; obtain ⟨hb, hX, hzz⟩ := store_new hW (by rw [Lo3.out]; rfl); clear hW; replace HB := Lib.hid (bel_step HB.out hb); replace Ro1 := Lib.hid (FrIn.step hb Ro1.out); replace Co2 := Lib.hid (bel_step Co2.out hb); replace Ro3 := Lib.hid (FrIn.step hb Ro3.out); replace X4 := Lib.hid (range_step hb X4.out); have X11 := Lib.hid hX; have z5 : W4.heap.size + 1 ≤ W5.heap.size := (by omega); clear hX hzz hb) | ((with_reducible (show wpList _ _ _ (Oper.mk _ (Op.load 32 (Operand.tmp 11)) _ _ _ _ :: _) _ _)); refine wpList_load_box rfl 32 _ rfl _ _ rfl cW4 X11.out Tryd.underlying32 (by rw [Lo3.out]; exact size_implGrid) ?_))
  refine (impl_Run _ cW4 x0 x1 x2 x3 Ro3.out.rep G1.out G2.out G3.out (HT.out.mono HB.out)).mono ?_
  rintro e W6 ⟨vW6_0, rfl, hF0, hb⟩
  have z6 := hb.size
  (try simp only [World.size_alloc, drew_size] at z6)
  replace HB := Lib.hid (bel_step HB.out hb)
  replace Ro1 := Lib.hid (FrIn.step hb Ro1.out)
  replace Co2 := Lib.hid (bel_step Co2.out hb)
  replace Ro3 := Lib.hid (FrIn.step hb Ro3.out)
  replace X4 := Lib.hid (range_step hb X4.out)
  replace X11 := Lib.hid (range_step hb X11.out)
  have Ro4 := Lib.hid hF0.frIn
  clear hF0
  clear hb
  go_wp2_with (fail)
  refine (eqByteS_refl _ vW6_0 vW3_0 (runOut x0 x1 x2 x3) Ro4.out.repS (RepS.mono Ro2.out Co2.out)).mono ?_
  rintro e W7 ⟨_, rfl, rfl, hb⟩
  have z7 := hb.size
  (try simp only [World.size_alloc, drew_size] at z7)
  replace HB := Lib.hid (bel_step HB.out hb)
  replace Ro1 := Lib.hid (FrIn.step hb Ro1.out)
  replace Co2 := Lib.hid (bel_step Co2.out hb)
  replace Ro3 := Lib.hid (FrIn.step hb Ro3.out)
  replace Ro4 := Lib.hid (FrIn.step hb Ro4.out)
  replace X4 := Lib.hid (range_step hb X4.out)
  replace X11 := Lib.hid (range_step hb X11.out)
  clear hb
  go_wp2_with (fail)
  refine wp_region_held_drew (S := fun w' => w'.rangeAt (W4.heap.size) 0 cW4 ∧ w'.rangeAt (w.heap.size) 0 cs0) (by kernel_rfl) ⟨X11.out, X4.out⟩ (fun hHeld => ?_)
  have hb := bel_drew W7
  obtain ⟨W8, hWd⟩ : ∃ W, W = W7.drew := ⟨_, rfl⟩
  rw [← hWd] at hHeld hb ⊢
  clear hWd
  have z8 := hb.size
  (try simp only [World.size_alloc, drew_size] at z8)
  replace HB := Lib.hid (bel_step HB.out hb)
  replace Ro1 := Lib.hid (FrIn.step hb Ro1.out)
  replace Co2 := Lib.hid (bel_step Co2.out hb)
  replace Ro3 := Lib.hid (FrIn.step hb Ro3.out)
  replace Ro4 := Lib.hid (FrIn.step hb Ro4.out)
  replace X4 := Lib.hid (range_step hb X4.out)
  replace X11 := Lib.hid (range_step hb X11.out)
  clear hb
  refine wpAnyH_take (i := 0) (v := .agg cW4.toArray) rfl (by kernel_rfl) (by kernel_rfl) (by kernel_rfl) (fun _ _ _ h => h) (yieldsIf_load_mid (by rfl) 32 _ rfl _ 0 rfl cW4 _ (fun _ h => h.1) Tryd.underlying32 rfl (by rw [Lo3.out]; exact size_implGrid)) hHeld ?_
  simp only [Act.put, List.setIfInBounds_toArray, List.set_cons_zero, List.set_cons_succ]
  refine wpAnyH_take (i := 1) (v := .agg cs0.toArray) rfl (by kernel_rfl) (by kernel_rfl) (by kernel_rfl) (fun _ _ _ h => h) (yieldsIf_load_mid (by rfl) 24 _ rfl _ 0 rfl cs0 _ (fun _ h => h.2) Tryd.underlying24 rfl (by rw [Lp0.out]; exact size_lawsGrid)) hHeld ?_
  simp only [Act.put, List.setIfInBounds_toArray, List.set_cons_zero, List.set_cons_succ]
  refine wpAnyH_ready (rs := [2]) (by kernel_rfl) (by simp) ?_
  refine AllReadyH.cons rfl (fun K hK => ?_) AllReadyH.nil
  go_simp
  refine (toGrid_any _ cs0 x0 (Rep.mono Rp0.out HB.out) (by omega)).mono ?_
  rintro e W9 ⟨_, rfl, ⟨cW9, rfl, hF⟩, hb⟩
  have z9 := hb.size
  (try simp only [World.size_alloc, drew_size] at z9)
  replace HB := Lib.hid (bel_step HB.out hb)
  replace Ro1 := Lib.hid (FrIn.step hb Ro1.out)
  replace Co2 := Lib.hid (bel_step Co2.out hb)
  replace Ro3 := Lib.hid (FrIn.step hb Ro3.out)
  replace Ro4 := Lib.hid (FrIn.step hb Ro4.out)
  replace X4 := Lib.hid (range_step hb X4.out)
  replace X11 := Lib.hid (range_step hb X11.out)
  have Ro5 := Lib.hid hF.frIn
  have Lo5 := Lib.hid (Rep.len hF.rep)
  have ONEo5 := Lib.hid (Rep.one hF.rep)
  clear hF hb
  refine hK.out _ _ ⟨X11.out, X4.out⟩ (fun hHeld => ?_)
  clear hK K
  (try simp only [Act.put, List.setIfInBounds_toArray, List.set_cons_zero, List.set_cons_succ])
  refine wpAnyH_ready (rs := [3]) (by kernel_rfl) (by simp) ?_
  refine AllReadyH.cons rfl (fun K hK => ?_) AllReadyH.nil
  go_simp
  refine (eqGrid_refl _ cW4 cW9 x0 Ro3.out.rep Ro5.out.rep).mono ?_
  rintro e W10 ⟨_, rfl, rfl, hb⟩
  have z10 := hb.size
  (try simp only [World.size_alloc, drew_size] at z10)
  replace HB := Lib.hid (bel_step HB.out hb)
  replace Ro1 := Lib.hid (FrIn.step hb Ro1.out)
  replace Co2 := Lib.hid (bel_step Co2.out hb)
  replace Ro3 := Lib.hid (FrIn.step hb Ro3.out)
  replace Ro4 := Lib.hid (FrIn.step hb Ro4.out)
  replace Ro5 := Lib.hid (FrIn.step hb Ro5.out)
  replace X4 := Lib.hid (range_step hb X4.out)
  replace X11 := Lib.hid (range_step hb X11.out)
  clear hb
  refine hK.out _ _ ⟨X11.out, X4.out⟩ (fun hHeld => ?_)
  clear hK K
  (try simp only [Act.put, List.setIfInBounds_toArray, List.set_cons_zero, List.set_cons_succ])
  refine wpAnyH_ready (rs := [4]) (by kernel_rfl) (by simp) ?_
  refine AllReadyH.cons rfl (fun K hK => ?_) AllReadyH.nil
  go_simp
  refine hK.out _ _ ⟨X11.out, X4.out⟩ (fun hHeld => ?_)
  clear hK K
  (try simp only [Act.put, List.setIfInBounds_toArray, List.set_cons_zero, List.set_cons_succ])
  refine wpAnyH_done (by kernel_rfl) ?_ _
  go_wp2_with (first | ((with_reducible (show wpList _ _ _ (Oper.mk _ (Op.load 32 (Operand.tmp 11)) _ _ _ _ :: _) _ _)); refine wpList_load_box rfl 32 _ rfl _ _ rfl cW4 X11.out Tryd.underlying32 (by rw [Lo3.out]; exact size_implGrid) ?_))
  obtain ⟨fq, hwn, hnd, hbd⟩ := Ro3.out
  refine (markGrid_any _ cW4 x0 (1 : Int) fq hwn hnd (by omega) (by omega)).mono ?_
  rintro e W11 ⟨kW11, yW11, rfl, hkW11, hlW11, ho, hH, hm⟩
  have hdW11 : decide (kW11 < 0) = false := decide_eq_false (by omega)
  have z11 := hm.size
  have hR : FrIn _ _ _ _ _ := ⟨fq, ho, hnd, hbd⟩
  clear Ro3 hwn ho
  replace HB := Lib.hid (Below.trans HB.out (hm.below HB.out.size (fun b hb => by have := (hbd b hb).1; omega)))
  replace Ro1 := Lib.hid (FrIn.marked hm hbd Ro1.out (by omega))
  replace Co2 := Lib.hid (Below.trans Co2.out (hm.below Co2.out.size (fun b hb => by have := (hbd b hb).1; omega)))
  replace Ro4 := Lib.hid (FrIn.marked hm hbd Ro4.out (by omega))
  replace Ro5 := Lib.hid (FrIn.marked hm hbd Ro5.out (by omega))
  replace X4 := Lib.hid (range_marked hm hbd X4.out (by omega))
  replace X11 := Lib.hid (range_marked hm hbd X11.out (by omega))
  have Ro3 := Lib.hid hR
  have MKo3 := Lib.hid hH
  clear hR hH hm hbd hnd
  go_wp2_with (fail)
  refine (eqByteS_refl _ vW6_0 vW3_0 (runOut x0 x1 x2 x3) Ro4.out.repS (RepS.mono Ro2.out Co2.out)).mono ?_
  rintro e W12 ⟨_, rfl, rfl, hb⟩
  have z12 := hb.size
  (try simp only [World.size_alloc, drew_size] at z12)
  replace HB := Lib.hid (bel_step HB.out hb)
  replace Ro1 := Lib.hid (FrIn.step hb Ro1.out)
  replace Co2 := Lib.hid (bel_step Co2.out hb)
  replace Ro4 := Lib.hid (FrIn.step hb Ro4.out)
  replace Ro5 := Lib.hid (FrIn.step hb Ro5.out)
  replace Ro3 := Lib.hid (FrIn.step hb Ro3.out)
  replace X4 := Lib.hid (range_step hb X4.out)
  replace X11 := Lib.hid (range_step hb X11.out)
  clear hb
  go_wp2_with (fail)
  obtain ⟨fq, hwn, hnd, hbd⟩ := Ro4.out
  refine (markByteS_any _ vW6_0 (runOut x0 x1 x2 x3) (1 : Int) fq (own_slice hwn) hnd (by omega) (by omega)).mono ?_
  rintro e W13 ⟨kW13, yW13, rfl, hkW13, hlW13, ho, hH, hm⟩
  have hdW13 : decide (kW13 < 0) = false := decide_eq_false (by omega)
  have z13 := hm.size
  have hR : FrIn _ _ _ _ _ := ⟨fq, ho, hnd, hbd⟩
  clear Ro4 hwn ho
  replace HB := Lib.hid (Below.trans HB.out (hm.below HB.out.size (fun b hb => by have := (hbd b hb).1; omega)))
  replace Ro1 := Lib.hid (FrIn.marked hm hbd Ro1.out (by omega))
  replace Co2 := Lib.hid (Below.trans Co2.out (hm.below Co2.out.size (fun b hb => by have := (hbd b hb).1; omega)))
  replace Ro5 := Lib.hid (FrIn.marked hm hbd Ro5.out (by omega))
  replace Ro3 := Lib.hid (FrIn.marked hm hbd Ro3.out (by omega))
  replace X4 := Lib.hid (range_marked hm hbd X4.out (by omega))
  replace X11 := Lib.hid (range_marked hm hbd X11.out (by omega))
  have Ro4 := Lib.hid hR
  have MKo4 := Lib.hid hH
  clear hR hH hm hbd hnd
  go_wp2_with (fail)
  refine (heldByteS_any _ vW6_0 yW13 (1 : Int) kW13 Ro4.out.repS MKo4.out (by omega) (by omega)).mono ?_
  rintro e W14 ⟨_, rfl, rfl, hb⟩
  have z14 := hb.size
  (try simp only [World.size_alloc, drew_size] at z14)
  replace HB := Lib.hid (bel_step HB.out hb)
  replace Ro1 := Lib.hid (FrIn.step hb Ro1.out)
  replace Co2 := Lib.hid (bel_step Co2.out hb)
  replace Ro5 := Lib.hid (FrIn.step hb Ro5.out)
  replace Ro3 := Lib.hid (FrIn.step hb Ro3.out)
  replace Ro4 := Lib.hid (FrIn.step hb Ro4.out)
  replace X4 := Lib.hid (range_step hb X4.out)
  replace X11 := Lib.hid (range_step hb X11.out)
  clear hb
  go_wp2_with (first | ((with_reducible (show wpList _ _ _ (Oper.mk _ (Op.load 24 (Operand.tmp 4)) _ _ _ _ :: _) _ _)); refine wpList_load_box rfl 24 _ rfl _ _ rfl cs0 X4.out Tryd.underlying24 (by rw [Lp0.out]; exact size_lawsGrid) ?_))
  refine (toGrid_any _ cs0 x0 (Rep.mono Rp0.out HB.out) (by omega)).mono ?_
  rintro e W15 ⟨_, rfl, ⟨cW15, rfl, hF⟩, hb⟩
  have z15 := hb.size
  (try simp only [World.size_alloc, drew_size] at z15)
  replace HB := Lib.hid (bel_step HB.out hb)
  replace Ro1 := Lib.hid (FrIn.step hb Ro1.out)
  replace Co2 := Lib.hid (bel_step Co2.out hb)
  replace Ro5 := Lib.hid (FrIn.step hb Ro5.out)
  replace Ro3 := Lib.hid (FrIn.step hb Ro3.out)
  replace Ro4 := Lib.hid (FrIn.step hb Ro4.out)
  replace X4 := Lib.hid (range_step hb X4.out)
  replace X11 := Lib.hid (range_step hb X11.out)
  have Ro6 := Lib.hid hF.frIn
  have Lo6 := Lib.hid (Rep.len hF.rep)
  have ONEo6 := Lib.hid (Rep.one hF.rep)
  clear hF hb
  go_wp2_with (fail)
  refine (impl_Run _ cW15 x0 x1 x2 x3 Ro6.out.rep G1.out G2.out G3.out (HT.out.mono HB.out)).mono ?_
  rintro e W16 ⟨vW16_0, rfl, hF0, hb⟩
  have z16 := hb.size
  (try simp only [World.size_alloc, drew_size] at z16)
  replace HB := Lib.hid (bel_step HB.out hb)
  replace Ro1 := Lib.hid (FrIn.step hb Ro1.out)
  replace Co2 := Lib.hid (bel_step Co2.out hb)
  replace Ro5 := Lib.hid (FrIn.step hb Ro5.out)
  replace Ro3 := Lib.hid (FrIn.step hb Ro3.out)
  replace Ro4 := Lib.hid (FrIn.step hb Ro4.out)
  replace Ro6 := Lib.hid (FrIn.step hb Ro6.out)
  replace X4 := Lib.hid (range_step hb X4.out)
  replace X11 := Lib.hid (range_step hb X11.out)
  have Ro7 := Lib.hid hF0.frIn
  clear hF0
  clear hb
  go_wp2_with (fail)
  refine (eqByteS_refl _ vW16_0 vW3_0 (runOut x0 x1 x2 x3) Ro7.out.repS (RepS.mono Ro2.out Co2.out)).mono ?_
  rintro e W17 ⟨_, rfl, rfl, hb⟩
  have z17 := hb.size
  (try simp only [World.size_alloc, drew_size] at z17)
  replace HB := Lib.hid (bel_step HB.out hb)
  replace Ro1 := Lib.hid (FrIn.step hb Ro1.out)
  replace Co2 := Lib.hid (bel_step Co2.out hb)
  replace Ro5 := Lib.hid (FrIn.step hb Ro5.out)
  replace Ro3 := Lib.hid (FrIn.step hb Ro3.out)
  replace Ro4 := Lib.hid (FrIn.step hb Ro4.out)
  replace Ro6 := Lib.hid (FrIn.step hb Ro6.out)
  replace Ro7 := Lib.hid (FrIn.step hb Ro7.out)
  replace X4 := Lib.hid (range_step hb X4.out)
  replace X11 := Lib.hid (range_step hb X11.out)
  clear hb
  go_wp2_with (fail)
  refine (heldByteS_any _ vW6_0 yW13 (1 : Int) kW13 Ro4.out.repS MKo4.out (by omega) (by omega)).mono ?_
  rintro e W18 ⟨_, rfl, rfl, hb⟩
  have z18 := hb.size
  (try simp only [World.size_alloc, drew_size] at z18)
  replace HB := Lib.hid (bel_step HB.out hb)
  replace Ro1 := Lib.hid (FrIn.step hb Ro1.out)
  replace Co2 := Lib.hid (bel_step Co2.out hb)
  replace Ro5 := Lib.hid (FrIn.step hb Ro5.out)
  replace Ro3 := Lib.hid (FrIn.step hb Ro3.out)
  replace Ro4 := Lib.hid (FrIn.step hb Ro4.out)
  replace Ro6 := Lib.hid (FrIn.step hb Ro6.out)
  replace Ro7 := Lib.hid (FrIn.step hb Ro7.out)
  replace X4 := Lib.hid (range_step hb X4.out)
  replace X11 := Lib.hid (range_step hb X11.out)
  clear hb
  go_wp2_with (fail)
  go_ret
  exact ⟨rfl, HB.out⟩

/-- What the row's list gives: the table of powers of ten. -/
theorem table_Run {W : World} (h : laidMetH Tryd.prog Rows.fnExactRunRow.laid W) : Tab Tryd.prog W := by
  rw [Go.MakeChecks.laidMetH_plain _ _ _ (by kernel_rfl)] at h
  have h2 : laidMet Tryd.prog [("internal/strconv.uint64pow10", Lib.tabData .u64 Lib.pow10Tab)] W := (show laidMet Tryd.prog (_ :: _ :: ("internal/strconv.uint64pow10", Lib.tabData .u64 Lib.pow10Tab) :: []) W from h).tail.tail
  exact Lib.tabIs_of_head (rest := []) (g := 1) (t := 154) (e := 145) (n := 20) (by kernel_rfl) (by kernel_rfl) (by kernel_rfl) (by kernel_rfl) (by kernel_rfl) (by kernel_rfl) h2
/-- The cells that a listed datum of numbers stands for. -/
def put_Run (d : DataW Unit) : Obj → Obj
  | .cells _ t frozen => .cells (match d with | .agg l => (l.map fun | .lit (.int k n) => Value.int k n | _ => undef).toArray | _ => #[]) t frozen
  | o => o
noncomputable def laidWorld_Run (os : Os) : World :=
  { World.holding Tryd.prog os ⟨#[], #[], []⟩ with heap := ((((World.holding Tryd.prog os ⟨#[], #[], []⟩).heap.modify 2 (put_Run Rows.laid_math_bits_deBruijn32tab)).modify 3 (put_Run Rows.laid_math_bits_deBruijn64tab)).modify 1 (put_Run Rows.laid_internal_strconv_uint64pow10)) }
theorem laid_met_Run (os : Os) : laidMet Tryd.prog Rows.fnExactRunRow.laid ((laidWorld_Run os).forCall (fun _ _ => 0) ⟨#[], #[.agg #[.int .i64 0, .int .i64 0, .slice none 0 0], .int .i64 0, .int .i64 0, .int .i64 0], []⟩).memory :=
  laidMet_of_run' 8 (by kernel_rfl) (by kernel_rfl)
theorem reads_Run (os : Os) {H : Type} (enc : TypeId × Value → H) : ∃ places, DataW.whole enc Tryd.prog ((laidWorld_Run os).forCall (fun _ _ => 0) ⟨#[], #[.agg #[.int .i64 0, .int .i64 0, .slice none 0 0], .int .i64 0, .int .i64 0, .int .i64 0], []⟩).memory Tryd.f4.params.toList Rows.fnExactRunSpec.vars false (#[.agg #[.int .i64 0, .int .i64 0, .slice none 0 0], .int .i64 0, .int .i64 0, .int .i64 0] : Array Value).toList 8 = some ([.agg [.lit (.int .i64 0), .lit (.int .i64 0), .nil], .lit (.int .i64 0), .lit (.int .i64 0), .lit (.int .i64 0)], [], places) :=
  ⟨[], by kernel_rfl⟩
set_option maxRecDepth 100000 in
theorem lifted_Run (os : Os) (started : os.Started) (H : Type) (enc : TypeId × Value → H) (F : Stop.Interp) :
    ReturnsInHanded {} Tryd.checked os 4 .any ((OpenSpec.ofChange Rows.fnExactRunSpec).preRow enc Tryd.prog Tryd.f4 Rows.fnExactRunRow.domain false Rows.fnExactRunRow.laid) (((OpenSpec.ofChange Rows.fnExactRunSpec).at F).post enc Tryd.prog Tryd.f4 false true false false) := by
  obtain ⟨places, hx⟩ := reads_Run os enc
  refine returnsInHanded_of_row (C := Tryd.checked) (s := OpenSpec.ofChange Rows.fnExactRunSpec) own_Run started (by kernel_rfl) Tryd.func4
    (witness_row_at (enc := enc) (C := Tryd.checked) false (laidWorld_Run os) #[.agg #[.int .i64 0, .int .i64 0, .slice none 0 0], .int .i64 0, .int .i64 0, .int .i64 0] rfl (by kernel_rfl) (by kernel_rfl) (by kernel_rfl)
      (OpenSpec.preRow_of_cond 8 hx (by kernel_rfl) (fun k hk => by cases hk) (by kernel_rfl) (laid_met_Run os))) ?_
  intro W base args ds gs before hval0 hW hcnd _ _ hL _ _
  have hval : ∀ (j : Nat) t v, Tryd.f4.params[j]? = some t → args[j]? = some v → Value.okWide Tryd.prog W .any base t v := hval0
  have hW' := hW
  obtain ⟨p, q, hA0, hV, rfl, hfz, hnd⟩ := hW
  have hA : DataW.TrodAll enc Tryd.prog W 0 (fun _ => true) true Tryd.f4.params.toList args.toList ds p := hA0
  rw [Tryd.params4] at hA hval
  obtain ⟨v0, vs0, d0, ds0, p0, q0, hargs, rfl, rfl, h0, r0⟩ := trodAll_cons hA
  obtain ⟨v1, vs1, d1, ds1, p1, q1, rfl, rfl, rfl, h1, r1⟩ := trodAll_cons r0
  obtain ⟨v2, vs2, d2, ds2, p2, q2, rfl, rfl, rfl, h2, r2⟩ := trodAll_cons r1
  obtain ⟨v3, vs3, d3, ds3, p3, q3, rfl, rfl, rfl, h3, r3⟩ := trodAll_cons r2
  obtain ⟨rfl, rfl, rfl⟩ := trodAll_nil r3
  obtain rfl : args = #[v0, v1, v2, v3] := by cases args; simp_all
  obtain ⟨rfl, rfl⟩ := trodVars_none hV
  have k0 := h0
  have lt0 : ∀ x ∈ p0, x.block < W.heap.size := by obtain ⟨m, hm⟩ := k0; exact DataW.trod_lt m _ _ _ hm
  obtain ⟨fuel0, hf0⟩ := h0
  obtain ⟨x0, y0⟩ := read_Grid _ _ _ _ _ _ _ _ _ hf0
  obtain ⟨as0, rfl, _⟩ := okWide_struct Tryd.underlying24 (hval 0 24 v0 rfl rfl)
  have y0' : Rep.rep W as0.toList x0 := by simpa [Value.cells] using y0
  have ea0 : Value.agg as0 = Value.agg as0.toList.toArray := by simp
  obtain ⟨x1, rfl, rfl, rfl, w1⟩ := open_int Tryd.underlying3 (hval 1 3 v1 rfl rfl) h1
  obtain ⟨x2, rfl, rfl, rfl, w2⟩ := open_int Tryd.underlying3 (hval 2 3 v2 rfl rfl) h2
  obtain ⟨x3, rfl, rfl, rfl, w3⟩ := open_int Tryd.underlying3 (hval 3 3 v3 rfl rfl) h3
  clear hA0 hval0
  have hw := law_Run W as0.toList x0 x1 x2 x3 y0' (wf_I64 w1) (wf_I64 w2) (wf_I64 w3) (table_Run hL)
  (try simp only [Array.toArray_toList] at hw)
  refine hw.mono fun e W' ⟨he, bel⟩ => ?_
  subst he
  exact ⟨_, rfl, _, _, _, [], _, [], hW', trodAll_mk1 (shut_bool Tryd.underlying4 _), (trodAll_cons_mk (Below.trod laidOut_Run (by kernel_rfl) (of_decide_eq_true (by kernel_rfl)) k0 bel lt0) (trodAll_cons_mk (shut_int Tryd.underlying3 w1) (trodAll_cons_mk (shut_int Tryd.underlying3 w2) (trodAll_cons_mk (shut_int Tryd.underlying3 w3) trodAll_mk0)))), rfl, bel.frame _, fun h => by cases h⟩
theorem said_Run : Rows.FnExactRunSaid :=
  OpenClaim.holds_of_cond 4 Tryd.f4 rfl rfl rfl rfl rfl rfl rfl ⟨rfl, rfl, rfl, rfl, rfl⟩ rfl rfl rfl rfl rfl (by kernel_rfl) Tryd.func4 (by kernel_rfl)
    (of_decide_eq_true (by kernel_rfl)) (by unfold Func.isWrapper; first | (rw [if_pos (by decide +kernel)]; kernel_rfl) | (rw [if_neg (by decide +kernel)]; exact ⟨rfl, rfl⟩))
    (fun os started H enc _ F => by rw [OpenClaim.pre_eq_preRow]; exact lifted_Run os started H enc F)
theorem plain_Run (f : FuncId) (fn : Func) (hf : Tryd.pinned.checked.prog.funcNamed "loop.example/g00661/laws.FnExactRun" = some f) (hfn : Tryd.pinned.checked.prog.funcs[f]? = some fn) :
    false = Tryd.pinned.checked.prog.looks [] ∧ ∀ (j : Nat) t, fn.params[j]? = some t → Tryd.pinned.checked.prog.wantsStandIn t = false := by
  obtain rfl : f = 4 := Option.some.inj ((show Tryd.prog.funcNamed "loop.example/g00661/laws.FnExactRun" = some 4 by kernel_rfl).symm.trans hf) |>.symm
  obtain rfl : fn = Tryd.f4 := (Option.some.inj (Tryd.func4.symm.trans hfn)).symm
  refine ⟨by kernel_rfl, fun j t ht => ?_⟩
  rw [Tryd.params4] at ht
  have hm : t ∈ ([24, 3, 3, 3] : List Nat) := by simpa using Array.mem_of_getElem? ht
  have ha := List.all_eq_true.1 (show (([24, 3, 3, 3] : List Nat).all fun t => !Tryd.prog.wantsStandIn t) = true by kernel_rfl) t hm
  have hb : (!Tryd.prog.wantsStandIn t) = true := ha
  show Tryd.prog.wantsStandIn t = false
  cases hq : Tryd.prog.wantsStandIn t
  · rfl
  · rw [hq] at hb; cases hb
theorem proved_Run : Rows.FnExactRunCardSaid :=
  Claim7.holds_tied_plain_at .later [] _ _ _ _ said_Run (fun _ h => by cases h) (by kernel_rfl) (fun _ h => by cases h) fnExactRun_row_tie rfl ⟨rfl, rfl⟩ (by kernel_rfl) rfl plain_Run (by kernel_rfl)
#print axioms proved_Run
end Go.Proofs.YtokfhjcllloeeaaDoor
