/- For every input the exact law of Look returns true: the program's function and the reference's give the same, the arguments are left as they were, and the result lies in memory of its own. -/
import Derived.Test.YtaobgfneeijpmaaRows
import Derived.Test.YtaobgfneeijpmaaFnLookLaws
import Derived.Test.YtaobgfneeijpmaaRead
import Derived.Test.YtaobgfneeijpmaaLawMark
import Derived.ProofKit
import Derived.OpenShut
import Derived.ShutString
import Derived.ChangeOld
set_option linter.unusedSimpArgs false
set_option linter.unusedVariables false
namespace Go.Proofs.Ytaobgfneeijpmaa
open Go.RowKit Go.Mux
open Go.ChangeShapes Go.WideShapes Go.ChangeAt
open Go.ChangeMaps (open_string shut_string)
set_option linter.unusedVariables false
theorem own_Look : ownKnob Try.prog.godebug = none := by kernel_rfl
theorem laidOut_Look : laidOutB Try.prog = true := by kernel_rfl
set_option maxRecDepth 100000 in
set_option maxHeartbeats 4000000 in
theorem law_Look (w : World) (cs0 : List Value) (x0 : DScr) (x1 : Int) (g0 : Rep.rep w cs0 x0) (g1 : I64 x1) :
    Calls Try.prog 4 #[.agg cs0.toArray, .int .i64 x1] w fun e w' => e = .returned (.bool true) ∧ Below w.heap.size w w' := by
  have Rp0 := Lib.hid g0
  clear g0
  have G1 := Lib.hid g1
  unfold I64 at g1
  obtain ⟨gl1, gh1⟩ := g1
  have X2 := Lib.hid (range_box w 48 cs0)
  have HB := Lib.hid (bel_alloc (Below.refl w.heap.size w) (.cells cs0.toArray 48))
  have Lp0 := Lib.hid (Rep.len Rp0.out)
  have ONEp0 := Lib.hid (Rep.one Rp0.out)
  have wl0 := DScr.wtV_le x0
  have wg0 := lookG_wt x0 x1
  go_enter Try.func4, Try.ntmps4
  go_wp2_with (first | ((with_reducible (show wpList _ _ _ (Oper.mk _ (Op.load 48 (Operand.tmp 2)) _ _ _ _ :: _) _ _)); refine wpList_load_box rfl 48 _ rfl _ _ rfl cs0 X2.out Try.underlying48 (by rw [Lp0.out]; exact size_lawsScr) ?_))
  refine (szScr_any _ cs0 x0 (1048576 : Int) (Rep.mono Rp0.out HB.out) (by omega) (by omega)).mono ?_
  rintro e W1 ⟨_, rfl, ⟨r, rfl, hr⟩, hb⟩
  have z1 := hb.size
  (try simp only [World.size_alloc, drew_size] at z1)
  replace HB := Lib.hid (bel_step HB.out hb)
  replace X2 := Lib.hid (range_step hb X2.out)
  clear hb
  rcases hr with ⟨rfl, hs1⟩ | ⟨rfl, hs1⟩
  · go_wp2_with fail
    go_ret
    exact ⟨rfl, HB.out⟩
  go_wp2_with (first | ((with_reducible (show wpList _ _ _ (Oper.mk _ (Op.load 48 (Operand.tmp 2)) _ _ _ _ :: _) _ _)); refine wpList_load_box rfl 48 _ rfl _ _ rfl cs0 X2.out Try.underlying48 (by rw [Lp0.out]; exact size_lawsScr) ?_))
  refine (toScr_any _ cs0 x0 (Rep.mono Rp0.out HB.out) (by omega)).mono ?_
  rintro e W2 ⟨_, rfl, ⟨cW2, rfl, hF⟩, hb⟩
  have z2 := hb.size
  (try simp only [World.size_alloc, drew_size] at z2)
  replace HB := Lib.hid (bel_step HB.out hb)
  replace X2 := Lib.hid (range_step hb X2.out)
  have Ro1 := Lib.hid hF.frIn
  have Lo1 := Lib.hid (Rep.len hF.rep)
  have ONEo1 := Lib.hid (Rep.one hF.rep)
  clear hF hb
  go_wp2_with (fail)
  refine (spec_Look _ cW2 x0 x1 Ro1.out.rep G1.out).mono ?_
  rintro e W3 ⟨_, rfl, ⟨cW3_0, rfl, hF0⟩, hb⟩
  have z3 := hb.size
  (try simp only [World.size_alloc, drew_size] at z3)
  replace HB := Lib.hid (bel_step HB.out hb)
  replace Ro1 := Lib.hid (FrIn.step hb Ro1.out)
  replace X2 := Lib.hid (range_step hb X2.out)
  have Ro2 := Lib.hid hF0
  have Co2 := Lib.hid (Below.refl W3.heap.size W3)
  have Lo2 := Lib.hid (Rep.len hF0)
  have ONEo2 := Lib.hid (Rep.one hF0)
  clear hF0
  clear hb
  go_wp2_with (first | ((with_reducible (show wpList _ _ _ (Oper.mk _ (Op.store 25 (Operand.tmp 6) _) _ _ _ _ :: _) _ _)); refine wpList_store_at rfl 25 _ _ rfl _ 0 rfl _ rfl cW3_0 rfl _ _ (heap_alloc_new _ _) (by rw [Lo2.out]; decide) ONEo2.out (by rw [Lo2.out]; exact size_implGrid) ?_; intro W4 hW; obtain ⟨hb, hX, hzz⟩ := store_new hW (by rw [Lo2.out]; rfl); clear hW; replace HB := Lib.hid (bel_step HB.out hb); replace Ro1 := Lib.hid (FrIn.step hb Ro1.out); replace Co2 := Lib.hid (bel_step Co2.out hb); replace X2 := Lib.hid (range_step hb X2.out); have X6 := Lib.hid hX; have z4 : W3.heap.size + 1 ≤ W4.heap.size := (by omega); clear hX hzz hb) | ((with_reducible (show wpList _ _ _ (Oper.mk _ (Op.load 48 (Operand.tmp 2)) _ _ _ _ :: _) _ _)); refine wpList_load_box rfl 48 _ rfl _ _ rfl cs0 X2.out Try.underlying48 (by rw [Lp0.out]; exact size_lawsScr) ?_))
  refine (toScr_any _ cs0 x0 (Rep.mono Rp0.out HB.out) (by omega)).mono ?_
  rintro e W5 ⟨_, rfl, ⟨cW5, rfl, hF⟩, hb⟩
  have z5 := hb.size
  (try simp only [World.size_alloc, drew_size] at z5)
  replace HB := Lib.hid (bel_step HB.out hb)
  replace Ro1 := Lib.hid (FrIn.step hb Ro1.out)
  replace Co2 := Lib.hid (bel_step Co2.out hb)
  replace X2 := Lib.hid (range_step hb X2.out)
  replace X6 := Lib.hid (range_step hb X6.out)
  have Ro3 := Lib.hid hF.frIn
  have Lo3 := Lib.hid (Rep.len hF.rep)
  have ONEo3 := Lib.hid (Rep.one hF.rep)
  clear hF hb
  go_wp2_with (first | ((with_reducible (show wpList _ _ _ (Oper.mk _ (Op.store 31 (Operand.tmp 7) _) _ _ _ _ :: _) _ _)); refine wpList_store_at rfl 31 _ _ rfl _ 0 rfl _ rfl cW5 rfl _ _ (heap_alloc_new _ _) (by rw [Lo3.out]; decide) ONEo3.out (by rw [Lo3.out]; exact size_implScr) ?_; intro W6 hW; obtain ⟨hb, hX, hzz⟩ := store_new hW (by rw [Lo3.out]; rfl); clear hW; replace HB := Lib.hid (bel_step HB.out hb); replace Ro1 := Lib.hid (FrIn.step hb Ro1.out); replace Co2 := Lib.hid (bel_step Co2.out hb); replace Ro3 := Lib.hid (FrIn.step hb Ro3.out); replace X2 := Lib.hid (range_step hb X2.out); replace X6 := Lib.hid (range_step hb X6.out); have X7 := Lib.hid hX; have z6 : W5.heap.size + 1 ≤ W6.heap.size := (by omega); clear hX hzz hb) | ((with_reducible (show wpList _ _ _ (Oper.mk _ (Op.load 31 (Operand.tmp 7)) _ _ _ _ :: _) _ _)); refine wpList_load_box rfl 31 _ rfl _ _ rfl cW5 X7.out Try.underlying31 (by rw [Lo3.out]; exact size_implScr) ?_))
  refine (impl_Look _ cW5 x0 x1 Ro3.out.rep G1.out).mono ?_
  rintro e W7 ⟨_, rfl, ⟨cW7_0, rfl, hF0⟩, hb⟩
  have z7 := hb.size
  (try simp only [World.size_alloc, drew_size] at z7)
  replace HB := Lib.hid (bel_step HB.out hb)
  replace Ro1 := Lib.hid (FrIn.step hb Ro1.out)
  replace Co2 := Lib.hid (bel_step Co2.out hb)
  replace Ro3 := Lib.hid (FrIn.step hb Ro3.out)
  replace X2 := Lib.hid (range_step hb X2.out)
  replace X6 := Lib.hid (range_step hb X6.out)
  replace X7 := Lib.hid (range_step hb X7.out)
  have Ro4 := Lib.hid hF0.frIn
  have Lo4 := Lib.hid (Rep.len hF0.rep)
  have ONEo4 := Lib.hid (Rep.one hF0.rep)
  clear hF0
  clear hb
  go_wp2_with (first | ((with_reducible (show wpList _ _ _ (Oper.mk _ (Op.store 25 (Operand.tmp 8) _) _ _ _ _ :: _) _ _)); refine wpList_store_at rfl 25 _ _ rfl _ 0 rfl _ rfl cW7_0 rfl _ _ (heap_alloc_new _ _) (by rw [Lo4.out]; decide) ONEo4.out (by rw [Lo4.out]; exact size_implGrid) ?_; intro W8 hW; obtain ⟨hb, hX, hzz⟩ := store_new hW (by rw [Lo4.out]; rfl); clear hW; replace HB := Lib.hid (bel_step HB.out hb); replace Ro1 := Lib.hid (FrIn.step hb Ro1.out); replace Co2 := Lib.hid (bel_step Co2.out hb); replace Ro3 := Lib.hid (FrIn.step hb Ro3.out); replace Ro4 := Lib.hid (FrIn.step hb Ro4.out); replace X2 := Lib.hid (range_step hb X2.out); replace X6 := Lib.hid (range_step hb X6.out); replace X7 := Lib.hid (range_step hb X7.out); have X8 := Lib.hid hX; have z8 : W7.heap.size + 1 ≤ W8.heap.size := (by omega); clear hX hzz hb) | ((with_reducible (show wpList _ _ _ (Oper.mk _ (Op.load 25 (Operand.tmp 8)) _ _ _ _ :: _) _ _)); refine wpList_load_box rfl 25 _ rfl _ _ rfl cW7_0 X8.out Try.underlying25 (by rw [Lo4.out]; exact size_implGrid) ?_) | ((with_reducible (show wpList _ _ _ (Oper.mk _ (Op.load 25 (Operand.tmp 6)) _ _ _ _ :: _) _ _)); refine wpList_load_box rfl 25 _ rfl _ _ rfl cW3_0 X6.out Try.underlying25 (by rw [Lo2.out]; exact size_implGrid) ?_))
  refine (eqGrid_refl _ cW7_0 cW3_0 (lookG x0 x1) Ro4.out.rep (Rep.mono Ro2.out Co2.out)).mono ?_
  rintro e W9 ⟨_, rfl, rfl, hb⟩
  have z9 := hb.size
  (try simp only [World.size_alloc, drew_size] at z9)
  replace HB := Lib.hid (bel_step HB.out hb)
  replace Ro1 := Lib.hid (FrIn.step hb Ro1.out)
  replace Co2 := Lib.hid (bel_step Co2.out hb)
  replace Ro3 := Lib.hid (FrIn.step hb Ro3.out)
  replace Ro4 := Lib.hid (FrIn.step hb Ro4.out)
  replace X2 := Lib.hid (range_step hb X2.out)
  replace X6 := Lib.hid (range_step hb X6.out)
  replace X7 := Lib.hid (range_step hb X7.out)
  replace X8 := Lib.hid (range_step hb X8.out)
  clear hb
  go_wp2_with (fail)
  refine wp_region_held_drew (S := fun w' => w'.rangeAt (W5.heap.size) 0 cW5 ∧ w'.rangeAt (w.heap.size) 0 cs0) (by kernel_rfl) ⟨X7.out, X2.out⟩ (fun hHeld => ?_)
  have hb := bel_drew W9
  obtain ⟨W10, hWd⟩ : ∃ W, W = W9.drew := ⟨_, rfl⟩
  rw [← hWd] at hHeld hb ⊢
  clear hWd
  have z10 := hb.size
  (try simp only [World.size_alloc, drew_size] at z10)
  replace HB := Lib.hid (bel_step HB.out hb)
  replace Ro1 := Lib.hid (FrIn.step hb Ro1.out)
  replace Co2 := Lib.hid (bel_step Co2.out hb)
  replace Ro3 := Lib.hid (FrIn.step hb Ro3.out)
  replace Ro4 := Lib.hid (FrIn.step hb Ro4.out)
  replace X2 := Lib.hid (range_step hb X2.out)
  replace X6 := Lib.hid (range_step hb X6.out)
  replace X7 := Lib.hid (range_step hb X7.out)
  replace X8 := Lib.hid (range_step hb X8.out)
  clear hb
  refine wpAnyH_take (i := 0) (v := .agg cW5.toArray) rfl (by kernel_rfl) (by kernel_rfl) (by kernel_rfl) (fun _ _ _ h => h) (yieldsIf_load_mid (by rfl) 31 _ rfl _ 0 rfl cW5 _ (fun _ h => h.1) Try.underlying31 rfl (by rw [Lo3.out]; exact size_implScr)) hHeld ?_
  simp only [Act.put, List.setIfInBounds_toArray, List.set_cons_zero, List.set_cons_succ]
  refine wpAnyH_take (i := 1) (v := .agg cs0.toArray) rfl (by kernel_rfl) (by kernel_rfl) (by kernel_rfl) (fun _ _ _ h => h) (yieldsIf_load_mid (by rfl) 48 _ rfl _ 0 rfl cs0 _ (fun _ h => h.2) Try.underlying48 rfl (by rw [Lp0.out]; exact size_lawsScr)) hHeld ?_
  simp only [Act.put, List.setIfInBounds_toArray, List.set_cons_zero, List.set_cons_succ]
  refine wpAnyH_ready (rs := [2]) (by kernel_rfl) (by simp) ?_
  refine AllReadyH.cons rfl (fun K hK => ?_) AllReadyH.nil
  go_simp
  refine (toScr_any _ cs0 x0 (Rep.mono Rp0.out HB.out) (by omega)).mono ?_
  rintro e W11 ⟨_, rfl, ⟨cW11, rfl, hF⟩, hb⟩
  have z11 := hb.size
  (try simp only [World.size_alloc, drew_size] at z11)
  replace HB := Lib.hid (bel_step HB.out hb)
  replace Ro1 := Lib.hid (FrIn.step hb Ro1.out)
  replace Co2 := Lib.hid (bel_step Co2.out hb)
  replace Ro3 := Lib.hid (FrIn.step hb Ro3.out)
  replace Ro4 := Lib.hid (FrIn.step hb Ro4.out)
  replace X2 := Lib.hid (range_step hb X2.out)
  replace X6 := Lib.hid (range_step hb X6.out)
  replace X7 := Lib.hid (range_step hb X7.out)
  replace X8 := Lib.hid (range_step hb X8.out)
  have Ro5 := Lib.hid hF.frIn
  have Lo5 := Lib.hid (Rep.len hF.rep)
  have ONEo5 := Lib.hid (Rep.one hF.rep)
  clear hF hb
  refine hK.out _ _ ⟨X7.out, X2.out⟩ (fun hHeld => ?_)
  clear hK K
  (try simp only [Act.put, List.setIfInBounds_toArray, List.set_cons_zero, List.set_cons_succ])
  refine wpAnyH_ready (rs := [3]) (by kernel_rfl) (by simp) ?_
  refine AllReadyH.cons rfl (fun K hK => ?_) AllReadyH.nil
  go_simp
  refine (eqScr_refl _ cW5 cW11 x0 Ro3.out.rep Ro5.out.rep).mono ?_
  rintro e W12 ⟨_, rfl, rfl, hb⟩
  have z12 := hb.size
  (try simp only [World.size_alloc, drew_size] at z12)
  replace HB := Lib.hid (bel_step HB.out hb)
  replace Ro1 := Lib.hid (FrIn.step hb Ro1.out)
  replace Co2 := Lib.hid (bel_step Co2.out hb)
  replace Ro3 := Lib.hid (FrIn.step hb Ro3.out)
  replace Ro4 := Lib.hid (FrIn.step hb Ro4.out)
  replace Ro5 := Lib.hid (FrIn.step hb Ro5.out)
  replace X2 := Lib.hid (range_step hb X2.out)
  replace X6 := Lib.hid (range_step hb X6.out)
  replace X7 := Lib.hid (range_step hb X7.out)
  replace X8 := Lib.hid (range_step hb X8.out)
  clear hb
  refine hK.out _ _ ⟨X7.out, X2.out⟩ (fun hHeld => ?_)
  clear hK K
  (try simp only [Act.put, List.setIfInBounds_toArray, List.set_cons_zero, List.set_cons_succ])
  refine wpAnyH_ready (rs := [4]) (by kernel_rfl) (by simp) ?_
  refine AllReadyH.cons rfl (fun K hK => ?_) AllReadyH.nil
  go_simp
  refine hK.out _ _ ⟨X7.out, X2.out⟩ (fun hHeld => ?_)
  clear hK K
  (try simp only [Act.put, List.setIfInBounds_toArray, List.set_cons_zero, List.set_cons_succ])
  refine wpAnyH_done (by kernel_rfl) ?_ _
  go_wp2_with (first | ((with_reducible (show wpList _ _ _ (Oper.mk _ (Op.load 31 (Operand.tmp 7)) _ _ _ _ :: _) _ _)); refine wpList_load_box rfl 31 _ rfl _ _ rfl cW5 X7.out Try.underlying31 (by rw [Lo3.out]; exact size_implScr) ?_))
  obtain ⟨fq, hwn, hnd, hbd⟩ := Ro3.out
  refine (markScr_any _ cW5 x0 (1 : Int) fq hwn hnd (by omega) (by omega)).mono ?_
  rintro e W13 ⟨kW13, yW13, rfl, hkW13, hlW13, ho, hH, hm⟩
  have hdW13 : decide (kW13 < 0) = false := decide_eq_false (by omega)
  have z13 := hm.size
  have hR : FrIn _ _ _ _ _ := ⟨fq, ho, hnd, hbd⟩
  clear Ro3 hwn ho
  replace HB := Lib.hid (Below.trans HB.out (hm.below HB.out.size (fun b hb => by have := (hbd b hb).1; omega)))
  replace Ro1 := Lib.hid (FrIn.marked hm hbd Ro1.out (by omega))
  replace Co2 := Lib.hid (Below.trans Co2.out (hm.below Co2.out.size (fun b hb => by have := (hbd b hb).1; omega)))
  replace Ro4 := Lib.hid (FrIn.marked hm hbd Ro4.out (by omega))
  replace Ro5 := Lib.hid (FrIn.marked hm hbd Ro5.out (by omega))
  replace X2 := Lib.hid (range_marked hm hbd X2.out (by omega))
  replace X6 := Lib.hid (range_marked hm hbd X6.out (by omega))
  replace X7 := Lib.hid (range_marked hm hbd X7.out (by omega))
  replace X8 := Lib.hid (range_marked hm hbd X8.out (by omega))
  have Ro3 := Lib.hid hR
  have MKo3 := Lib.hid hH
  clear hR hH hm hbd hnd
  go_wp2_with (first | ((with_reducible (show wpList _ _ _ (Oper.mk _ (Op.load 25 (Operand.tmp 8)) _ _ _ _ :: _) _ _)); refine wpList_load_box rfl 25 _ rfl _ _ rfl cW7_0 X8.out Try.underlying25 (by rw [Lo4.out]; exact size_implGrid) ?_) | ((with_reducible (show wpList _ _ _ (Oper.mk _ (Op.load 25 (Operand.tmp 6)) _ _ _ _ :: _) _ _)); refine wpList_load_box rfl 25 _ rfl _ _ rfl cW3_0 X6.out Try.underlying25 (by rw [Lo2.out]; exact size_implGrid) ?_))
  refine (eqGrid_refl _ cW7_0 cW3_0 (lookG x0 x1) Ro4.out.rep (Rep.mono Ro2.out Co2.out)).mono ?_
  rintro e W14 ⟨_, rfl, rfl, hb⟩
  have z14 := hb.size
  (try simp only [World.size_alloc, drew_size] at z14)
  replace HB := Lib.hid (bel_step HB.out hb)
  replace Ro1 := Lib.hid (FrIn.step hb Ro1.out)
  replace Co2 := Lib.hid (bel_step Co2.out hb)
  replace Ro4 := Lib.hid (FrIn.step hb Ro4.out)
  replace Ro5 := Lib.hid (FrIn.step hb Ro5.out)
  replace Ro3 := Lib.hid (FrIn.step hb Ro3.out)
  replace X2 := Lib.hid (range_step hb X2.out)
  replace X6 := Lib.hid (range_step hb X6.out)
  replace X7 := Lib.hid (range_step hb X7.out)
  replace X8 := Lib.hid (range_step hb X8.out)
  clear hb
  go_wp2_with (first | ((with_reducible (show wpList _ _ _ (Oper.mk _ (Op.load 25 (Operand.tmp 8)) _ _ _ _ :: _) _ _)); refine wpList_load_box rfl 25 _ rfl _ _ rfl cW7_0 X8.out Try.underlying25 (by rw [Lo4.out]; exact size_implGrid) ?_))
  obtain ⟨fq, hwn, hnd, hbd⟩ := Ro4.out
  refine (markGrid_any _ cW7_0 (lookG x0 x1) (1 : Int) fq hwn hnd (by omega) (by omega)).mono ?_
  rintro e W15 ⟨kW15, yW15, rfl, hkW15, hlW15, ho, hH, hm⟩
  have hdW15 : decide (kW15 < 0) = false := decide_eq_false (by omega)
  have z15 := hm.size
  have hR : FrIn _ _ _ _ _ := ⟨fq, ho, hnd, hbd⟩
  clear Ro4 hwn ho
  replace HB := Lib.hid (Below.trans HB.out (hm.below HB.out.size (fun b hb => by have := (hbd b hb).1; omega)))
  replace Ro1 := Lib.hid (FrIn.marked hm hbd Ro1.out (by omega))
  replace Co2 := Lib.hid (Below.trans Co2.out (hm.below Co2.out.size (fun b hb => by have := (hbd b hb).1; omega)))
  replace Ro5 := Lib.hid (FrIn.marked hm hbd Ro5.out (by omega))
  replace Ro3 := Lib.hid (FrIn.marked hm hbd Ro3.out (by omega))
  replace X2 := Lib.hid (range_marked hm hbd X2.out (by omega))
  replace X6 := Lib.hid (range_marked hm hbd X6.out (by omega))
  replace X7 := Lib.hid (range_marked hm hbd X7.out (by omega))
  replace X8 := Lib.hid (range_marked hm hbd X8.out (by omega))
  have Ro4 := Lib.hid hR
  have MKo4 := Lib.hid hH
  clear hR hH hm hbd hnd
  go_wp2_with (first | ((with_reducible (show wpList _ _ _ (Oper.mk _ (Op.load 25 (Operand.tmp 8)) _ _ _ _ :: _) _ _)); refine wpList_load_box rfl 25 _ rfl _ _ rfl cW7_0 X8.out Try.underlying25 (by rw [Lo4.out]; exact size_implGrid) ?_))
  refine (heldGrid_any _ cW7_0 yW15 (1 : Int) kW15 Ro4.out.rep MKo4.out (by omega) (by omega)).mono ?_
  rintro e W16 ⟨_, rfl, rfl, hb⟩
  have z16 := hb.size
  (try simp only [World.size_alloc, drew_size] at z16)
  replace HB := Lib.hid (bel_step HB.out hb)
  replace Ro1 := Lib.hid (FrIn.step hb Ro1.out)
  replace Co2 := Lib.hid (bel_step Co2.out hb)
  replace Ro5 := Lib.hid (FrIn.step hb Ro5.out)
  replace Ro3 := Lib.hid (FrIn.step hb Ro3.out)
  replace Ro4 := Lib.hid (FrIn.step hb Ro4.out)
  replace X2 := Lib.hid (range_step hb X2.out)
  replace X6 := Lib.hid (range_step hb X6.out)
  replace X7 := Lib.hid (range_step hb X7.out)
  replace X8 := Lib.hid (range_step hb X8.out)
  clear hb
  go_wp2_with (first | ((with_reducible (show wpList _ _ _ (Oper.mk _ (Op.load 48 (Operand.tmp 2)) _ _ _ _ :: _) _ _)); refine wpList_load_box rfl 48 _ rfl _ _ rfl cs0 X2.out Try.underlying48 (by rw [Lp0.out]; exact size_lawsScr) ?_))
  refine (toScr_any _ cs0 x0 (Rep.mono Rp0.out HB.out) (by omega)).mono ?_
  rintro e W17 ⟨_, rfl, ⟨cW17, rfl, hF⟩, hb⟩
  have z17 := hb.size
  (try simp only [World.size_alloc, drew_size] at z17)
  replace HB := Lib.hid (bel_step HB.out hb)
  replace Ro1 := Lib.hid (FrIn.step hb Ro1.out)
  replace Co2 := Lib.hid (bel_step Co2.out hb)
  replace Ro5 := Lib.hid (FrIn.step hb Ro5.out)
  replace Ro3 := Lib.hid (FrIn.step hb Ro3.out)
  replace Ro4 := Lib.hid (FrIn.step hb Ro4.out)
  replace X2 := Lib.hid (range_step hb X2.out)
  replace X6 := Lib.hid (range_step hb X6.out)
  replace X7 := Lib.hid (range_step hb X7.out)
  replace X8 := Lib.hid (range_step hb X8.out)
  have Ro6 := Lib.hid hF.frIn
  have Lo6 := Lib.hid (Rep.len hF.rep)
  have ONEo6 := Lib.hid (Rep.one hF.rep)
  clear hF hb
  go_wp2_with (fail)
  refine (impl_Look _ cW17 x0 x1 Ro6.out.rep G1.out).mono ?_
  rintro e W18 ⟨_, rfl, ⟨cW18_0, rfl, hF0⟩, hb⟩
  have z18 := hb.size
  (try simp only [World.size_alloc, drew_size] at z18)
  replace HB := Lib.hid (bel_step HB.out hb)
  replace Ro1 := Lib.hid (FrIn.step hb Ro1.out)
  replace Co2 := Lib.hid (bel_step Co2.out hb)
  replace Ro5 := Lib.hid (FrIn.step hb Ro5.out)
  replace Ro3 := Lib.hid (FrIn.step hb Ro3.out)
  replace Ro4 := Lib.hid (FrIn.step hb Ro4.out)
  replace Ro6 := Lib.hid (FrIn.step hb Ro6.out)
  replace X2 := Lib.hid (range_step hb X2.out)
  replace X6 := Lib.hid (range_step hb X6.out)
  replace X7 := Lib.hid (range_step hb X7.out)
  replace X8 := Lib.hid (range_step hb X8.out)
  have Ro7 := Lib.hid hF0.frIn
  have Lo7 := Lib.hid (Rep.len hF0.rep)
  have ONEo7 := Lib.hid (Rep.one hF0.rep)
  clear hF0
  clear hb
  go_wp2_with (first | ((with_reducible (show wpList _ _ _ (Oper.mk _ (Op.store 25 (Operand.tmp 12) _) _ _ _ _ :: _) _ _)); refine wpList_store_at rfl 25 _ _ rfl _ 0 rfl _ rfl cW18_0 rfl _ _ (heap_alloc_new _ _) (by rw [Lo7.out]; decide) ONEo7.out (by rw [Lo7.out]; exact size_implGrid) ?_; intro W19 hW; obtain ⟨hb, hX, hzz⟩ := store_new hW (by rw [Lo7.out]; rfl); clear hW; replace HB := Lib.hid (bel_step HB.out hb); replace Ro1 := Lib.hid (FrIn.step hb Ro1.out); replace Co2 := Lib.hid (bel_step Co2.out hb); replace Ro5 := Lib.hid (FrIn.step hb Ro5.out); replace Ro3 := Lib.hid (FrIn.step hb Ro3.out); replace Ro4 := Lib.hid (FrIn.step hb Ro4.out); replace Ro6 := Lib.hid (FrIn.step hb Ro6.out); replace Ro7 := Lib.hid (FrIn.step hb Ro7.out); replace X2 := Lib.hid (range_step hb X2.out); replace X6 := Lib.hid (range_step hb X6.out); replace X7 := Lib.hid (range_step hb X7.out); replace X8 := Lib.hid (range_step hb X8.out); have X12 := Lib.hid hX; have z19 : W18.heap.size + 1 ≤ W19.heap.size := (by omega); clear hX hzz hb) | ((with_reducible (show wpList _ _ _ (Oper.mk _ (Op.load 25 (Operand.tmp 12)) _ _ _ _ :: _) _ _)); refine wpList_load_box rfl 25 _ rfl _ _ rfl cW18_0 X12.out Try.underlying25 (by rw [Lo7.out]; exact size_implGrid) ?_) | ((with_reducible (show wpList _ _ _ (Oper.mk _ (Op.load 25 (Operand.tmp 6)) _ _ _ _ :: _) _ _)); refine wpList_load_box rfl 25 _ rfl _ _ rfl cW3_0 X6.out Try.underlying25 (by rw [Lo2.out]; exact size_implGrid) ?_))
  refine (eqGrid_refl _ cW18_0 cW3_0 (lookG x0 x1) Ro7.out.rep (Rep.mono Ro2.out Co2.out)).mono ?_
  rintro e W20 ⟨_, rfl, rfl, hb⟩
  have z20 := hb.size
  (try simp only [World.size_alloc, drew_size] at z20)
  replace HB := Lib.hid (bel_step HB.out hb)
  replace Ro1 := Lib.hid (FrIn.step hb Ro1.out)
  replace Co2 := Lib.hid (bel_step Co2.out hb)
  replace Ro5 := Lib.hid (FrIn.step hb Ro5.out)
  replace Ro3 := Lib.hid (FrIn.step hb Ro3.out)
  replace Ro4 := Lib.hid (FrIn.step hb Ro4.out)
  replace Ro6 := Lib.hid (FrIn.step hb Ro6.out)
  replace Ro7 := Lib.hid (FrIn.step hb Ro7.out)
  replace X2 := Lib.hid (range_step hb X2.out)
  replace X6 := Lib.hid (range_step hb X6.out)
  replace X7 := Lib.hid (range_step hb X7.out)
  replace X8 := Lib.hid (range_step hb X8.out)
  replace X12 := Lib.hid (range_step hb X12.out)
  clear hb
  go_wp2_with (first | ((with_reducible (show wpList _ _ _ (Oper.mk _ (Op.load 25 (Operand.tmp 8)) _ _ _ _ :: _) _ _)); refine wpList_load_box rfl 25 _ rfl _ _ rfl cW7_0 X8.out Try.underlying25 (by rw [Lo4.out]; exact size_implGrid) ?_))
  refine (heldGrid_any _ cW7_0 yW15 (1 : Int) kW15 Ro4.out.rep MKo4.out (by omega) (by omega)).mono ?_
  rintro e W21 ⟨_, rfl, rfl, hb⟩
  have z21 := hb.size
  (try simp only [World.size_alloc, drew_size] at z21)
  replace HB := Lib.hid (bel_step HB.out hb)
  replace Ro1 := Lib.hid (FrIn.step hb Ro1.out)
  replace Co2 := Lib.hid (bel_step Co2.out hb)
  replace Ro5 := Lib.hid (FrIn.step hb Ro5.out)
  replace Ro3 := Lib.hid (FrIn.step hb Ro3.out)
  replace Ro4 := Lib.hid (FrIn.step hb Ro4.out)
  replace Ro6 := Lib.hid (FrIn.step hb Ro6.out)
  replace Ro7 := Lib.hid (FrIn.step hb Ro7.out)
  replace X2 := Lib.hid (range_step hb X2.out)
  replace X6 := Lib.hid (range_step hb X6.out)
  replace X7 := Lib.hid (range_step hb X7.out)
  replace X8 := Lib.hid (range_step hb X8.out)
  replace X12 := Lib.hid (range_step hb X12.out)
  clear hb
  go_wp2_with (fail)
  go_ret
  exact ⟨rfl, HB.out⟩

set_option maxRecDepth 100000 in
theorem lifted_Look (os : Os) (started : os.Started) (H : Type) (enc : TypeId × Value → H) :
    ReturnsInHanded {} Try.checked os 4 .any (Rows.fnExactLookSpec.pre6 enc Try.prog Try.f4 Rows.fnExactLookRow.domain false) (Rows.fnExactLookSpec.post enc Try.prog Try.f4 false true false false) := by
  refine returnsInHanded_of_change (C := Try.checked) own_Look started (by kernel_rfl) Try.func4
    (ChangeSpec.witness6 (enc := enc) (C := Try.checked) false ⟨#[], #[.agg #[.int .i64 0, .int .i64 0, .int .i64 0, .int .i64 0, .slice none 0 0, .int .i64 0, .int .i64 0, .slice none 0 0, .bool false, .int .i64 0, .int .i64 0, .bool false, .int .i64 0, .int .i64 0, .bool false, .bool false, .bool false, .int .i64 0, .int .i64 0, .bool false, .bool false, .int .i64 0, .int .i64 0, .int .i64 0, .int .i64 0, .bool false, .bool false, .bool false, .slice none 0 0, .int .i64 0, .slice none 0 0], .int .i64 0], []⟩ 8 (by kernel_rfl) (by kernel_rfl) (by kernel_rfl) (by kernel_rfl)) ?_
  intro W base args ds gs before hval0 hW hcnd _
  have hval : ∀ (j : Nat) t v, Try.f4.params[j]? = some t → args[j]? = some v → Value.okWide Try.prog W .any base t v := hval0
  have hW' := hW
  obtain ⟨p, q, hA0, hV, rfl, hfz, hnd⟩ := hW
  have hA : DataW.TrodAll enc Try.prog W 0 (fun _ => true) true Try.f4.params.toList args.toList ds p := hA0
  rw [Try.params4] at hA hval
  obtain ⟨v0, vs0, d0, ds0, p0, q0, hargs, rfl, rfl, h0, r0⟩ := trodAll_cons hA
  obtain ⟨v1, vs1, d1, ds1, p1, q1, rfl, rfl, rfl, h1, r1⟩ := trodAll_cons r0
  obtain ⟨rfl, rfl, rfl⟩ := trodAll_nil r1
  obtain rfl : args = #[v0, v1] := by cases args; simp_all
  obtain ⟨rfl, rfl⟩ := trodVars_none hV
  have k0 := h0
  have lt0 : ∀ x ∈ p0, x.block < W.heap.size := by obtain ⟨m, hm⟩ := k0; exact DataW.trod_lt m _ _ _ hm
  obtain ⟨fuel0, hf0⟩ := h0
  obtain ⟨x0, y0⟩ := read_Scr _ _ _ _ _ _ _ _ _ hf0
  obtain ⟨as0, rfl, _⟩ := okWide_struct Try.underlying48 (hval 0 48 v0 rfl rfl)
  have y0' : Rep.rep W as0.toList x0 := by simpa [Value.cells] using y0
  have ea0 : Value.agg as0 = Value.agg as0.toList.toArray := by simp
  obtain ⟨x1, rfl, rfl, rfl, w1⟩ := open_int Try.underlying3 (hval 1 3 v1 rfl rfl) h1
  clear hA0 hval0
  have hw := law_Look W as0.toList x0 x1 y0' (wf_I64 w1)
  (try simp only [Array.toArray_toList] at hw)
  refine hw.mono fun e W' ⟨he, bel⟩ => ?_
  subst he
  exact ⟨_, rfl, _, _, _, [], _, [], hW', trodAll_mk1 (shut_bool Try.underlying4 _), (trodAll_cons_mk (Below.trod laidOut_Look (by kernel_rfl) (of_decide_eq_true (by kernel_rfl)) k0 bel lt0) (trodAll_cons_mk (shut_int Try.underlying3 w1) trodAll_mk0)), rfl, bel.frame _, fun h => by cases h⟩
theorem over_Look : Rows.fnExactLookRow.holds Try.pinned (OpenSpec.ofChange Rows.fnExactLookSpec) :=
  OpenClaim.holds_of_wide 4 Try.f4 rfl rfl rfl rfl rfl rfl rfl ⟨rfl, rfl, rfl, rfl, rfl⟩ rfl rfl rfl rfl rfl (by kernel_rfl) Try.func4 (by kernel_rfl)
    (of_decide_eq_true (by kernel_rfl)) (by unfold Func.isWrapper; first | (rw [if_pos (by decide +kernel)]; kernel_rfl) | (rw [if_neg (by decide +kernel)]; exact ⟨rfl, rfl⟩))
    (fun os started H enc _ => lifted_Look os started H enc)
theorem proved_Look : Rows.FnExactLookSaid := over_Look
#print axioms proved_Look
end Go.Proofs.Ytaobgfneeijpmaa
