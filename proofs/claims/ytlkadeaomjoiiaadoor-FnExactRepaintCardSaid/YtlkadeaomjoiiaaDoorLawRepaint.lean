/- For every input the exact law of Repaint returns true: the program's function and the reference's give the same, the arguments are left as they were, and the result lies in memory of its own. -/
import Derived.Test.YtlkadeaomjoiiaaDoorRows
import Derived.Test.YtlkadeaomjoiiaaDoorFnRepLaws
import Derived.Test.YtlkadeaomjoiiaaDoorRead
import Derived.Test.YtlkadeaomjoiiaaDoorLawMark
import Derived.Test.YtlkadeaomjoiiaaDoorCards
import Derived.Test.YtlkadeaomjoiiaaDoorTie
import Derived.WalkKit
import Derived.Deep.DeepHandedRow
import Derived.Lib.LaidTab
import Derived.Stop.LaidErr
import Derived.MakeChecks
import Derived.ProofKit
import Derived.OpenShut
import Derived.ShutString
import Derived.ChangeOld
set_option linter.unusedSimpArgs false
set_option linter.unusedVariables false
namespace Go.Proofs.YtlkadeaomjoiiaaDoor
open Go.RowKit Go.Mux
open Go.ChangeShapes Go.WideShapes Go.ChangeAt
open Go.ChangeMaps (open_string shut_string)
set_option linter.unusedVariables false
theorem own_Repaint : ownKnob Tryd.prog.godebug = none := by kernel_rfl
theorem laidOut_Repaint : laidOutB Tryd.prog = true := by kernel_rfl
set_option maxRecDepth 100000 in
set_option maxHeartbeats 4000000 in
theorem law_Repaint (w : World) (cs0 : List Value) (x0 : DView) (cs1 : List Value) (x1 : DView) (g0 : Rep.rep w cs0 x0) (g1 : Rep.rep w cs1 x1) (ht : Tab Tryd.prog w) :
    Calls Tryd.prog 4 #[.agg cs0.toArray, .agg cs1.toArray] w fun e w' => e = .returned (.bool true) ∧ Below w.heap.size w w' := by
  have HT := Lib.hid ht
  clear ht
  have Rp0 := Lib.hid g0
  clear g0
  have Rp1 := Lib.hid g1
  clear g1
  have X2 := Lib.hid (range_alloc (.cells cs1.toArray 26) (range_box w 26 cs0))
  have X3 := Lib.hid (range_box (w.alloc (.cells cs0.toArray 26)) 26 cs1)
  simp only [World.size_alloc] at X3
  have HB := Lib.hid (bel_alloc (bel_alloc (Below.refl w.heap.size w) (.cells cs0.toArray 26)) (.cells cs1.toArray 26))
  have Lp0 := Lib.hid (Rep.len Rp0.out)
  have ONEp0 := Lib.hid (Rep.one Rp0.out)
  have Lp1 := Lib.hid (Rep.len Rp1.out)
  have ONEp1 := Lib.hid (Rep.one Rp1.out)
  have wl0 := DView.wtV_le x0
  have wl1 := DView.wtV_le x1
  have wg0 := repaint_wt x0 x1
  go_enter Tryd.func4, Tryd.ntmps4
  go_wp2_with (first | ((with_reducible (show wpList _ _ _ (Oper.mk _ (Op.load 26 (Operand.tmp 2)) _ _ _ _ :: _) _ _)); refine wpList_load_box rfl 26 _ rfl _ _ rfl cs0 X2.out Tryd.underlying26 (by rw [Lp0.out]; exact size_lawsView) ?_))
  refine (szView_any _ cs0 x0 (1048576 : Int) (Rep.mono Rp0.out HB.out) (by omega) (by omega)).mono ?_
  rintro e W1 ⟨_, rfl, ⟨r, rfl, hr⟩, hb⟩
  have z1 := hb.size
  (try simp only [World.size_alloc, drew_size] at z1)
  replace HB := Lib.hid (bel_step HB.out hb)
  replace X2 := Lib.hid (range_step hb X2.out)
  replace X3 := Lib.hid (range_step hb X3.out)
  clear hb
  rcases hr with ⟨rfl, hs1⟩ | ⟨rfl, hs1⟩
  · go_wp2_with fail
    go_ret
    exact ⟨rfl, HB.out⟩
  go_wp2_with (first | ((with_reducible (show wpList _ _ _ (Oper.mk _ (Op.load 26 (Operand.tmp 3)) _ _ _ _ :: _) _ _)); refine wpList_load_box rfl 26 _ rfl _ _ rfl cs1 X3.out Tryd.underlying26 (by rw [Lp1.out]; exact size_lawsView) ?_))
  refine (szView_any _ cs1 x1 ((1048576 : Int) - ((x0.bulk : Nat) : Int)) (Rep.mono Rp1.out HB.out) (by omega) (by omega)).mono ?_
  rintro e W2 ⟨_, rfl, ⟨r, rfl, hr⟩, hb⟩
  have z2 := hb.size
  (try simp only [World.size_alloc, drew_size] at z2)
  replace HB := Lib.hid (bel_step HB.out hb)
  replace X2 := Lib.hid (range_step hb X2.out)
  replace X3 := Lib.hid (range_step hb X3.out)
  clear hb
  rcases hr with ⟨rfl, hs2⟩ | ⟨rfl, hs2⟩
  · go_wp2_with fail
    go_ret
    exact ⟨rfl, HB.out⟩
  go_wp2_with (fail)
  refine wp_region_held_drew (S := fun w' => w'.rangeAt (w.heap.size) 0 cs0 ∧ w'.rangeAt (w.heap.size + 1) 0 cs1) (by kernel_rfl) ⟨X2.out, X3.out⟩ (fun hHeld => ?_)
  have hb := bel_drew W2
  obtain ⟨W3, hWd⟩ : ∃ W, W = W2.drew := ⟨_, rfl⟩
  rw [← hWd] at hHeld hb ⊢
  clear hWd
  have z3 := hb.size
  (try simp only [World.size_alloc, drew_size] at z3)
  replace HB := Lib.hid (bel_step HB.out hb)
  replace X2 := Lib.hid (range_step hb X2.out)
  replace X3 := Lib.hid (range_step hb X3.out)
  clear hb
  refine wpAnyH_take (i := 0) (v := .agg cs0.toArray) rfl (by kernel_rfl) (by kernel_rfl) (by kernel_rfl) (fun _ _ _ h => h) (yieldsIf_load_mid (by rfl) 26 _ rfl _ 0 rfl cs0 _ (fun _ h => h.1) Tryd.underlying26 rfl (by rw [Lp0.out]; exact size_lawsView)) hHeld ?_
  simp only [Act.put, List.setIfInBounds_toArray, List.set_cons_zero, List.set_cons_succ]
  refine wpAnyH_take (i := 2) (v := .agg cs1.toArray) rfl (by kernel_rfl) (by kernel_rfl) (by kernel_rfl) (fun _ _ _ h => h) (yieldsIf_load_mid (by rfl) 26 _ rfl _ 0 rfl cs1 _ (fun _ h => h.2) Tryd.underlying26 rfl (by rw [Lp1.out]; exact size_lawsView)) hHeld ?_
  simp only [Act.put, List.setIfInBounds_toArray, List.set_cons_zero, List.set_cons_succ]
  refine wpAnyH_ready (rs := [1]) (by kernel_rfl) (by simp) ?_
  refine AllReadyH.cons rfl (fun K hK => ?_) AllReadyH.nil
  go_simp
  refine (toView_any _ cs0 x0 (Rep.mono Rp0.out HB.out) (by omega)).mono ?_
  rintro e W4 ⟨_, rfl, ⟨cW4, rfl, hF⟩, hb⟩
  have z4 := hb.size
  (try simp only [World.size_alloc, drew_size] at z4)
  replace HB := Lib.hid (bel_step HB.out hb)
  replace X2 := Lib.hid (range_step hb X2.out)
  replace X3 := Lib.hid (range_step hb X3.out)
  have Ro1 := Lib.hid hF.frIn
  have Lo1 := Lib.hid (Rep.len hF.rep)
  have ONEo1 := Lib.hid (Rep.one hF.rep)
  clear hF hb
  refine hK.out _ _ ⟨X2.out, X3.out⟩ (fun hHeld => ?_)
  clear hK K
  (try simp only [Act.put, List.setIfInBounds_toArray, List.set_cons_zero, List.set_cons_succ])
  refine wpAnyH_ready (rs := [3]) (by kernel_rfl) (by simp) ?_
  refine AllReadyH.cons rfl (fun K hK => ?_) AllReadyH.nil
  go_simp
  refine (toView_any _ cs1 x1 (Rep.mono Rp1.out HB.out) (by omega)).mono ?_
  rintro e W5 ⟨_, rfl, ⟨cW5, rfl, hF⟩, hb⟩
  have z5 := hb.size
  (try simp only [World.size_alloc, drew_size] at z5)
  replace HB := Lib.hid (bel_step HB.out hb)
  replace Ro1 := Lib.hid (FrIn.step hb Ro1.out)
  replace X2 := Lib.hid (range_step hb X2.out)
  replace X3 := Lib.hid (range_step hb X3.out)
  have Ro2 := Lib.hid hF.frIn
  have Lo2 := Lib.hid (Rep.len hF.rep)
  have ONEo2 := Lib.hid (Rep.one hF.rep)
  clear hF hb
  refine hK.out _ _ ⟨X2.out, X3.out⟩ (fun hHeld => ?_)
  clear hK K
  (try simp only [Act.put, List.setIfInBounds_toArray, List.set_cons_zero, List.set_cons_succ])
  refine wpAnyH_ready (rs := [4]) (by kernel_rfl) (by simp) ?_
  refine AllReadyH.cons rfl (fun K hK => ?_) AllReadyH.nil
  go_simp
  refine (spec_Repaint _ cW4 x0 cW5 x1 Ro1.out.rep Ro2.out.rep).mono ?_
  rintro e W6 ⟨_, rfl, ⟨vW6_0, _, rfl, hF0, rfl⟩, hb⟩
  have z6 := hb.size
  (try simp only [World.size_alloc, drew_size] at z6)
  replace HB := Lib.hid (bel_step HB.out hb)
  replace Ro1 := Lib.hid (FrIn.step hb Ro1.out)
  replace Ro2 := Lib.hid (FrIn.step hb Ro2.out)
  replace X2 := Lib.hid (range_step hb X2.out)
  replace X3 := Lib.hid (range_step hb X3.out)
  have Ro3 := Lib.hid hF0
  have Co3 := Lib.hid (Below.refl W6.heap.size W6)
  clear hF0
  clear hb
  refine hK.out _ _ ⟨X2.out, X3.out⟩ (fun hHeld => ?_)
  clear hK K
  (try simp only [Act.put, List.setIfInBounds_toArray, List.set_cons_zero, List.set_cons_succ])
  refine wpAnyH_take (i := 5) rfl (by kernel_rfl) (by kernel_rfl) (by kernel_rfl) (fun _ _ _ h => h) (.inl ⟨by rfl, fun _ _ => rfl⟩) hHeld ?_
  simp only [Act.put, List.setIfInBounds_toArray, List.set_cons_zero, List.set_cons_succ]
  refine wpAnyH_take (i := 6) rfl (by kernel_rfl) (by kernel_rfl) (by kernel_rfl) (fun _ _ _ h => h) (.inl ⟨by rfl, fun _ _ => rfl⟩) hHeld ?_
  simp only [Act.put, List.setIfInBounds_toArray, List.set_cons_zero, List.set_cons_succ]
  refine wpAnyH_take (i := 7) rfl (by kernel_rfl) (by kernel_rfl) (by kernel_rfl) (fun _ _ _ h => h) (.inl ⟨by rfl, fun _ _ => rfl⟩) hHeld ?_
  simp only [Act.put, List.setIfInBounds_toArray, List.set_cons_zero, List.set_cons_succ]
  refine wpAnyH_take (i := 8) rfl (by kernel_rfl) (by kernel_rfl) (by kernel_rfl) (fun _ _ _ h => h) (.inl ⟨by rfl, fun _ _ => rfl⟩) hHeld ?_
  simp only [Act.put, List.setIfInBounds_toArray, List.set_cons_zero, List.set_cons_succ]
  refine wpAnyH_take (i := 9) rfl (by kernel_rfl) (by kernel_rfl) (by kernel_rfl) (fun _ _ _ h => h) (.inl ⟨by rfl, fun _ _ => rfl⟩) hHeld ?_
  simp only [Act.put, List.setIfInBounds_toArray, List.set_cons_zero, List.set_cons_succ]
  refine wpAnyH_done (by kernel_rfl) ?_ _
  go_wp2_with (first | ((with_reducible (show wpList _ _ _ (Oper.mk _ (Op.load 26 (Operand.tmp 2)) _ _ _ _ :: _) _ _)); refine wpList_load_box rfl 26 _ rfl _ _ rfl cs0 X2.out Tryd.underlying26 (by rw [Lp0.out]; exact size_lawsView) ?_))
  refine (toView_any _ cs0 x0 (Rep.mono Rp0.out HB.out) (by omega)).mono ?_
  rintro e W7 ⟨_, rfl, ⟨cW7, rfl, hF⟩, hb⟩
  have z7 := hb.size
  (try simp only [World.size_alloc, drew_size] at z7)
  replace HB := Lib.hid (bel_step HB.out hb)
  replace Ro1 := Lib.hid (FrIn.step hb Ro1.out)
  replace Ro2 := Lib.hid (FrIn.step hb Ro2.out)
  replace Co3 := Lib.hid (bel_step Co3.out hb)
  replace X2 := Lib.hid (range_step hb X2.out)
  replace X3 := Lib.hid (range_step hb X3.out)
  have Ro4 := Lib.hid hF.frIn
  have Lo4 := Lib.hid (Rep.len hF.rep)
  have ONEo4 := Lib.hid (Rep.one hF.rep)
  clear hF hb
  go_wp2_with (first | ((with_reducible (show wpList _ _ _ (Oper.mk _ (Op.store 34 (Operand.tmp 8) _) _ _ _ _ :: _) _ _)); refine wpList_store_at rfl 34 _ _ rfl _ 0 rfl _ rfl cW7 rfl _ _ (heap_alloc_new _ _) (by rw [Lo4.out]; decide) ONEo4.out (by rw [Lo4.out]; exact size_implView) ?_; intro W8 hW; obtain ⟨hb, hX, hzz⟩ := store_new hW (by rw [Lo4.out]; rfl); clear hW; replace HB := Lib.hid (bel_step HB.out hb); replace Ro1 := Lib.hid (FrIn.step hb Ro1.out); replace Ro2 := Lib.hid (FrIn.step hb Ro2.out); replace Co3 := Lib.hid (bel_step Co3.out hb); replace Ro4 := Lib.hid (FrIn.step hb Ro4.out); replace X2 := Lib.hid (range_step hb X2.out); replace X3 := Lib.hid (range_step hb X3.out); have X8 := Lib.hid hX; have z8 : W7.heap.size + 1 ≤ W8.heap.size := (by omega); clear hX hzz hb) | ((with_reducible (show wpList _ _ _ (Oper.mk _ (Op.load 26 (Operand.tmp 3)) _ _ _ _ :: _) _ _)); refine wpList_load_box rfl 26 _ rfl _ _ rfl cs1 X3.out Tryd.underlying26 (by rw [Lp1.out]; exact size_lawsView) ?_))
  refine (toView_any _ cs1 x1 (Rep.mono Rp1.out HB.out) (by omega)).mono ?_
  rintro e W9 ⟨_, rfl, ⟨cW9, rfl, hF⟩, hb⟩
  have z9 := hb.size
  (try simp only [World.size_alloc, drew_size] at z9)
  replace HB := Lib.hid (bel_step HB.out hb)
  replace Ro1 := Lib.hid (FrIn.step hb Ro1.out)
  replace Ro2 := Lib.hid (FrIn.step hb Ro2.out)
  replace Co3 := Lib.hid (bel_step Co3.out hb)
  replace Ro4 := Lib.hid (FrIn.step hb Ro4.out)
  replace X2 := Lib.hid (range_step hb X2.out)
  replace X3 := Lib.hid (range_step hb X3.out)
  replace X8 := Lib.hid (range_step hb X8.out)
  have Ro5 := Lib.hid hF.frIn
  have Lo5 := Lib.hid (Rep.len hF.rep)
  have ONEo5 := Lib.hid (Rep.one hF.rep)
  clear hF hb
  go_wp2_with (first | ((with_reducible (show wpList _ _ _ (Oper.mk _ (Op.store 34 (Operand.tmp 9) _) _ _ _ _ :: _) _ _)); refine wpList_store_at rfl 34 _ _ rfl _ 0 rfl _ rfl cW9 rfl _ _ (heap_alloc_new _ _) (by rw [Lo5.out]; decide) ONEo5.out (by rw [Lo5.out]; exact size_implView) ?_; intro W10 hW; obtain ⟨hb, hX, hzz⟩ := store_new hW (by rw [Lo5.out]; rfl); clear hW; replace HB := Lib.hid (bel_step HB.out hb); replace Ro1 := Lib.hid (FrIn.step hb Ro1.out); replace Ro2 := Lib.hid (FrIn.step hb Ro2.out); replace Co3 := Lib.hid (bel_step Co3.out hb); replace Ro4 := Lib.hid (FrIn.step hb Ro4.out); replace Ro5 := Lib.hid (FrIn.step hb Ro5.out); replace X2 := Lib.hid (range_step hb X2.out); replace X3 := Lib.hid (range_step hb X3.out); replace X8 := Lib.hid (range_step hb X8.out); have X9 := Lib.hid hX; have z10 : W9.heap.size + 1 ≤ W10.heap.size := (by omega); clear hX hzz hb) | ((with_reducible (show wpList _ _ _ (Oper.mk _ (Op.load 34 (Operand.tmp 8)) _ _ _ _ :: _) _ _)); refine wpList_load_box rfl 34 _ rfl _ _ rfl cW7 X8.out Tryd.underlying34 (by rw [Lo4.out]; exact size_implView) ?_) | ((with_reducible (show wpList _ _ _ (Oper.mk _ (Op.load 34 (Operand.tmp 9)) _ _ _ _ :: _) _ _)); refine wpList_load_box rfl 34 _ rfl _ _ rfl cW9 X9.out Tryd.underlying34 (by rw [Lo5.out]; exact size_implView) ?_))
  refine (impl_Repaint _ cW7 x0 cW9 x1 Ro4.out.rep Ro5.out.rep (HT.out.mono HB.out)).mono ?_
  rintro e W11 ⟨_, rfl, ⟨vW11_0, _, rfl, hF0, rfl⟩, hb⟩
  have z11 := hb.size
  (try simp only [World.size_alloc, drew_size] at z11)
  replace HB := Lib.hid (bel_step HB.out hb)
  replace Ro1 := Lib.hid (FrIn.step hb Ro1.out)
  replace Ro2 := Lib.hid (FrIn.step hb Ro2.out)
  replace Co3 := Lib.hid (bel_step Co3.out hb)
  replace Ro4 := Lib.hid (FrIn.step hb Ro4.out)
  replace Ro5 := Lib.hid (FrIn.step hb Ro5.out)
  replace X2 := Lib.hid (range_step hb X2.out)
  replace X3 := Lib.hid (range_step hb X3.out)
  replace X8 := Lib.hid (range_step hb X8.out)
  replace X9 := Lib.hid (range_step hb X9.out)
  have Ro6 := Lib.hid hF0.frIn
  clear hF0
  clear hb
  go_wp2_with (fail)
  refine (eqByteS_refl _ vW11_0 vW6_0 (repaint x0 x1).1 Ro6.out.repS (RepS.mono Ro3.out Co3.out)).mono ?_
  rintro e W12 ⟨_, rfl, rfl, hb⟩
  have z12 := hb.size
  (try simp only [World.size_alloc, drew_size] at z12)
  replace HB := Lib.hid (bel_step HB.out hb)
  replace Ro1 := Lib.hid (FrIn.step hb Ro1.out)
  replace Ro2 := Lib.hid (FrIn.step hb Ro2.out)
  replace Co3 := Lib.hid (bel_step Co3.out hb)
  replace Ro4 := Lib.hid (FrIn.step hb Ro4.out)
  replace Ro5 := Lib.hid (FrIn.step hb Ro5.out)
  replace Ro6 := Lib.hid (FrIn.step hb Ro6.out)
  replace X2 := Lib.hid (range_step hb X2.out)
  replace X3 := Lib.hid (range_step hb X3.out)
  replace X8 := Lib.hid (range_step hb X8.out)
  replace X9 := Lib.hid (range_step hb X9.out)
  clear hb
  go_wp2_with (fail)
  refine wp_region_held_drew (S := fun w' => w'.rangeAt (W7.heap.size) 0 cW7 ∧ w'.rangeAt (w.heap.size) 0 cs0) (by kernel_rfl) ⟨X8.out, X2.out⟩ (fun hHeld => ?_)
  have hb := bel_drew W12
  obtain ⟨W13, hWd⟩ : ∃ W, W = W12.drew := ⟨_, rfl⟩
  rw [← hWd] at hHeld hb ⊢
  clear hWd
  have z13 := hb.size
  (try simp only [World.size_alloc, drew_size] at z13)
  replace HB := Lib.hid (bel_step HB.out hb)
  replace Ro1 := Lib.hid (FrIn.step hb Ro1.out)
  replace Ro2 := Lib.hid (FrIn.step hb Ro2.out)
  replace Co3 := Lib.hid (bel_step Co3.out hb)
  replace Ro4 := Lib.hid (FrIn.step hb Ro4.out)
  replace Ro5 := Lib.hid (FrIn.step hb Ro5.out)
  replace Ro6 := Lib.hid (FrIn.step hb Ro6.out)
  replace X2 := Lib.hid (range_step hb X2.out)
  replace X3 := Lib.hid (range_step hb X3.out)
  replace X8 := Lib.hid (range_step hb X8.out)
  replace X9 := Lib.hid (range_step hb X9.out)
  clear hb
  refine wpAnyH_take (i := 0) (v := .agg cW7.toArray) rfl (by kernel_rfl) (by kernel_rfl) (by kernel_rfl) (fun _ _ _ h => h) (yieldsIf_load_mid (by rfl) 34 _ rfl _ 0 rfl cW7 _ (fun _ h => h.1) Tryd.underlying34 rfl (by rw [Lo4.out]; exact size_implView)) hHeld ?_
  simp only [Act.put, List.setIfInBounds_toArray, List.set_cons_zero, List.set_cons_succ]
  refine wpAnyH_take (i := 1) (v := .agg cs0.toArray) rfl (by kernel_rfl) (by kernel_rfl) (by kernel_rfl) (fun _ _ _ h => h) (yieldsIf_load_mid (by rfl) 26 _ rfl _ 0 rfl cs0 _ (fun _ h => h.2) Tryd.underlying26 rfl (by rw [Lp0.out]; exact size_lawsView)) hHeld ?_
  simp only [Act.put, List.setIfInBounds_toArray, List.set_cons_zero, List.set_cons_succ]
  refine wpAnyH_ready (rs := [2]) (by kernel_rfl) (by simp) ?_
  refine AllReadyH.cons rfl (fun K hK => ?_) AllReadyH.nil
  go_simp
  refine (toView_any _ cs0 x0 (Rep.mono Rp0.out HB.out) (by omega)).mono ?_
  rintro e W14 ⟨_, rfl, ⟨cW14, rfl, hF⟩, hb⟩
  have z14 := hb.size
  (try simp only [World.size_alloc, drew_size] at z14)
  replace HB := Lib.hid (bel_step HB.out hb)
  replace Ro1 := Lib.hid (FrIn.step hb Ro1.out)
  replace Ro2 := Lib.hid (FrIn.step hb Ro2.out)
  replace Co3 := Lib.hid (bel_step Co3.out hb)
  replace Ro4 := Lib.hid (FrIn.step hb Ro4.out)
  replace Ro5 := Lib.hid (FrIn.step hb Ro5.out)
  replace Ro6 := Lib.hid (FrIn.step hb Ro6.out)
  replace X2 := Lib.hid (range_step hb X2.out)
  replace X3 := Lib.hid (range_step hb X3.out)
  replace X8 := Lib.hid (range_step hb X8.out)
  replace X9 := Lib.hid (range_step hb X9.out)
  have Ro7 := Lib.hid hF.frIn
  have Lo7 := Lib.hid (Rep.len hF.rep)
  have ONEo7 := Lib.hid (Rep.one hF.rep)
  clear hF hb
  refine hK.out _ _ ⟨X8.out, X2.out⟩ (fun hHeld => ?_)
  clear hK K
  (try simp only [Act.put, List.setIfInBounds_toArray, List.set_cons_zero, List.set_cons_succ])
  refine wpAnyH_ready (rs := [3]) (by kernel_rfl) (by simp) ?_
  refine AllReadyH.cons rfl (fun K hK => ?_) AllReadyH.nil
  go_simp
  refine (eqView_refl _ cW7 cW14 x0 Ro4.out.rep Ro7.out.rep).mono ?_
  rintro e W15 ⟨_, rfl, rfl, hb⟩
  have z15 := hb.size
  (try simp only [World.size_alloc, drew_size] at z15)
  replace HB := Lib.hid (bel_step HB.out hb)
  replace Ro1 := Lib.hid (FrIn.step hb Ro1.out)
  replace Ro2 := Lib.hid (FrIn.step hb Ro2.out)
  replace Co3 := Lib.hid (bel_step Co3.out hb)
  replace Ro4 := Lib.hid (FrIn.step hb Ro4.out)
  replace Ro5 := Lib.hid (FrIn.step hb Ro5.out)
  replace Ro6 := Lib.hid (FrIn.step hb Ro6.out)
  replace Ro7 := Lib.hid (FrIn.step hb Ro7.out)
  replace X2 := Lib.hid (range_step hb X2.out)
  replace X3 := Lib.hid (range_step hb X3.out)
  replace X8 := Lib.hid (range_step hb X8.out)
  replace X9 := Lib.hid (range_step hb X9.out)
  clear hb
  refine hK.out _ _ ⟨X8.out, X2.out⟩ (fun hHeld => ?_)
  clear hK K
  (try simp only [Act.put, List.setIfInBounds_toArray, List.set_cons_zero, List.set_cons_succ])
  refine wpAnyH_ready (rs := [4]) (by kernel_rfl) (by simp) ?_
  refine AllReadyH.cons rfl (fun K hK => ?_) AllReadyH.nil
  go_simp
  refine hK.out _ _ ⟨X8.out, X2.out⟩ (fun hHeld => ?_)
  clear hK K
  (try simp only [Act.put, List.setIfInBounds_toArray, List.set_cons_zero, List.set_cons_succ])
  refine wpAnyH_done (by kernel_rfl) ?_ _
  go_wp2_with (fail)
  refine wp_region_held_drew (S := fun w' => w'.rangeAt (W9.heap.size) 0 cW9 ∧ w'.rangeAt (w.heap.size + 1) 0 cs1) (by kernel_rfl) ⟨X9.out, X3.out⟩ (fun hHeld => ?_)
  have hb := bel_drew W15
  obtain ⟨W16, hWd⟩ : ∃ W, W = W15.drew := ⟨_, rfl⟩
  rw [← hWd] at hHeld hb ⊢
  clear hWd
  have z16 := hb.size
  (try simp only [World.size_alloc, drew_size] at z16)
  replace HB := Lib.hid (bel_step HB.out hb)
  replace Ro1 := Lib.hid (FrIn.step hb Ro1.out)
  replace Ro2 := Lib.hid (FrIn.step hb Ro2.out)
  replace Co3 := Lib.hid (bel_step Co3.out hb)
  replace Ro4 := Lib.hid (FrIn.step hb Ro4.out)
  replace Ro5 := Lib.hid (FrIn.step hb Ro5.out)
  replace Ro6 := Lib.hid (FrIn.step hb Ro6.out)
  replace Ro7 := Lib.hid (FrIn.step hb Ro7.out)
  replace X2 := Lib.hid (range_step hb X2.out)
  replace X3 := Lib.hid (range_step hb X3.out)
  replace X8 := Lib.hid (range_step hb X8.out)
  replace X9 := Lib.hid (range_step hb X9.out)
  clear hb
  refine wpAnyH_take (i := 0) (v := .agg cW9.toArray) rfl (by kernel_rfl) (by kernel_rfl) (by kernel_rfl) (fun _ _ _ h => h) (yieldsIf_load_mid (by rfl) 34 _ rfl _ 0 rfl cW9 _ (fun _ h => h.1) Tryd.underlying34 rfl (by rw [Lo5.out]; exact size_implView)) hHeld ?_
  simp only [Act.put, List.setIfInBounds_toArray, List.set_cons_zero, List.set_cons_succ]
  refine wpAnyH_take (i := 1) (v := .agg cs1.toArray) rfl (by kernel_rfl) (by kernel_rfl) (by kernel_rfl) (fun _ _ _ h => h) (yieldsIf_load_mid (by rfl) 26 _ rfl _ 0 rfl cs1 _ (fun _ h => h.2) Tryd.underlying26 rfl (by rw [Lp1.out]; exact size_lawsView)) hHeld ?_
  simp only [Act.put, List.setIfInBounds_toArray, List.set_cons_zero, List.set_cons_succ]
  refine wpAnyH_ready (rs := [2]) (by kernel_rfl) (by simp) ?_
  refine AllReadyH.cons rfl (fun K hK => ?_) AllReadyH.nil
  go_simp
  refine (toView_any _ cs1 x1 (Rep.mono Rp1.out HB.out) (by omega)).mono ?_
  rintro e W17 ⟨_, rfl, ⟨cW17, rfl, hF⟩, hb⟩
  have z17 := hb.size
  (try simp only [World.size_alloc, drew_size] at z17)
  replace HB := Lib.hid (bel_step HB.out hb)
  replace Ro1 := Lib.hid (FrIn.step hb Ro1.out)
  replace Ro2 := Lib.hid (FrIn.step hb Ro2.out)
  replace Co3 := Lib.hid (bel_step Co3.out hb)
  replace Ro4 := Lib.hid (FrIn.step hb Ro4.out)
  replace Ro5 := Lib.hid (FrIn.step hb Ro5.out)
  replace Ro6 := Lib.hid (FrIn.step hb Ro6.out)
  replace Ro7 := Lib.hid (FrIn.step hb Ro7.out)
  replace X2 := Lib.hid (range_step hb X2.out)
  replace X3 := Lib.hid (range_step hb X3.out)
  replace X8 := Lib.hid (range_step hb X8.out)
  replace X9 := Lib.hid (range_step hb X9.out)
  have Ro8 := Lib.hid hF.frIn
  have Lo8 := Lib.hid (Rep.len hF.rep)
  have ONEo8 := Lib.hid (Rep.one hF.rep)
  clear hF hb
  refine hK.out _ _ ⟨X9.out, X3.out⟩ (fun hHeld => ?_)
  clear hK K
  (try simp only [Act.put, List.setIfInBounds_toArray, List.set_cons_zero, List.set_cons_succ])
  refine wpAnyH_ready (rs := [3]) (by kernel_rfl) (by simp) ?_
  refine AllReadyH.cons rfl (fun K hK => ?_) AllReadyH.nil
  go_simp
  refine (eqView_refl _ cW9 cW17 x1 Ro5.out.rep Ro8.out.rep).mono ?_
  rintro e W18 ⟨_, rfl, rfl, hb⟩
  have z18 := hb.size
  (try simp only [World.size_alloc, drew_size] at z18)
  replace HB := Lib.hid (bel_step HB.out hb)
  replace Ro1 := Lib.hid (FrIn.step hb Ro1.out)
  replace Ro2 := Lib.hid (FrIn.step hb Ro2.out)
  replace Co3 := Lib.hid (bel_step Co3.out hb)
  replace Ro4 := Lib.hid (FrIn.step hb Ro4.out)
  replace Ro5 := Lib.hid (FrIn.step hb Ro5.out)
  replace Ro6 := Lib.hid (FrIn.step hb Ro6.out)
  replace Ro7 := Lib.hid (FrIn.step hb Ro7.out)
  replace Ro8 := Lib.hid (FrIn.step hb Ro8.out)
  replace X2 := Lib.hid (range_step hb X2.out)
  replace X3 := Lib.hid (range_step hb X3.out)
  replace X8 := Lib.hid (range_step hb X8.out)
  replace X9 := Lib.hid (range_step hb X9.out)
  clear hb
  refine hK.out _ _ ⟨X9.out, X3.out⟩ (fun hHeld => ?_)
  clear hK K
  (try simp only [Act.put, List.setIfInBounds_toArray, List.set_cons_zero, List.set_cons_succ])
  refine wpAnyH_ready (rs := [4]) (by kernel_rfl) (by simp) ?_
  refine AllReadyH.cons rfl (fun K hK => ?_) AllReadyH.nil
  go_simp
  refine hK.out _ _ ⟨X9.out, X3.out⟩ (fun hHeld => ?_)
  clear hK K
  (try simp only [Act.put, List.setIfInBounds_toArray, List.set_cons_zero, List.set_cons_succ])
  refine wpAnyH_done (by kernel_rfl) ?_ _
  go_wp2_with (first | ((with_reducible (show wpList _ _ _ (Oper.mk _ (Op.load 34 (Operand.tmp 8)) _ _ _ _ :: _) _ _)); refine wpList_load_box rfl 34 _ rfl _ _ rfl cW7 X8.out Tryd.underlying34 (by rw [Lo4.out]; exact size_implView) ?_))
  obtain ⟨fq, hwn, hnd, hbd⟩ := Ro4.out
  refine (markView_any _ cW7 x0 (1 : Int) fq hwn hnd (by omega) (by omega)).mono ?_
  rintro e W19 ⟨kW19, yW19, rfl, hkW19, hlW19, ho, hH, hm⟩
  have hdW19 : decide (kW19 < 0) = false := decide_eq_false (by omega)
  have z19 := hm.size
  have hR : FrIn _ _ _ _ _ := ⟨fq, ho, hnd, hbd⟩
  clear Ro4 hwn ho
  replace HB := Lib.hid (Below.trans HB.out (hm.below HB.out.size (fun b hb => by have := (hbd b hb).1; omega)))
  replace Ro1 := Lib.hid (FrIn.marked hm hbd Ro1.out (by omega))
  replace Ro2 := Lib.hid (FrIn.marked hm hbd Ro2.out (by omega))
  replace Co3 := Lib.hid (Below.trans Co3.out (hm.below Co3.out.size (fun b hb => by have := (hbd b hb).1; omega)))
  replace Ro5 := Lib.hid (FrIn.marked hm hbd Ro5.out (by omega))
  replace Ro6 := Lib.hid (FrIn.marked hm hbd Ro6.out (by omega))
  replace Ro7 := Lib.hid (FrIn.marked hm hbd Ro7.out (by omega))
  replace Ro8 := Lib.hid (FrIn.marked hm hbd Ro8.out (by omega))
  replace X2 := Lib.hid (range_marked hm hbd X2.out (by omega))
  replace X3 := Lib.hid (range_marked hm hbd X3.out (by omega))
  replace X8 := Lib.hid (range_marked hm hbd X8.out (by omega))
  replace X9 := Lib.hid (range_marked hm hbd X9.out (by omega))
  have Ro4 := Lib.hid hR
  have MKo4 := Lib.hid hH
  clear hR hH hm hbd hnd
  go_wp2_with (first | ((with_reducible (show wpList _ _ _ (Oper.mk _ (Op.load 34 (Operand.tmp 9)) _ _ _ _ :: _) _ _)); refine wpList_load_box rfl 34 _ rfl _ _ rfl cW9 X9.out Tryd.underlying34 (by rw [Lo5.out]; exact size_implView) ?_))
  obtain ⟨fq, hwn, hnd, hbd⟩ := Ro5.out
  refine (markView_any _ cW9 x1 kW19 fq hwn hnd (by omega) (by omega)).mono ?_
  rintro e W20 ⟨kW20, yW20, rfl, hkW20, hlW20, ho, hH, hm⟩
  have hdW20 : decide (kW20 < 0) = false := decide_eq_false (by omega)
  have z20 := hm.size
  have hR : FrIn _ _ _ _ _ := ⟨fq, ho, hnd, hbd⟩
  clear Ro5 hwn ho
  replace HB := Lib.hid (Below.trans HB.out (hm.below HB.out.size (fun b hb => by have := (hbd b hb).1; omega)))
  replace Ro1 := Lib.hid (FrIn.marked hm hbd Ro1.out (by omega))
  replace Ro2 := Lib.hid (FrIn.marked hm hbd Ro2.out (by omega))
  replace Co3 := Lib.hid (Below.trans Co3.out (hm.below Co3.out.size (fun b hb => by have := (hbd b hb).1; omega)))
  replace Ro6 := Lib.hid (FrIn.marked hm hbd Ro6.out (by omega))
  replace Ro7 := Lib.hid (FrIn.marked hm hbd Ro7.out (by omega))
  replace Ro8 := Lib.hid (FrIn.marked hm hbd Ro8.out (by omega))
  replace Ro4 := Lib.hid (FrIn.marked hm hbd Ro4.out (by omega))
  replace X2 := Lib.hid (range_marked hm hbd X2.out (by omega))
  replace X3 := Lib.hid (range_marked hm hbd X3.out (by omega))
  replace X8 := Lib.hid (range_marked hm hbd X8.out (by omega))
  replace X9 := Lib.hid (range_marked hm hbd X9.out (by omega))
  have Ro5 := Lib.hid hR
  have MKo5 := Lib.hid hH
  clear hR hH hm hbd hnd
  go_wp2_with (fail)
  refine (eqByteS_refl _ vW11_0 vW6_0 (repaint x0 x1).1 Ro6.out.repS (RepS.mono Ro3.out Co3.out)).mono ?_
  rintro e W21 ⟨_, rfl, rfl, hb⟩
  have z21 := hb.size
  (try simp only [World.size_alloc, drew_size] at z21)
  replace HB := Lib.hid (bel_step HB.out hb)
  replace Ro1 := Lib.hid (FrIn.step hb Ro1.out)
  replace Ro2 := Lib.hid (FrIn.step hb Ro2.out)
  replace Co3 := Lib.hid (bel_step Co3.out hb)
  replace Ro6 := Lib.hid (FrIn.step hb Ro6.out)
  replace Ro7 := Lib.hid (FrIn.step hb Ro7.out)
  replace Ro8 := Lib.hid (FrIn.step hb Ro8.out)
  replace Ro4 := Lib.hid (FrIn.step hb Ro4.out)
  replace Ro5 := Lib.hid (FrIn.step hb Ro5.out)
  replace X2 := Lib.hid (range_step hb X2.out)
  replace X3 := Lib.hid (range_step hb X3.out)
  replace X8 := Lib.hid (range_step hb X8.out)
  replace X9 := Lib.hid (range_step hb X9.out)
  clear hb
  go_wp2_with (fail)
  obtain ⟨fq, hwn, hnd, hbd⟩ := Ro6.out
  refine (markByteS_any _ vW11_0 (repaint x0 x1).1 (1 : Int) fq (own_slice hwn) hnd (by omega) (by omega)).mono ?_
  rintro e W22 ⟨kW22, yW22, rfl, hkW22, hlW22, ho, hH, hm⟩
  have hdW22 : decide (kW22 < 0) = false := decide_eq_false (by omega)
  have z22 := hm.size
  have hR : FrIn _ _ _ _ _ := ⟨fq, ho, hnd, hbd⟩
  clear Ro6 hwn ho
  replace HB := Lib.hid (Below.trans HB.out (hm.below HB.out.size (fun b hb => by have := (hbd b hb).1; omega)))
  replace Ro1 := Lib.hid (FrIn.marked hm hbd Ro1.out (by omega))
  replace Ro2 := Lib.hid (FrIn.marked hm hbd Ro2.out (by omega))
  replace Co3 := Lib.hid (Below.trans Co3.out (hm.below Co3.out.size (fun b hb => by have := (hbd b hb).1; omega)))
  replace Ro7 := Lib.hid (FrIn.marked hm hbd Ro7.out (by omega))
  replace Ro8 := Lib.hid (FrIn.marked hm hbd Ro8.out (by omega))
  replace Ro4 := Lib.hid (FrIn.marked hm hbd Ro4.out (by omega))
  replace Ro5 := Lib.hid (FrIn.marked hm hbd Ro5.out (by omega))
  replace X2 := Lib.hid (range_marked hm hbd X2.out (by omega))
  replace X3 := Lib.hid (range_marked hm hbd X3.out (by omega))
  replace X8 := Lib.hid (range_marked hm hbd X8.out (by omega))
  replace X9 := Lib.hid (range_marked hm hbd X9.out (by omega))
  have Ro6 := Lib.hid hR
  have MKo6 := Lib.hid hH
  clear hR hH hm hbd hnd
  go_wp2_with (fail)
  refine (heldByteS_any _ vW11_0 yW22 (1 : Int) kW22 Ro6.out.repS MKo6.out (by omega) (by omega)).mono ?_
  rintro e W23 ⟨_, rfl, rfl, hb⟩
  have z23 := hb.size
  (try simp only [World.size_alloc, drew_size] at z23)
  replace HB := Lib.hid (bel_step HB.out hb)
  replace Ro1 := Lib.hid (FrIn.step hb Ro1.out)
  replace Ro2 := Lib.hid (FrIn.step hb Ro2.out)
  replace Co3 := Lib.hid (bel_step Co3.out hb)
  replace Ro7 := Lib.hid (FrIn.step hb Ro7.out)
  replace Ro8 := Lib.hid (FrIn.step hb Ro8.out)
  replace Ro4 := Lib.hid (FrIn.step hb Ro4.out)
  replace Ro5 := Lib.hid (FrIn.step hb Ro5.out)
  replace Ro6 := Lib.hid (FrIn.step hb Ro6.out)
  replace X2 := Lib.hid (range_step hb X2.out)
  replace X3 := Lib.hid (range_step hb X3.out)
  replace X8 := Lib.hid (range_step hb X8.out)
  replace X9 := Lib.hid (range_step hb X9.out)
  clear hb
  go_wp2_with (fail)
  refine wp_region_held_drew (S := fun w' => w'.rangeAt (w.heap.size) 0 cs0 ∧ w'.rangeAt (w.heap.size + 1) 0 cs1) (by kernel_rfl) ⟨X2.out, X3.out⟩ (fun hHeld => ?_)
  have hb := bel_drew W23
  obtain ⟨W24, hWd⟩ : ∃ W, W = W23.drew := ⟨_, rfl⟩
  rw [← hWd] at hHeld hb ⊢
  clear hWd
  have z24 := hb.size
  (try simp only [World.size_alloc, drew_size] at z24)
  replace HB := Lib.hid (bel_step HB.out hb)
  replace Ro1 := Lib.hid (FrIn.step hb Ro1.out)
  replace Ro2 := Lib.hid (FrIn.step hb Ro2.out)
  replace Co3 := Lib.hid (bel_step Co3.out hb)
  replace Ro7 := Lib.hid (FrIn.step hb Ro7.out)
  replace Ro8 := Lib.hid (FrIn.step hb Ro8.out)
  replace Ro4 := Lib.hid (FrIn.step hb Ro4.out)
  replace Ro5 := Lib.hid (FrIn.step hb Ro5.out)
  replace Ro6 := Lib.hid (FrIn.step hb Ro6.out)
  replace X2 := Lib.hid (range_step hb X2.out)
  replace X3 := Lib.hid (range_step hb X3.out)
  replace X8 := Lib.hid (range_step hb X8.out)
  replace X9 := Lib.hid (range_step hb X9.out)
  clear hb
  refine wpAnyH_take (i := 0) (v := .agg cs0.toArray) rfl (by kernel_rfl) (by kernel_rfl) (by kernel_rfl) (fun _ _ _ h => h) (yieldsIf_load_mid (by rfl) 26 _ rfl _ 0 rfl cs0 _ (fun _ h => h.1) Tryd.underlying26 rfl (by rw [Lp0.out]; exact size_lawsView)) hHeld ?_
  simp only [Act.put, List.setIfInBounds_toArray, List.set_cons_zero, List.set_cons_succ]
  refine wpAnyH_take (i := 2) (v := .agg cs1.toArray) rfl (by kernel_rfl) (by kernel_rfl) (by kernel_rfl) (fun _ _ _ h => h) (yieldsIf_load_mid (by rfl) 26 _ rfl _ 0 rfl cs1 _ (fun _ h => h.2) Tryd.underlying26 rfl (by rw [Lp1.out]; exact size_lawsView)) hHeld ?_
  simp only [Act.put, List.setIfInBounds_toArray, List.set_cons_zero, List.set_cons_succ]
  refine wpAnyH_ready (rs := [1]) (by kernel_rfl) (by simp) ?_
  refine AllReadyH.cons rfl (fun K hK => ?_) AllReadyH.nil
  go_simp
  refine (toView_any _ cs0 x0 (Rep.mono Rp0.out HB.out) (by omega)).mono ?_
  rintro e W25 ⟨_, rfl, ⟨cW25, rfl, hF⟩, hb⟩
  have z25 := hb.size
  (try simp only [World.size_alloc, drew_size] at z25)
  replace HB := Lib.hid (bel_step HB.out hb)
  replace Ro1 := Lib.hid (FrIn.step hb Ro1.out)
  replace Ro2 := Lib.hid (FrIn.step hb Ro2.out)
  replace Co3 := Lib.hid (bel_step Co3.out hb)
  replace Ro7 := Lib.hid (FrIn.step hb Ro7.out)
  replace Ro8 := Lib.hid (FrIn.step hb Ro8.out)
  replace Ro4 := Lib.hid (FrIn.step hb Ro4.out)
  replace Ro5 := Lib.hid (FrIn.step hb Ro5.out)
  replace Ro6 := Lib.hid (FrIn.step hb Ro6.out)
  replace X2 := Lib.hid (range_step hb X2.out)
  replace X3 := Lib.hid (range_step hb X3.out)
  replace X8 := Lib.hid (range_step hb X8.out)
  replace X9 := Lib.hid (range_step hb X9.out)
  have Ro9 := Lib.hid hF.frIn
  have Lo9 := Lib.hid (Rep.len hF.rep)
  have ONEo9 := Lib.hid (Rep.one hF.rep)
  clear hF hb
  refine hK.out _ _ ⟨X2.out, X3.out⟩ (fun hHeld => ?_)
  clear hK K
  (try simp only [Act.put, List.setIfInBounds_toArray, List.set_cons_zero, List.set_cons_succ])
  refine wpAnyH_ready (rs := [3]) (by kernel_rfl) (by simp) ?_
  refine AllReadyH.cons rfl (fun K hK => ?_) AllReadyH.nil
  go_simp
  refine (toView_any _ cs1 x1 (Rep.mono Rp1.out HB.out) (by omega)).mono ?_
  rintro e W26 ⟨_, rfl, ⟨cW26, rfl, hF⟩, hb⟩
  have z26 := hb.size
  (try simp only [World.size_alloc, drew_size] at z26)
  replace HB := Lib.hid (bel_step HB.out hb)
  replace Ro1 := Lib.hid (FrIn.step hb Ro1.out)
  replace Ro2 := Lib.hid (FrIn.step hb Ro2.out)
  replace Co3 := Lib.hid (bel_step Co3.out hb)
  replace Ro7 := Lib.hid (FrIn.step hb Ro7.out)
  replace Ro8 := Lib.hid (FrIn.step hb Ro8.out)
  replace Ro4 := Lib.hid (FrIn.step hb Ro4.out)
  replace Ro5 := Lib.hid (FrIn.step hb Ro5.out)
  replace Ro6 := Lib.hid (FrIn.step hb Ro6.out)
  replace Ro9 := Lib.hid (FrIn.step hb Ro9.out)
  replace X2 := Lib.hid (range_step hb X2.out)
  replace X3 := Lib.hid (range_step hb X3.out)
  replace X8 := Lib.hid (range_step hb X8.out)
  replace X9 := Lib.hid (range_step hb X9.out)
  have Ro10 := Lib.hid hF.frIn
  have Lo10 := Lib.hid (Rep.len hF.rep)
  have ONEo10 := Lib.hid (Rep.one hF.rep)
  clear hF hb
  refine hK.out _ _ ⟨X2.out, X3.out⟩ (fun hHeld => ?_)
  clear hK K
  (try simp only [Act.put, List.setIfInBounds_toArray, List.set_cons_zero, List.set_cons_succ])
  refine wpAnyH_ready (rs := [4]) (by kernel_rfl) (by simp) ?_
  refine AllReadyH.cons rfl (fun K hK => ?_) AllReadyH.nil
  go_simp
  refine (impl_Repaint _ cW25 x0 cW26 x1 Ro9.out.rep Ro10.out.rep (HT.out.mono HB.out)).mono ?_
  rintro e W27 ⟨_, rfl, ⟨vW27_0, _, rfl, hF0, rfl⟩, hb⟩
  have z27 := hb.size
  (try simp only [World.size_alloc, drew_size] at z27)
  replace HB := Lib.hid (bel_step HB.out hb)
  replace Ro1 := Lib.hid (FrIn.step hb Ro1.out)
  replace Ro2 := Lib.hid (FrIn.step hb Ro2.out)
  replace Co3 := Lib.hid (bel_step Co3.out hb)
  replace Ro7 := Lib.hid (FrIn.step hb Ro7.out)
  replace Ro8 := Lib.hid (FrIn.step hb Ro8.out)
  replace Ro4 := Lib.hid (FrIn.step hb Ro4.out)
  replace Ro5 := Lib.hid (FrIn.step hb Ro5.out)
  replace Ro6 := Lib.hid (FrIn.step hb Ro6.out)
  replace Ro9 := Lib.hid (FrIn.step hb Ro9.out)
  replace Ro10 := Lib.hid (FrIn.step hb Ro10.out)
  replace X2 := Lib.hid (range_step hb X2.out)
  replace X3 := Lib.hid (range_step hb X3.out)
  replace X8 := Lib.hid (range_step hb X8.out)
  replace X9 := Lib.hid (range_step hb X9.out)
  have Ro11 := Lib.hid hF0.frIn
  clear hF0
  clear hb
  refine hK.out _ _ ⟨X2.out, X3.out⟩ (fun hHeld => ?_)
  clear hK K
  (try simp only [Act.put, List.setIfInBounds_toArray, List.set_cons_zero, List.set_cons_succ])
  refine wpAnyH_take (i := 5) rfl (by kernel_rfl) (by kernel_rfl) (by kernel_rfl) (fun _ _ _ h => h) (.inl ⟨by rfl, fun _ _ => rfl⟩) hHeld ?_
  simp only [Act.put, List.setIfInBounds_toArray, List.set_cons_zero, List.set_cons_succ]
  refine wpAnyH_take (i := 6) rfl (by kernel_rfl) (by kernel_rfl) (by kernel_rfl) (fun _ _ _ h => h) (.inl ⟨by rfl, fun _ _ => rfl⟩) hHeld ?_
  simp only [Act.put, List.setIfInBounds_toArray, List.set_cons_zero, List.set_cons_succ]
  refine wpAnyH_take (i := 7) rfl (by kernel_rfl) (by kernel_rfl) (by kernel_rfl) (fun _ _ _ h => h) (.inl ⟨by rfl, fun _ _ => rfl⟩) hHeld ?_
  simp only [Act.put, List.setIfInBounds_toArray, List.set_cons_zero, List.set_cons_succ]
  refine wpAnyH_take (i := 8) rfl (by kernel_rfl) (by kernel_rfl) (by kernel_rfl) (fun _ _ _ h => h) (.inl ⟨by rfl, fun _ _ => rfl⟩) hHeld ?_
  simp only [Act.put, List.setIfInBounds_toArray, List.set_cons_zero, List.set_cons_succ]
  refine wpAnyH_take (i := 9) rfl (by kernel_rfl) (by kernel_rfl) (by kernel_rfl) (fun _ _ _ h => h) (.inl ⟨by rfl, fun _ _ => rfl⟩) hHeld ?_
  simp only [Act.put, List.setIfInBounds_toArray, List.set_cons_zero, List.set_cons_succ]
  refine wpAnyH_done (by kernel_rfl) ?_ _
  go_wp2_with (fail)
  refine (eqByteS_refl _ vW27_0 vW6_0 (repaint x0 x1).1 Ro11.out.repS (RepS.mono Ro3.out Co3.out)).mono ?_
  rintro e W28 ⟨_, rfl, rfl, hb⟩
  have z28 := hb.size
  (try simp only [World.size_alloc, drew_size] at z28)
  replace HB := Lib.hid (bel_step HB.out hb)
  replace Ro1 := Lib.hid (FrIn.step hb Ro1.out)
  replace Ro2 := Lib.hid (FrIn.step hb Ro2.out)
  replace Co3 := Lib.hid (bel_step Co3.out hb)
  replace Ro7 := Lib.hid (FrIn.step hb Ro7.out)
  replace Ro8 := Lib.hid (FrIn.step hb Ro8.out)
  replace Ro4 := Lib.hid (FrIn.step hb Ro4.out)
  replace Ro5 := Lib.hid (FrIn.step hb Ro5.out)
  replace Ro6 := Lib.hid (FrIn.step hb Ro6.out)
  replace Ro9 := Lib.hid (FrIn.step hb Ro9.out)
  replace Ro10 := Lib.hid (FrIn.step hb Ro10.out)
  replace Ro11 := Lib.hid (FrIn.step hb Ro11.out)
  replace X2 := Lib.hid (range_step hb X2.out)
  replace X3 := Lib.hid (range_step hb X3.out)
  replace X8 := Lib.hid (range_step hb X8.out)
  replace X9 := Lib.hid (range_step hb X9.out)
  clear hb
  go_wp2_with (fail)
  refine (heldByteS_any _ vW11_0 yW22 (1 : Int) kW22 Ro6.out.repS MKo6.out (by omega) (by omega)).mono ?_
  rintro e W29 ⟨_, rfl, rfl, hb⟩
  have z29 := hb.size
  (try simp only [World.size_alloc, drew_size] at z29)
  replace HB := Lib.hid (bel_step HB.out hb)
  replace Ro1 := Lib.hid (FrIn.step hb Ro1.out)
  replace Ro2 := Lib.hid (FrIn.step hb Ro2.out)
  replace Co3 := Lib.hid (bel_step Co3.out hb)
  replace Ro7 := Lib.hid (FrIn.step hb Ro7.out)
  replace Ro8 := Lib.hid (FrIn.step hb Ro8.out)
  replace Ro4 := Lib.hid (FrIn.step hb Ro4.out)
  replace Ro5 := Lib.hid (FrIn.step hb Ro5.out)
  replace Ro6 := Lib.hid (FrIn.step hb Ro6.out)
  replace Ro9 := Lib.hid (FrIn.step hb Ro9.out)
  replace Ro10 := Lib.hid (FrIn.step hb Ro10.out)
  replace Ro11 := Lib.hid (FrIn.step hb Ro11.out)
  replace X2 := Lib.hid (range_step hb X2.out)
  replace X3 := Lib.hid (range_step hb X3.out)
  replace X8 := Lib.hid (range_step hb X8.out)
  replace X9 := Lib.hid (range_step hb X9.out)
  clear hb
  go_wp2_with (fail)
  go_ret
  exact ⟨rfl, HB.out⟩

/-- What the row's list gives: the table of powers of ten. -/
theorem table_Repaint {W : World} (h : laidMetH Tryd.prog Rows.fnExactRepaintRow.laid W) : Tab Tryd.prog W := by
  rw [Go.MakeChecks.laidMetH_plain _ _ _ (by kernel_rfl)] at h
  have h2 : laidMet Tryd.prog [("internal/strconv.uint64pow10", Lib.tabData .u64 Lib.pow10Tab)] W := (show laidMet Tryd.prog (_ :: _ :: ("internal/strconv.uint64pow10", Lib.tabData .u64 Lib.pow10Tab) :: []) W from h).tail.tail
  exact Lib.tabIs_of_head (rest := []) (g := 1) (t := 153) (e := 144) (n := 20) (by kernel_rfl) (by kernel_rfl) (by kernel_rfl) (by kernel_rfl) (by kernel_rfl) (by kernel_rfl) h2
/-- The cells that a listed datum of numbers stands for. -/
def put_Repaint (d : DataW Unit) : Obj → Obj
  | .cells _ t frozen => .cells (match d with | .agg l => (l.map fun | .lit (.int k n) => Value.int k n | _ => undef).toArray | _ => #[]) t frozen
  | o => o
noncomputable def laidWorld_Repaint (os : Os) : World :=
  { World.holding Tryd.prog os ⟨#[], #[], []⟩ with heap := ((((World.holding Tryd.prog os ⟨#[], #[], []⟩).heap.modify 2 (put_Repaint Rows.laid_math_bits_deBruijn32tab)).modify 3 (put_Repaint Rows.laid_math_bits_deBruijn64tab)).modify 1 (put_Repaint Rows.laid_internal_strconv_uint64pow10)) }
theorem laid_met_Repaint (os : Os) : laidMet Tryd.prog Rows.fnExactRepaintRow.laid ((laidWorld_Repaint os).forCall (fun _ _ => 0) ⟨#[], #[.agg #[.int .i64 0, .int .i64 0, .slice none 0 0, .int .i64 0, .int .i64 0, .bool false], .agg #[.int .i64 0, .int .i64 0, .slice none 0 0, .int .i64 0, .int .i64 0, .bool false]], []⟩).memory :=
  laidMet_of_run' 8 (by kernel_rfl) (by kernel_rfl)
theorem reads_Repaint (os : Os) {H : Type} (enc : TypeId × Value → H) : ∃ places, DataW.whole enc Tryd.prog ((laidWorld_Repaint os).forCall (fun _ _ => 0) ⟨#[], #[.agg #[.int .i64 0, .int .i64 0, .slice none 0 0, .int .i64 0, .int .i64 0, .bool false], .agg #[.int .i64 0, .int .i64 0, .slice none 0 0, .int .i64 0, .int .i64 0, .bool false]], []⟩).memory Tryd.f4.params.toList Rows.fnExactRepaintSpec.vars false (#[.agg #[.int .i64 0, .int .i64 0, .slice none 0 0, .int .i64 0, .int .i64 0, .bool false], .agg #[.int .i64 0, .int .i64 0, .slice none 0 0, .int .i64 0, .int .i64 0, .bool false]] : Array Value).toList 8 = some ([.agg [.agg [.lit (.int .i64 0), .lit (.int .i64 0), .nil], .lit (.int .i64 0), .lit (.int .i64 0), .lit (.bool false)], .agg [.agg [.lit (.int .i64 0), .lit (.int .i64 0), .nil], .lit (.int .i64 0), .lit (.int .i64 0), .lit (.bool false)]], [], places) :=
  ⟨[], by kernel_rfl⟩
set_option maxRecDepth 100000 in
theorem lifted_Repaint (os : Os) (started : os.Started) (H : Type) (enc : TypeId × Value → H) (F : Stop.Interp) :
    ReturnsInHanded {} Tryd.checked os 4 .any ((OpenSpec.ofChange Rows.fnExactRepaintSpec).preRow enc Tryd.prog Tryd.f4 Rows.fnExactRepaintRow.domain false Rows.fnExactRepaintRow.laid) (((OpenSpec.ofChange Rows.fnExactRepaintSpec).at F).post enc Tryd.prog Tryd.f4 false true false false) := by
  obtain ⟨places, hx⟩ := reads_Repaint os enc
  refine returnsInHanded_of_row (C := Tryd.checked) (s := OpenSpec.ofChange Rows.fnExactRepaintSpec) own_Repaint started (by kernel_rfl) Tryd.func4
    (witness_row_at (enc := enc) (C := Tryd.checked) false (laidWorld_Repaint os) #[.agg #[.int .i64 0, .int .i64 0, .slice none 0 0, .int .i64 0, .int .i64 0, .bool false], .agg #[.int .i64 0, .int .i64 0, .slice none 0 0, .int .i64 0, .int .i64 0, .bool false]] rfl (by kernel_rfl) (by kernel_rfl) (by kernel_rfl)
      (OpenSpec.preRow_of_cond 8 hx (by kernel_rfl) (fun k hk => by cases hk) (by kernel_rfl) (laid_met_Repaint os))) ?_
  intro W base args ds gs before hval0 hW hcnd _ _ hL _ _
  have hval : ∀ (j : Nat) t v, Tryd.f4.params[j]? = some t → args[j]? = some v → Value.okWide Tryd.prog W .any base t v := hval0
  have hW' := hW
  obtain ⟨p, q, hA0, hV, rfl, hfz, hnd⟩ := hW
  have hA : DataW.TrodAll enc Tryd.prog W 0 (fun _ => true) true Tryd.f4.params.toList args.toList ds p := hA0
  rw [Tryd.params4] at hA hval
  obtain ⟨v0, vs0, d0, ds0, p0, q0, hargs, rfl, rfl, h0, r0⟩ := trodAll_cons hA
  obtain ⟨v1, vs1, d1, ds1, p1, q1, rfl, rfl, rfl, h1, r1⟩ := trodAll_cons r0
  obtain ⟨rfl, rfl, rfl⟩ := trodAll_nil r1
  obtain rfl : args = #[v0, v1] := by cases args; simp_all
  obtain ⟨rfl, rfl⟩ := trodVars_none hV
  have k0 := h0
  have lt0 : ∀ x ∈ p0, x.block < W.heap.size := by obtain ⟨m, hm⟩ := k0; exact DataW.trod_lt m _ _ _ hm
  obtain ⟨fuel0, hf0⟩ := h0
  obtain ⟨x0, y0⟩ := read_View _ _ _ _ _ _ _ _ _ hf0
  obtain ⟨as0, rfl, _⟩ := okWide_struct Tryd.underlying26 (hval 0 26 v0 rfl rfl)
  have y0' : Rep.rep W as0.toList x0 := by simpa [Value.cells] using y0
  have ea0 : Value.agg as0 = Value.agg as0.toList.toArray := by simp
  have k1 := h1
  have lt1 : ∀ x ∈ p1, x.block < W.heap.size := by obtain ⟨m, hm⟩ := k1; exact DataW.trod_lt m _ _ _ hm
  obtain ⟨fuel1, hf1⟩ := h1
  obtain ⟨x1, y1⟩ := read_View _ _ _ _ _ _ _ _ _ hf1
  obtain ⟨as1, rfl, _⟩ := okWide_struct Tryd.underlying26 (hval 1 26 v1 rfl rfl)
  have y1' : Rep.rep W as1.toList x1 := by simpa [Value.cells] using y1
  have ea1 : Value.agg as1 = Value.agg as1.toList.toArray := by simp
  clear hA0 hval0
  have hw := law_Repaint W as0.toList x0 as1.toList x1 y0' y1' (table_Repaint hL)
  (try simp only [Array.toArray_toList] at hw)
  refine hw.mono fun e W' ⟨he, bel⟩ => ?_
  subst he
  exact ⟨_, rfl, _, _, _, [], _, [], hW', trodAll_mk1 (shut_bool Tryd.underlying4 _), (trodAll_cons_mk (Below.trod laidOut_Repaint (by kernel_rfl) (of_decide_eq_true (by kernel_rfl)) k0 bel lt0) (trodAll_cons_mk (Below.trod laidOut_Repaint (by kernel_rfl) (of_decide_eq_true (by kernel_rfl)) k1 bel lt1) trodAll_mk0)), rfl, bel.frame _, fun h => by cases h⟩
theorem said_Repaint : Rows.FnExactRepaintSaid :=
  OpenClaim.holds_of_cond 4 Tryd.f4 rfl rfl rfl rfl rfl rfl rfl ⟨rfl, rfl, rfl, rfl, rfl⟩ rfl rfl rfl rfl rfl (by kernel_rfl) Tryd.func4 (by kernel_rfl)
    (of_decide_eq_true (by kernel_rfl)) (by unfold Func.isWrapper; first | (rw [if_pos (by decide +kernel)]; kernel_rfl) | (rw [if_neg (by decide +kernel)]; exact ⟨rfl, rfl⟩))
    (fun os started H enc _ F => by rw [OpenClaim.pre_eq_preRow]; exact lifted_Repaint os started H enc F)
theorem plain_Repaint (f : FuncId) (fn : Func) (hf : Tryd.pinned.checked.prog.funcNamed "loop.example/g00661/laws.FnExactRepaint" = some f) (hfn : Tryd.pinned.checked.prog.funcs[f]? = some fn) :
    false = Tryd.pinned.checked.prog.looks [] ∧ ∀ (j : Nat) t, fn.params[j]? = some t → Tryd.pinned.checked.prog.wantsStandIn t = false := by
  obtain rfl : f = 4 := Option.some.inj ((show Tryd.prog.funcNamed "loop.example/g00661/laws.FnExactRepaint" = some 4 by kernel_rfl).symm.trans hf) |>.symm
  obtain rfl : fn = Tryd.f4 := (Option.some.inj (Tryd.func4.symm.trans hfn)).symm
  refine ⟨by kernel_rfl, fun j t ht => ?_⟩
  rw [Tryd.params4] at ht
  obtain rfl : t = 26 := by simpa using Array.mem_of_getElem? ht
  exact (show Tryd.prog.wantsStandIn 26 = false by kernel_rfl)
theorem proved_Repaint : Rows.FnExactRepaintCardSaid :=
  Claim7.holds_tied_plain_at .later [] _ _ _ _ said_Repaint (fun _ h => by cases h) (by kernel_rfl) (fun _ h => by cases h) fnExactRepaint_row_tie rfl ⟨rfl, rfl⟩ (by kernel_rfl) rfl plain_Repaint (by kernel_rfl)
#print axioms proved_Repaint
end Go.Proofs.YtlkadeaomjoiiaaDoor
