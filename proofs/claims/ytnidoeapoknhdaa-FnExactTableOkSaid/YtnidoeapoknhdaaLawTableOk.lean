/- For every input the exact law of TableOk returns true: the program's function and the reference's give the same, the arguments are left as they were. -/
import Derived.Test.YtnidoeapoknhdaaRows
import Derived.Test.YtnidoeapoknhdaaFnTableOk
import Derived.Test.YtnidoeapoknhdaaRead
import Derived.Test.YtnidoeapoknhdaaLawBase
import Derived.ProofKit
import Derived.OpenShut
import Derived.ShutString
import Derived.ChangeOld
set_option linter.unusedSimpArgs false
set_option linter.unusedVariables false
namespace Go.Proofs.Ytnidoeapoknhdaa
open Go.RowKit Go.Mux
open Go.ChangeShapes Go.WideShapes Go.ChangeAt
open Go.ChangeMaps (open_string shut_string)
set_option linter.unusedVariables false
theorem own_TableOk : ownKnob Try.prog.godebug = none := by kernel_rfl
theorem laidOut_TableOk : laidOutB Try.prog = true := by kernel_rfl
set_option maxRecDepth 100000 in
set_option maxHeartbeats 4000000 in
theorem law_TableOk (w : World) (cs0 : List Value) (x0 : DTable) (g0 : Rep.rep w cs0 x0) :
    Calls Try.prog 5 #[.agg cs0.toArray] w fun e w' => e = .returned (.bool true) ∧ Below w.heap.size w w' := by
  have Rp0 := Lib.hid g0
  clear g0
  have X1 := Lib.hid (range_box w 47 cs0)
  have HB := Lib.hid (bel_alloc (Below.refl w.heap.size w) (.cells cs0.toArray 47))
  have Lp0 := Lib.hid (Rep.len Rp0.out)
  have ONEp0 := Lib.hid (Rep.one Rp0.out)
  go_enter Try.func5, Try.ntmps5
  go_wp2_with (first | ((with_reducible (show wpList _ _ _ (Oper.mk _ (Op.load 47 (Operand.tmp 1)) _ _ _ _ :: _) _ _)); refine wpList_load_box rfl 47 _ rfl _ _ rfl cs0 X1.out Try.underlying47 (by rw [Lp0.out]; exact size_lawsTable) ?_))
  refine (szTable_any _ cs0 x0 (1048576 : Int) (Rep.mono Rp0.out HB.out) (by omega) (by omega)).mono ?_
  rintro e W1 ⟨_, rfl, ⟨r, rfl, hr⟩, hb⟩
  have z1 := hb.size
  (try simp only [World.size_alloc, drew_size] at z1)
  replace HB := Lib.hid (bel_step HB.out hb)
  replace X1 := Lib.hid (range_step hb X1.out)
  clear hb
  rcases hr with ⟨rfl, hs1⟩ | ⟨rfl, hs1⟩
  · go_wp2_with fail
    go_ret
    exact ⟨rfl, HB.out⟩
  go_wp2_with (first | ((with_reducible (show wpList _ _ _ (Oper.mk _ (Op.load 47 (Operand.tmp 1)) _ _ _ _ :: _) _ _)); refine wpList_load_box rfl 47 _ rfl _ _ rfl cs0 X1.out Try.underlying47 (by rw [Lp0.out]; exact size_lawsTable) ?_))
  refine (toTable_any _ cs0 x0 (Rep.mono Rp0.out HB.out) (by omega)).mono ?_
  rintro e W2 ⟨_, rfl, ⟨cW2, rfl, hF⟩, hb⟩
  have z2 := hb.size
  (try simp only [World.size_alloc, drew_size] at z2)
  replace HB := Lib.hid (bel_step HB.out hb)
  replace X1 := Lib.hid (range_step hb X1.out)
  have Ro1 := Lib.hid hF.frIn
  have Lo1 := Lib.hid (Rep.len hF.rep)
  have ONEo1 := Lib.hid (Rep.one hF.rep)
  clear hF hb
  go_wp2_with (fail)
  refine (spec_TableOk _ cW2 x0 Ro1.out.rep (by omega)).mono ?_
  rintro e W3 ⟨_, rfl, rfl, hb⟩
  have z3 := hb.size
  (try simp only [World.size_alloc, drew_size] at z3)
  replace HB := Lib.hid (bel_step HB.out hb)
  replace Ro1 := Lib.hid (FrIn.step hb Ro1.out)
  replace X1 := Lib.hid (range_step hb X1.out)
  clear hb
  go_wp2_with (first | ((with_reducible (show wpList _ _ _ (Oper.mk _ (Op.load 47 (Operand.tmp 1)) _ _ _ _ :: _) _ _)); refine wpList_load_box rfl 47 _ rfl _ _ rfl cs0 X1.out Try.underlying47 (by rw [Lp0.out]; exact size_lawsTable) ?_))
  refine (toTable_any _ cs0 x0 (Rep.mono Rp0.out HB.out) (by omega)).mono ?_
  rintro e W4 ⟨_, rfl, ⟨cW4, rfl, hF⟩, hb⟩
  have z4 := hb.size
  (try simp only [World.size_alloc, drew_size] at z4)
  replace HB := Lib.hid (bel_step HB.out hb)
  replace Ro1 := Lib.hid (FrIn.step hb Ro1.out)
  replace X1 := Lib.hid (range_step hb X1.out)
  have Ro2 := Lib.hid hF.frIn
  have Lo2 := Lib.hid (Rep.len hF.rep)
  have ONEo2 := Lib.hid (Rep.one hF.rep)
  clear hF hb
  go_wp2_with (first | ((with_reducible (show wpList _ _ _ (Oper.mk _ (Op.store 53 (Operand.tmp 5) _) _ _ _ _ :: _) _ _)); refine wpList_store_at rfl 53 _ _ rfl _ 0 rfl _ rfl cW4 rfl _ _ (heap_alloc_new _ _) (by rw [Lo2.out]; decide) ONEo2.out (by rw [Lo2.out]; exact size_implTable) ?_; intro W5 hW; obtain ⟨hb, hX, hzz⟩ := store_new hW (by rw [Lo2.out]; rfl); clear hW; replace HB := Lib.hid (bel_step HB.out hb); replace Ro1 := Lib.hid (FrIn.step hb Ro1.out); replace Ro2 := Lib.hid (FrIn.step hb Ro2.out); replace X1 := Lib.hid (range_step hb X1.out); have X5 := Lib.hid hX; have z5 : W4.heap.size + 1 ≤ W5.heap.size := (by omega); clear hX hzz hb) | ((with_reducible (show wpList _ _ _ (Oper.mk _ (Op.load 53 (Operand.tmp 5)) _ _ _ _ :: _) _ _)); refine wpList_load_box rfl 53 _ rfl _ _ rfl cW4 X5.out Try.underlying53 (by rw [Lo2.out]; exact size_implTable) ?_))
  refine (impl_TableOk _ cW4 x0 Ro2.out.rep).mono ?_
  rintro e W6 ⟨_, rfl, rfl, hb⟩
  have z6 := hb.size
  (try simp only [World.size_alloc, drew_size] at z6)
  replace HB := Lib.hid (bel_step HB.out hb)
  replace Ro1 := Lib.hid (FrIn.step hb Ro1.out)
  replace Ro2 := Lib.hid (FrIn.step hb Ro2.out)
  replace X1 := Lib.hid (range_step hb X1.out)
  replace X5 := Lib.hid (range_step hb X5.out)
  clear hb
  go_wp2_with (fail)
  refine wp_region_held_drew (S := fun w' => w'.rangeAt (W4.heap.size) 0 cW4 ∧ w'.rangeAt (w.heap.size) 0 cs0) (by kernel_rfl) ⟨X5.out, X1.out⟩ (fun hHeld => ?_)
  have hb := bel_drew W6
  obtain ⟨W7, hWd⟩ : ∃ W, W = W6.drew := ⟨_, rfl⟩
  rw [← hWd] at hHeld hb ⊢
  clear hWd
  have z7 := hb.size
  (try simp only [World.size_alloc, drew_size] at z7)
  replace HB := Lib.hid (bel_step HB.out hb)
  replace Ro1 := Lib.hid (FrIn.step hb Ro1.out)
  replace Ro2 := Lib.hid (FrIn.step hb Ro2.out)
  replace X1 := Lib.hid (range_step hb X1.out)
  replace X5 := Lib.hid (range_step hb X5.out)
  clear hb
  refine wpAnyH_take (i := 0) (v := .agg cW4.toArray) rfl (by kernel_rfl) (by kernel_rfl) (by kernel_rfl) (fun _ _ _ h => h) (yieldsIf_load_mid (by rfl) 53 _ rfl _ 0 rfl cW4 _ (fun _ h => h.1) Try.underlying53 rfl (by rw [Lo2.out]; exact size_implTable)) hHeld ?_
  simp only [Act.put, List.setIfInBounds_toArray, List.set_cons_zero, List.set_cons_succ]
  refine wpAnyH_take (i := 1) (v := .agg cs0.toArray) rfl (by kernel_rfl) (by kernel_rfl) (by kernel_rfl) (fun _ _ _ h => h) (yieldsIf_load_mid (by rfl) 47 _ rfl _ 0 rfl cs0 _ (fun _ h => h.2) Try.underlying47 rfl (by rw [Lp0.out]; exact size_lawsTable)) hHeld ?_
  simp only [Act.put, List.setIfInBounds_toArray, List.set_cons_zero, List.set_cons_succ]
  refine wpAnyH_ready (rs := [2]) (by kernel_rfl) (by simp) ?_
  refine AllReadyH.cons rfl (fun K hK => ?_) AllReadyH.nil
  go_simp
  refine (toTable_any _ cs0 x0 (Rep.mono Rp0.out HB.out) (by omega)).mono ?_
  rintro e W8 ⟨_, rfl, ⟨cW8, rfl, hF⟩, hb⟩
  have z8 := hb.size
  (try simp only [World.size_alloc, drew_size] at z8)
  replace HB := Lib.hid (bel_step HB.out hb)
  replace Ro1 := Lib.hid (FrIn.step hb Ro1.out)
  replace Ro2 := Lib.hid (FrIn.step hb Ro2.out)
  replace X1 := Lib.hid (range_step hb X1.out)
  replace X5 := Lib.hid (range_step hb X5.out)
  have Ro3 := Lib.hid hF.frIn
  have Lo3 := Lib.hid (Rep.len hF.rep)
  have ONEo3 := Lib.hid (Rep.one hF.rep)
  clear hF hb
  refine hK.out _ _ ⟨X5.out, X1.out⟩ (fun hHeld => ?_)
  clear hK K
  (try simp only [Act.put, List.setIfInBounds_toArray, List.set_cons_zero, List.set_cons_succ])
  refine wpAnyH_ready (rs := [3]) (by kernel_rfl) (by simp) ?_
  refine AllReadyH.cons rfl (fun K hK => ?_) AllReadyH.nil
  go_simp
  refine (eqTable_refl _ cW4 cW8 x0 Ro2.out.rep Ro3.out.rep).mono ?_
  rintro e W9 ⟨_, rfl, rfl, hb⟩
  have z9 := hb.size
  (try simp only [World.size_alloc, drew_size] at z9)
  replace HB := Lib.hid (bel_step HB.out hb)
  replace Ro1 := Lib.hid (FrIn.step hb Ro1.out)
  replace Ro2 := Lib.hid (FrIn.step hb Ro2.out)
  replace Ro3 := Lib.hid (FrIn.step hb Ro3.out)
  replace X1 := Lib.hid (range_step hb X1.out)
  replace X5 := Lib.hid (range_step hb X5.out)
  clear hb
  refine hK.out _ _ ⟨X5.out, X1.out⟩ (fun hHeld => ?_)
  clear hK K
  (try simp only [Act.put, List.setIfInBounds_toArray, List.set_cons_zero, List.set_cons_succ])
  refine wpAnyH_ready (rs := [4]) (by kernel_rfl) (by simp) ?_
  refine AllReadyH.cons rfl (fun K hK => ?_) AllReadyH.nil
  go_simp
  refine hK.out _ _ ⟨X5.out, X1.out⟩ (fun hHeld => ?_)
  clear hK K
  (try simp only [Act.put, List.setIfInBounds_toArray, List.set_cons_zero, List.set_cons_succ])
  refine wpAnyH_done (by kernel_rfl) ?_ _
  go_wp2_with (fail)
  go_ret
  exact ⟨rfl, HB.out⟩

set_option maxRecDepth 100000 in
theorem lifted_TableOk (os : Os) (started : os.Started) (H : Type) (enc : TypeId × Value → H) :
    ReturnsInHanded {} Try.checked os 5 .any (Rows.fnExactTableOkSpec.pre6 enc Try.prog Try.f5 Rows.fnExactTableOkRow.domain false) (Rows.fnExactTableOkSpec.post enc Try.prog Try.f5 false true false false) := by
  refine returnsInHanded_of_change (C := Try.checked) own_TableOk started (by kernel_rfl) Try.func5
    (ChangeSpec.witness6 (enc := enc) (C := Try.checked) false ⟨#[], #[.agg #[.int .i64 0, .slice none 0 0, .slice none 0 0]], []⟩ 8 (by kernel_rfl) (by kernel_rfl) (by kernel_rfl) (by kernel_rfl)) ?_
  intro W base args ds gs before hval0 hW hcnd _
  have hval : ∀ (j : Nat) t v, Try.f5.params[j]? = some t → args[j]? = some v → Value.okWide Try.prog W .any base t v := hval0
  have hW' := hW
  obtain ⟨p, q, hA0, hV, rfl, hfz, hnd⟩ := hW
  have hA : DataW.TrodAll enc Try.prog W 0 (fun _ => true) true Try.f5.params.toList args.toList ds p := hA0
  rw [Try.params5] at hA hval
  obtain ⟨v0, vs0, d0, ds0, p0, q0, hargs, rfl, rfl, h0, r0⟩ := trodAll_cons hA
  obtain ⟨rfl, rfl, rfl⟩ := trodAll_nil r0
  obtain rfl : args = #[v0] := by cases args; simp_all
  obtain ⟨rfl, rfl⟩ := trodVars_none hV
  have k0 := h0
  have lt0 : ∀ x ∈ p0, x.block < W.heap.size := by obtain ⟨m, hm⟩ := k0; exact DataW.trod_lt m _ _ _ hm
  obtain ⟨fuel0, hf0⟩ := h0
  obtain ⟨x0, y0⟩ := read_Table _ _ _ _ _ _ _ _ _ hf0
  obtain ⟨as0, rfl, _⟩ := okWide_struct Try.underlying47 (hval 0 47 v0 rfl rfl)
  have y0' : Rep.rep W as0.toList x0 := by simpa [Value.cells] using y0
  have ea0 : Value.agg as0 = Value.agg as0.toList.toArray := by simp
  clear hA0 hval0
  have hw := law_TableOk W as0.toList x0 y0'
  (try simp only [Array.toArray_toList] at hw)
  refine hw.mono fun e W' ⟨he, bel⟩ => ?_
  subst he
  exact ⟨_, rfl, _, _, _, [], _, [], hW', trodAll_mk1 (shut_bool Try.underlying4 _), (trodAll_cons_mk (Below.trod laidOut_TableOk (by kernel_rfl) (of_decide_eq_true (by kernel_rfl)) k0 bel lt0) trodAll_mk0), rfl, bel.frame _, fun h => by cases h⟩
theorem over_TableOk : Rows.fnExactTableOkRow.holds Try.pinned (OpenSpec.ofChange Rows.fnExactTableOkSpec) :=
  OpenClaim.holds_of_wide 5 Try.f5 rfl rfl rfl rfl rfl rfl rfl ⟨rfl, rfl, rfl, rfl, rfl⟩ rfl rfl rfl rfl rfl (by kernel_rfl) Try.func5 (by kernel_rfl)
    (of_decide_eq_true (by kernel_rfl)) (by unfold Func.isWrapper; first | (rw [if_pos (by decide +kernel)]; kernel_rfl) | (rw [if_neg (by decide +kernel)]; exact ⟨rfl, rfl⟩))
    (fun os started H enc _ => lifted_TableOk os started H enc)
theorem proved_TableOk : Rows.FnExactTableOkSaid := over_TableOk
#print axioms proved_TableOk
end Go.Proofs.Ytnidoeapoknhdaa
