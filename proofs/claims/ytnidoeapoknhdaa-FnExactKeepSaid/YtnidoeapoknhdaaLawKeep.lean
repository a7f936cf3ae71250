/- For every input the exact law of Keep returns true: the program's function and the reference's give the same, the arguments are left as they were, and the result lies in memory of its own. -/
import Derived.Test.YtnidoeapoknhdaaRows
import Derived.Test.YtnidoeapoknhdaaFnKeepLaws
import Derived.Test.YtnidoeapoknhdaaRead
import Derived.Test.YtnidoeapoknhdaaLawMark
import Derived.ProofKit
import Derived.OpenShut
import Derived.ShutString
import Derived.ChangeOld
set_option linter.unusedSimpArgs false
set_option linter.unusedVariables false
namespace Go.Proofs.Ytnidoeapoknhdaa
open Go.RowKit Go.Mux
open Go.ChangeShapes Go.WideShapes Go.ChangeAt
open Go.ChangeMaps (open_string shut_string)
set_option linter.unusedVariables false
theorem own_Keep : ownKnob Try.prog.godebug = none := by kernel_rfl
theorem laidOut_Keep : laidOutB Try.prog = true := by kernel_rfl
set_option maxRecDepth 100000 in
set_option maxHeartbeats 4000000 in
theorem law_Keep (w : World) (v0 : Value) (x0 : List DHist) (x1 : Int) (g0 : RepS w v0 x0) (g1 : I64 x1) :
    Calls Try.prog 6 #[v0, .int .i64 x1] w fun e w' => e = .returned (.bool true) ∧ Below w.heap.size w w' := by
  have Rp0 := Lib.hid g0
  clear g0
  have G1 := Lib.hid g1
  unfold I64 at g1
  obtain ⟨gl1, gh1⟩ := g1
  have HB := Lib.hid (Below.refl w.heap.size w)
  have wl0 := sum_wt_le DHist.wt_le x0
  have wg0 := keep_wt x0 x1
  go_enter Try.func6, Try.ntmps6
  go_wp2_with (fail)
  refine (szHistS_any _ v0 x0 (1048576 : Int) (RepS.mono Rp0.out HB.out) (by omega) (by omega)).mono ?_
  rintro e W1 ⟨_, rfl, ⟨r, rfl, hr⟩, hb⟩
  have z1 := hb.size
  (try simp only [World.size_alloc, drew_size] at z1)
  replace HB := Lib.hid (bel_step HB.out hb)
  clear hb
  rcases hr with ⟨rfl, hs1⟩ | ⟨rfl, hs1⟩
  · go_wp2_with fail
    go_ret
    exact ⟨rfl, HB.out⟩
  go_wp2_with (fail)
  refine (toHistS_any _ v0 x0 (RepS.mono Rp0.out HB.out) (by omega)).mono ?_
  rintro e W2 ⟨vW2, rfl, hF, hb⟩
  have z2 := hb.size
  (try simp only [World.size_alloc, drew_size] at z2)
  replace HB := Lib.hid (bel_step HB.out hb)
  have Ro1 := Lib.hid hF.frIn
  clear hF hb
  go_wp2_with (fail)
  refine (spec_Keep _ vW2 x0 x1 Ro1.out.repS G1.out (by omega)).mono ?_
  rintro e W3 ⟨vW3_0, rfl, hF0, hb⟩
  have z3 := hb.size
  (try simp only [World.size_alloc, drew_size] at z3)
  replace HB := Lib.hid (bel_step HB.out hb)
  replace Ro1 := Lib.hid (FrIn.step hb Ro1.out)
  have Ro2 := Lib.hid hF0
  have Co2 := Lib.hid (Below.refl W3.heap.size W3)
  clear hF0
  clear hb
  go_wp2_with (fail)
  refine (toHistS_any _ v0 x0 (RepS.mono Rp0.out HB.out) (by omega)).mono ?_
  rintro e W4 ⟨vW4, rfl, hF, hb⟩
  have z4 := hb.size
  (try simp only [World.size_alloc, drew_size] at z4)
  replace HB := Lib.hid (bel_step HB.out hb)
  replace Ro1 := Lib.hid (FrIn.step hb Ro1.out)
  replace Co2 := Lib.hid (bel_step Co2.out hb)
  have Ro3 := Lib.hid hF.frIn
  clear hF hb
  go_wp2_with (fail)
  refine (impl_Keep _ vW4 x0 x1 Ro3.out.repS G1.out (by omega)).mono ?_
  rintro e W5 ⟨vW5_0, rfl, hF0, hb⟩
  have z5 := hb.size
  (try simp only [World.size_alloc, drew_size] at z5)
  replace HB := Lib.hid (bel_step HB.out hb)
  replace Ro1 := Lib.hid (FrIn.step hb Ro1.out)
  replace Co2 := Lib.hid (bel_step Co2.out hb)
  replace Ro3 := Lib.hid (FrIn.step hb Ro3.out)
  have Ro4 := Lib.hid hF0.frIn
  clear hF0
  clear hb
  go_wp2_with (fail)
  refine (eqHistS_refl _ vW5_0 vW3_0 (keep x0 x1) Ro4.out.repS (RepS.mono Ro2.out Co2.out)).mono ?_
  rintro e W6 ⟨_, rfl, rfl, hb⟩
  have z6 := hb.size
  (try simp only [World.size_alloc, drew_size] at z6)
  replace HB := Lib.hid (bel_step HB.out hb)
  replace Ro1 := Lib.hid (FrIn.step hb Ro1.out)
  replace Co2 := Lib.hid (bel_step Co2.out hb)
  replace Ro3 := Lib.hid (FrIn.step hb Ro3.out)
  replace Ro4 := Lib.hid (FrIn.step hb Ro4.out)
  clear hb
  go_wp2_with (fail)
  refine (toHistS_any _ v0 x0 (RepS.mono Rp0.out HB.out) (by omega)).mono ?_
  rintro e W7 ⟨vW7, rfl, hF, hb⟩
  have z7 := hb.size
  (try simp only [World.size_alloc, drew_size] at z7)
  replace HB := Lib.hid (bel_step HB.out hb)
  replace Ro1 := Lib.hid (FrIn.step hb Ro1.out)
  replace Co2 := Lib.hid (bel_step Co2.out hb)
  replace Ro3 := Lib.hid (FrIn.step hb Ro3.out)
  replace Ro4 := Lib.hid (FrIn.step hb Ro4.out)
  have Ro5 := Lib.hid hF.frIn
  clear hF hb
  go_wp2_with (fail)
  refine (eqHistS_refl _ vW4 vW7 x0 Ro3.out.repS Ro5.out.repS).mono ?_
  rintro e W8 ⟨_, rfl, rfl, hb⟩
  have z8 := hb.size
  (try simp only [World.size_alloc, drew_size] at z8)
  replace HB := Lib.hid (bel_step HB.out hb)
  replace Ro1 := Lib.hid (FrIn.step hb Ro1.out)
  replace Co2 := Lib.hid (bel_step Co2.out hb)
  replace Ro3 := Lib.hid (FrIn.step hb Ro3.out)
  replace Ro4 := Lib.hid (FrIn.step hb Ro4.out)
  replace Ro5 := Lib.hid (FrIn.step hb Ro5.out)
  clear hb
  go_wp2_with (fail)
  obtain ⟨fq, hwn, hnd, hbd⟩ := Ro3.out
  refine (markHistS_any _ vW4 x0 (1 : Int) fq (own_slice hwn) hnd (by omega) (by omega)).mono ?_
  rintro e W9 ⟨kW9, yW9, rfl, hkW9, hlW9, ho, hH, hm⟩
  have hdW9 : decide (kW9 < 0) = false := decide_eq_false (by omega)
  have z9 := hm.size
  have hR : FrIn _ _ _ _ _ := ⟨fq, ho, hnd, hbd⟩
  clear Ro3 hwn ho
  replace HB := Lib.hid (Below.trans HB.out (hm.below HB.out.size (fun b hb => by have := (hbd b hb).1; omega)))
  replace Ro1 := Lib.hid (FrIn.marked hm hbd Ro1.out (by omega))
  replace Co2 := Lib.hid (Below.trans Co2.out (hm.below Co2.out.size (fun b hb => by have := (hbd b hb).1; omega)))
  replace Ro4 := Lib.hid (FrIn.marked hm hbd Ro4.out (by omega))
  replace Ro5 := Lib.hid (FrIn.marked hm hbd Ro5.out (by omega))
  have Ro3 := Lib.hid hR
  have MKo3 := Lib.hid hH
  clear hR hH hm hbd hnd
  go_wp2_with (fail)
  refine (eqHistS_refl _ vW5_0 vW3_0 (keep x0 x1) Ro4.out.repS (RepS.mono Ro2.out Co2.out)).mono ?_
  rintro e W10 ⟨_, rfl, rfl, hb⟩
  have z10 := hb.size
  (try simp only [World.size_alloc, drew_size] at z10)
  replace HB := Lib.hid (bel_step HB.out hb)
  replace Ro1 := Lib.hid (FrIn.step hb Ro1.out)
  replace Co2 := Lib.hid (bel_step Co2.out hb)
  replace Ro4 := Lib.hid (FrIn.step hb Ro4.out)
  replace Ro5 := Lib.hid (FrIn.step hb Ro5.out)
  replace Ro3 := Lib.hid (FrIn.step hb Ro3.out)
  clear hb
  go_wp2_with (fail)
  obtain ⟨fq, hwn, hnd, hbd⟩ := Ro4.out
  refine (markHistS_any _ vW5_0 (keep x0 x1) (1 : Int) fq (own_slice hwn) hnd (by omega) (by omega)).mono ?_
  rintro e W11 ⟨kW11, yW11, rfl, hkW11, hlW11, ho, hH, hm⟩
  have hdW11 : decide (kW11 < 0) = false := decide_eq_false (by omega)
  have z11 := hm.size
  have hR : FrIn _ _ _ _ _ := ⟨fq, ho, hnd, hbd⟩
  clear Ro4 hwn ho
  replace HB := Lib.hid (Below.trans HB.out (hm.below HB.out.size (fun b hb => by have := (hbd b hb).1; omega)))
  replace Ro1 := Lib.hid (FrIn.marked hm hbd Ro1.out (by omega))
  replace Co2 := Lib.hid (Below.trans Co2.out (hm.below Co2.out.size (fun b hb => by have := (hbd b hb).1; omega)))
  replace Ro5 := Lib.hid (FrIn.marked hm hbd Ro5.out (by omega))
  replace Ro3 := Lib.hid (FrIn.marked hm hbd Ro3.out (by omega))
  have Ro4 := Lib.hid hR
  have MKo4 := Lib.hid hH
  clear hR hH hm hbd hnd
  go_wp2_with (fail)
  refine (heldHistS_any _ vW5_0 yW11 (1 : Int) kW11 Ro4.out.repS MKo4.out (by omega) (by omega)).mono ?_
  rintro e W12 ⟨_, rfl, rfl, hb⟩
  have z12 := hb.size
  (try simp only [World.size_alloc, drew_size] at z12)
  replace HB := Lib.hid (bel_step HB.out hb)
  replace Ro1 := Lib.hid (FrIn.step hb Ro1.out)
  replace Co2 := Lib.hid (bel_step Co2.out hb)
  replace Ro5 := Lib.hid (FrIn.step hb Ro5.out)
  replace Ro3 := Lib.hid (FrIn.step hb Ro3.out)
  replace Ro4 := Lib.hid (FrIn.step hb Ro4.out)
  clear hb
  go_wp2_with (fail)
  refine (toHistS_any _ v0 x0 (RepS.mono Rp0.out HB.out) (by omega)).mono ?_
  rintro e W13 ⟨vW13, rfl, hF, hb⟩
  have z13 := hb.size
  (try simp only [World.size_alloc, drew_size] at z13)
  replace HB := Lib.hid (bel_step HB.out hb)
  replace Ro1 := Lib.hid (FrIn.step hb Ro1.out)
  replace Co2 := Lib.hid (bel_step Co2.out hb)
  replace Ro5 := Lib.hid (FrIn.step hb Ro5.out)
  replace Ro3 := Lib.hid (FrIn.step hb Ro3.out)
  replace Ro4 := Lib.hid (FrIn.step hb Ro4.out)
  have Ro6 := Lib.hid hF.frIn
  clear hF hb
  go_wp2_with (fail)
  refine (impl_Keep _ vW13 x0 x1 Ro6.out.repS G1.out (by omega)).mono ?_
  rintro e W14 ⟨vW14_0, rfl, hF0, hb⟩
  have z14 := hb.size
  (try simp only [World.size_alloc, drew_size] at z14)
  replace HB := Lib.hid (bel_step HB.out hb)
  replace Ro1 := Lib.hid (FrIn.step hb Ro1.out)
  replace Co2 := Lib.hid (bel_step Co2.out hb)
  replace Ro5 := Lib.hid (FrIn.step hb Ro5.out)
  replace Ro3 := Lib.hid (FrIn.step hb Ro3.out)
  replace Ro4 := Lib.hid (FrIn.step hb Ro4.out)
  replace Ro6 := Lib.hid (FrIn.step hb Ro6.out)
  have Ro7 := Lib.hid hF0.frIn
  clear hF0
  clear hb
  go_wp2_with (fail)
  refine (eqHistS_refl _ vW14_0 vW3_0 (keep x0 x1) Ro7.out.repS (RepS.mono Ro2.out Co2.out)).mono ?_
  rintro e W15 ⟨_, rfl, rfl, hb⟩
  have z15 := hb.size
  (try simp only [World.size_alloc, drew_size] at z15)
  replace HB := Lib.hid (bel_step HB.out hb)
  replace Ro1 := Lib.hid (FrIn.step hb Ro1.out)
  replace Co2 := Lib.hid (bel_step Co2.out hb)
  replace Ro5 := Lib.hid (FrIn.step hb Ro5.out)
  replace Ro3 := Lib.hid (FrIn.step hb Ro3.out)
  replace Ro4 := Lib.hid (FrIn.step hb Ro4.out)
  replace Ro6 := Lib.hid (FrIn.step hb Ro6.out)
  replace Ro7 := Lib.hid (FrIn.step hb Ro7.out)
  clear hb
  go_wp2_with (fail)
  refine (heldHistS_any _ vW5_0 yW11 (1 : Int) kW11 Ro4.out.repS MKo4.out (by omega) (by omega)).mono ?_
  rintro e W16 ⟨_, rfl, rfl, hb⟩
  have z16 := hb.size
  (try simp only [World.size_alloc, drew_size] at z16)
  replace HB := Lib.hid (bel_step HB.out hb)
  replace Ro1 := Lib.hid (FrIn.step hb Ro1.out)
  replace Co2 := Lib.hid (bel_step Co2.out hb)
  replace Ro5 := Lib.hid (FrIn.step hb Ro5.out)
  replace Ro3 := Lib.hid (FrIn.step hb Ro3.out)
  replace Ro4 := Lib.hid (FrIn.step hb Ro4.out)
  replace Ro6 := Lib.hid (FrIn.step hb Ro6.out)
  replace Ro7 := Lib.hid (FrIn.step hb Ro7.out)
  clear hb
  go_wp2_with (fail)
  go_ret
  exact ⟨rfl, HB.out⟩

set_option maxRecDepth 100000 in
theorem lifted_Keep (os : Os) (started : os.Started) (H : Type) (enc : TypeId × Value → H) :
    ReturnsInHanded {} Try.checked os 6 .any (Rows.fnExactKeepSpec.pre6 enc Try.prog Try.f6 Rows.fnExactKeepRow.domain false) (Rows.fnExactKeepSpec.post enc Try.prog Try.f6 false true false false) := by
  refine returnsInHanded_of_change (C := Try.checked) own_Keep started (by kernel_rfl) Try.func6
    (ChangeSpec.witness6 (enc := enc) (C := Try.checked) false ⟨#[], #[.slice none 0 0, .int .i64 0], []⟩ 8 (by kernel_rfl) (by kernel_rfl) (by kernel_rfl) (by kernel_rfl)) ?_
  intro W base args ds gs before hval0 hW hcnd _
  have hval : ∀ (j : Nat) t v, Try.f6.params[j]? = some t → args[j]? = some v → Value.okWide Try.prog W .any base t v := hval0
  have hW' := hW
  obtain ⟨p, q, hA0, hV, rfl, hfz, hnd⟩ := hW
  have hA : DataW.TrodAll enc Try.prog W 0 (fun _ => true) true Try.f6.params.toList args.toList ds p := hA0
  rw [Try.params6] at hA hval
  obtain ⟨v0, vs0, d0, ds0, p0, q0, hargs, rfl, rfl, h0, r0⟩ := trodAll_cons hA
  obtain ⟨v1, vs1, d1, ds1, p1, q1, rfl, rfl, rfl, h1, r1⟩ := trodAll_cons r0
  obtain ⟨rfl, rfl, rfl⟩ := trodAll_nil r1
  obtain rfl : args = #[v0, v1] := by cases args; simp_all
  obtain ⟨rfl, rfl⟩ := trodVars_none hV
  have k0 := h0
  have lt0 : ∀ x ∈ p0, x.block < W.heap.size := by obtain ⟨m, hm⟩ := k0; exact DataW.trod_lt m _ _ _ hm
  obtain ⟨fuel0, hf0⟩ := h0
  obtain ⟨x0, y0⟩ := read_HistS _ _ _ _ _ _ _ _ _ hf0
  obtain ⟨sa0, sn0, sc0, rfl⟩ := okWide_slice Try.underlying22 (hval 0 22 v0 rfl rfl)
  obtain ⟨u0, hu0, y0⟩ := y0
  obtain rfl : Value.slice sa0 sn0 sc0 = u0 := by simpa [Value.cells] using hu0
  obtain ⟨x1, rfl, rfl, rfl, w1⟩ := open_int Try.underlying3 (hval 1 3 v1 rfl rfl) h1
  clear hA0 hval0
  have hw := law_Keep W _ x0 x1 y0 (wf_I64 w1)
  (try simp only [Array.toArray_toList] at hw)
  refine hw.mono fun e W' ⟨he, bel⟩ => ?_
  subst he
  exact ⟨_, rfl, _, _, _, [], _, [], hW', trodAll_mk1 (shut_bool Try.underlying4 _), (trodAll_cons_mk (Below.trod laidOut_Keep (by kernel_rfl) (of_decide_eq_true (by kernel_rfl)) k0 bel lt0) (trodAll_cons_mk (shut_int Try.underlying3 w1) trodAll_mk0)), rfl, bel.frame _, fun h => by cases h⟩
theorem over_Keep : Rows.fnExactKeepRow.holds Try.pinned (OpenSpec.ofChange Rows.fnExactKeepSpec) :=
  OpenClaim.holds_of_wide 6 Try.f6 rfl rfl rfl rfl rfl rfl rfl ⟨rfl, rfl, rfl, rfl, rfl⟩ rfl rfl rfl rfl rfl (by kernel_rfl) Try.func6 (by kernel_rfl)
    (of_decide_eq_true (by kernel_rfl)) (by unfold Func.isWrapper; first | (rw [if_pos (by decide +kernel)]; kernel_rfl) | (rw [if_neg (by decide +kernel)]; exact ⟨rfl, rfl⟩))
    (fun os started H enc _ => lifted_Keep os started H enc)
theorem proved_Keep : Rows.FnExactKeepSaid := over_Keep
#print axioms proved_Keep
end Go.Proofs.Ytnidoeapoknhdaa
