/- For every input the exact law of OpsOf returns true: the program's function and the reference's give the same, the arguments are left as they were. -/
import Derived.Test.YtnidoeapoknhdaaRows
import Derived.Test.YtnidoeapoknhdaaFnOps
import Derived.Test.YtnidoeapoknhdaaRead
import Derived.Test.YtnidoeapoknhdaaLawBase
import Derived.ProofKit
import Derived.OpenShut
import Derived.ShutString
import Derived.ChangeOld
namespace Go.Proofs.Ytnidoeapoknhdaa
open Go.RowKit Go.Mux
open Go.ChangeShapes Go.WideShapes Go.ChangeAt
open Go.ChangeMaps (open_string shut_string)
set_option linter.unusedVariables false
theorem own_OpsOf : ownKnob Try.prog.godebug = none := by kernel_rfl
theorem laidOut_OpsOf : laidOutB Try.prog = true := by kernel_rfl
set_option maxRecDepth 100000 in
set_option maxHeartbeats 4000000 in
theorem law_OpsOf (w : World) (v0 : Value) (x0 : List DHist) (g0 : RepS w v0 x0) :
    Calls Try.prog 3 #[v0] w fun e w' => e = .returned (.bool true) ∧ Below w.heap.size w w' := by
  have Rp0 := Lib.hid g0
  clear g0
  have HB := Lib.hid (Below.refl w.heap.size w)
  go_enter Try.func3, Try.ntmps3
  go_wp2_with (fail)
  refine (szHistS_any _ v0 x0 _ (RepS.mono Rp0.out HB.out) (by omega) (by omega)).mono ?_
  rintro e W1 ⟨_, rfl, ⟨r, rfl, hr⟩, hb⟩
  have z1 := hb.size
  (try simp only [World.size_alloc, drew_size] at z1)
  replace HB := Lib.hid (bel_step HB.out hb)
  clear hb
  rcases hr with ⟨rfl, hs1⟩ | ⟨rfl, hs1⟩
  · go_wp2_with fail
    go_ret
    exact ⟨rfl, HB.out⟩
  go_wp2_with (fail)
  refine (toHistS_any _ v0 x0 (RepS.mono Rp0.out HB.out) (by omega)).mono ?_
  rintro e W2 ⟨vW2, rfl, hF, hb⟩
  have z2 := hb.size
  (try simp only [World.size_alloc, drew_size] at z2)
  replace HB := Lib.hid (bel_step HB.out hb)
  have Ro1 := Lib.hid hF.frIn
  clear hF hb
  go_wp2_with (fail)
  refine (spec_OpsOf _ vW2 x0 Ro1.out.repS).mono ?_
  rintro e W3 ⟨_, rfl, rfl, hb⟩
  have z3 := hb.size
  (try simp only [World.size_alloc, drew_size] at z3)
  replace HB := Lib.hid (bel_step HB.out hb)
  replace Ro1 := Lib.hid (FrIn.step hb Ro1.out)
  clear hb
  go_wp2_with (fail)
  refine (toHistS_any _ v0 x0 (RepS.mono Rp0.out HB.out) (by omega)).mono ?_
  rintro e W4 ⟨vW4, rfl, hF, hb⟩
  have z4 := hb.size
  (try simp only [World.size_alloc, drew_size] at z4)
  replace HB := Lib.hid (bel_step HB.out hb)
  replace Ro1 := Lib.hid (FrIn.step hb Ro1.out)
  have Ro2 := Lib.hid hF.frIn
  clear hF hb
  go_wp2_with (fail)
  refine (impl_OpsOf _ vW4 x0 Ro2.out.repS).mono ?_
  rintro e W5 ⟨_, rfl, rfl, hb⟩
  have z5 := hb.size
  (try simp only [World.size_alloc, drew_size] at z5)
  replace HB := Lib.hid (bel_step HB.out hb)
  replace Ro1 := Lib.hid (FrIn.step hb Ro1.out)
  replace Ro2 := Lib.hid (FrIn.step hb Ro2.out)
  clear hb
  go_wp2_with (fail)
  refine (toHistS_any _ v0 x0 (RepS.mono Rp0.out HB.out) (by omega)).mono ?_
  rintro e W6 ⟨vW6, rfl, hF, hb⟩
  have z6 := hb.size
  (try simp only [World.size_alloc, drew_size] at z6)
  replace HB := Lib.hid (bel_step HB.out hb)
  replace Ro1 := Lib.hid (FrIn.step hb Ro1.out)
  replace Ro2 := Lib.hid (FrIn.step hb Ro2.out)
  have Ro3 := Lib.hid hF.frIn
  clear hF hb
  go_wp2_with (fail)
  refine (eqHistS_refl _ vW4 vW6 x0 Ro2.out.repS Ro3.out.repS).mono ?_
  rintro e W7 ⟨_, rfl, rfl, hb⟩
  have z7 := hb.size
  (try simp only [World.size_alloc, drew_size] at z7)
  replace HB := Lib.hid (bel_step HB.out hb)
  replace Ro1 := Lib.hid (FrIn.step hb Ro1.out)
  replace Ro2 := Lib.hid (FrIn.step hb Ro2.out)
  replace Ro3 := Lib.hid (FrIn.step hb Ro3.out)
  clear hb
  go_wp2_with (fail)
  go_ret
  exact ⟨rfl, HB.out⟩

set_option maxRecDepth 100000 in
theorem lifted_OpsOf (os : Os) (started : os.Started) (H : Type) (enc : TypeId × Value → H) :
    ReturnsInHanded {} Try.checked os 3 .any (Rows.fnExactOpsOfSpec.pre6 enc Try.prog Try.f3 Rows.fnExactOpsOfRow.domain false) (Rows.fnExactOpsOfSpec.post enc Try.prog Try.f3 false true false false) := by
  refine returnsInHanded_of_change (C := Try.checked) own_OpsOf started (by kernel_rfl) Try.func3
    (ChangeSpec.witness6 (enc := enc) (C := Try.checked) false ⟨#[], #[.slice none 0 0], []⟩ 8 (by kernel_rfl) (by kernel_rfl) (by kernel_rfl) (by kernel_rfl)) ?_
  intro W base args ds gs before hval0 hW hcnd _
  have hval : ∀ (j : Nat) t v, Try.f3.params[j]? = some t → args[j]? = some v → Value.okWide Try.prog W .any base t v := hval0
  have hW' := hW
  obtain ⟨p, q, hA0, hV, rfl, hfz, hnd⟩ := hW
  have hA : DataW.TrodAll enc Try.prog W 0 (fun _ => true) true Try.f3.params.toList args.toList ds p := hA0
  rw [Try.params3] at hA hval
  obtain ⟨v0, vs0, d0, ds0, p0, q0, hargs, rfl, rfl, h0, r0⟩ := trodAll_cons hA
  obtain ⟨rfl, rfl, rfl⟩ := trodAll_nil r0
  obtain rfl : args = #[v0] := by cases args; simp_all
  obtain ⟨rfl, rfl⟩ := trodVars_none hV
  have k0 := h0
  have lt0 : ∀ x ∈ p0, x.block < W.heap.size := by obtain ⟨m, hm⟩ := k0; exact DataW.trod_lt m _ _ _ hm
  obtain ⟨fuel0, hf0⟩ := h0
  obtain ⟨x0, y0⟩ := read_HistS _ _ _ _ _ _ _ _ _ hf0
  obtain ⟨sa0, sn0, sc0, rfl⟩ := okWide_slice Try.underlying22 (hval 0 22 v0 rfl rfl)
  obtain ⟨u0, hu0, y0⟩ := y0
  obtain rfl : Value.slice sa0 sn0 sc0 = u0 := by simpa [Value.cells] using hu0
  clear hA0 hval0
  have hw := law_OpsOf W _ x0 y0
  (try simp only [Array.toArray_toList] at hw)
  refine hw.mono fun e W' ⟨he, bel⟩ => ?_
  subst he
  exact ⟨_, rfl, _, _, _, [], _, [], hW', trodAll_mk1 (shut_bool Try.underlying4 _), (trodAll_cons_mk (Below.trod laidOut_OpsOf (by kernel_rfl) (of_decide_eq_true (by kernel_rfl)) k0 bel lt0) trodAll_mk0), rfl, bel.frame _, fun h => by cases h⟩
theorem over_OpsOf : Rows.fnExactOpsOfRow.holds Try.pinned (OpenSpec.ofChange Rows.fnExactOpsOfSpec) :=
  OpenClaim.holds_of_wide 3 Try.f3 rfl rfl rfl rfl rfl rfl rfl ⟨rfl, rfl, rfl, rfl, rfl⟩ rfl rfl rfl rfl rfl (by kernel_rfl) Try.func3 (by kernel_rfl)
    (of_decide_eq_true (by kernel_rfl)) (by unfold Func.isWrapper; first | (rw [if_pos (by decide +kernel)]; kernel_rfl) | (rw [if_neg (by decide +kernel)]; exact ⟨rfl, rfl⟩))
    (fun os started H enc _ => lifted_OpsOf os started H enc)
theorem proved_OpsOf : Rows.FnExactOpsOfSaid := over_OpsOf
#print axioms proved_OpsOf
end Go.Proofs.Ytnidoeapoknhdaa
