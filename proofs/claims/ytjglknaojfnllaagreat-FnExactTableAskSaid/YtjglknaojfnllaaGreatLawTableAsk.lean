/- For every input the law of TableAsk returns true, and its arguments read as they did. -/
import Derived.Test.YtjglknaojfnllaaGreatQE
import Derived.Test.YtjglknaojfnllaaGreatRows
import Derived.ProofKit
import Derived.OpenShut
import Derived.ShutString
import Derived.ChangeOld
set_option linter.unusedSimpArgs false
set_option linter.unusedVariables false
set_option linter.constructorNameAsVariable false
namespace Go.Proofs.YtjglknaojfnllaaGreat
open Go.RowKit Go.Px
open Go.ChangeShapes Go.WideShapes Go.ChangeAt
theorem own_knob : ownKnob Tryz.prog.godebug = none := by kernel_rfl
theorem laidOut : laidOutB Tryz.prog = true := by kernel_rfl
def zVal : Leaf → Value
  | .sc v => v
  | .nest _ _ => .slice none 0 0
def zArg (k : K) : Value := .agg ((leaves (zK k)).map zVal).toArray
theorem rd0 : rdT Tryz.prog 40 (Tryz.f4.params[0]!) = some (leaves (zK .lTable)) := by kernel_rfl
theorem rd1 : rdT Tryz.prog 40 (Tryz.f4.params[1]!) = some (leaves (zK .lPane)) := by kernel_rfl
theorem law_TableAsk (W : World) {as0 as1 : Array Value} {t : LTable} {p : LPane} (h0 : All2 (LeafV (fun b => b < W.heap.size) W) (leaves (k := .lTable) t) as0.toList) (h1 : All2 (LeafV (fun b => b < W.heap.size) W) (leaves (k := .lPane) p) as1.toList) :
    Calls Tryz.prog 4 #[.agg as0, .agg as1] W fun e W' => e = .returned (.bool true) ∧ Below W.heap.size W W' := by
  have hf := plain_law t p (fit_Table (lens_of 3 h0)) (fit_Pane (lens_of 3 h1))
  have hc := c4 (G := 0) (E := fun _ => True) ⟨fun _ _ _ _ => trivial⟩ 1048700 (t, p) true hf
  exact law_of (us := [.agg as0, .agg as1]) Tryz.func4 (by kernel_rfl) rfl hc ⟨[], [], rfl, own_st h0, [], [], rfl, own_st h1, rfl⟩
set_option maxRecDepth 100000 in
theorem lifted_TableAsk (os : Os) (started : os.Started) (H : Type) (enc : TypeId × Value → H) :
    ReturnsInHanded {} Tryz.checked os 4 .any (Rows.fnExactTableAskSpec.pre6 enc Tryz.prog Tryz.f4 Rows.fnExactTableAskRow.domain false) (Rows.fnExactTableAskSpec.post enc Tryz.prog Tryz.f4 false true false false) := by
  refine returnsInHanded_of_change (C := Tryz.checked) own_knob started (by kernel_rfl) Tryz.func4
    (ChangeSpec.witness6 (enc := enc) (C := Tryz.checked) false ⟨#[], #[zArg .lTable, zArg .lPane], []⟩ 8 (by kernel_rfl) (by kernel_rfl) (by kernel_rfl) (by kernel_rfl)) ?_
  intro W base args ds gs before hval0 hW hcnd _
  have hval : ∀ (j : Nat) t v, Tryz.f4.params[j]? = some t → args[j]? = some v → Value.okWide Tryz.prog W .any base t v := hval0
  have hW' := hW
  obtain ⟨p, q, hA0, hV, rfl, hfz, hnd⟩ := hW
  have hA : DataW.TrodAll enc Tryz.prog W 0 (fun _ => true) true Tryz.f4.params.toList args.toList ds p := hA0
  rw [Tryz.params4] at hA hval
  obtain ⟨v0, vs0, d0, ds0, p0, q0, hargs, rfl, rfl, h0, r0⟩ := trodAll_cons hA
  obtain ⟨v1, vs1, d1, ds1, p1, q1, rfl, rfl, rfl, h1, r1⟩ := trodAll_cons r0
  obtain ⟨rfl, rfl, rfl⟩ := trodAll_nil r1
  obtain rfl : args = #[v0, v1] := by cases args; simp_all
  obtain ⟨rfl, rfl⟩ := trodVars_none hV
  have k0 := h0
  have lt0 : ∀ x ∈ p0, x.block < W.heap.size := by obtain ⟨m, hm⟩ := k0; exact DataW.trod_lt m _ _ _ hm
  have k1 := h1
  have lt1 : ∀ x ∈ p1, x.block < W.heap.size := by obtain ⟨m, hm⟩ := k1; exact DataW.trod_lt m _ _ _ hm
  obtain ⟨fuel0, hf0⟩ := h0
  obtain ⟨fuel1, hf1⟩ := h1
  obtain ⟨x0, y0⟩ := (rdT_reads rd0 _ _ _ _ _ _ _ _ _ hf0).elem
  obtain ⟨x1, y1⟩ := (rdT_reads rd1 _ _ _ _ _ _ _ _ _ hf1).elem
  obtain ⟨as0, rfl, _⟩ := okWide_struct Tryz.underlying55 (hval 0 55 v0 rfl rfl)
  obtain ⟨as1, rfl, _⟩ := okWide_struct Tryz.underlying67 (hval 1 67 v1 rfl rfl)
  have hw := law_TableAsk W (as0 := as0) (as1 := as1) (t := x0) (p := x1) (by simpa [Value.cells] using y0) (by simpa [Value.cells] using y1)
  refine hw.mono fun e W' ⟨he, bel⟩ => ?_
  subst he
  exact ⟨_, rfl, _, _, _, [], _, [], hW', trodAll_mk1 (shut_bool Tryz.underlying4 _), (trodAll_cons_mk (Below.trod laidOut (by kernel_rfl) (of_decide_eq_true (by kernel_rfl)) k0 bel lt0) (trodAll_cons_mk (Below.trod laidOut (by kernel_rfl) (of_decide_eq_true (by kernel_rfl)) k1 bel lt1) trodAll_mk0)), rfl, bel.frame _, fun h => by cases h⟩
theorem over_TableAsk : Rows.fnExactTableAskRow.holds Tryz.pinned (OpenSpec.ofChange Rows.fnExactTableAskSpec) :=
  OpenClaim.holds_of_wide 4 Tryz.f4 rfl rfl rfl rfl rfl rfl rfl ⟨rfl, rfl, rfl, rfl, rfl⟩ rfl rfl rfl rfl rfl (by kernel_rfl) Tryz.func4 (by kernel_rfl)
    (of_decide_eq_true (by kernel_rfl)) (by unfold Func.isWrapper; first | (rw [if_pos (by decide +kernel)]; kernel_rfl) | (rw [if_neg (by decide +kernel)]; exact ⟨rfl, rfl⟩))
    (fun os started H enc _ => lifted_TableAsk os started H enc)
theorem proved_TableAsk : Rows.FnExactTableAskSaid := over_TableAsk
#print axioms proved_TableAsk
end Go.Proofs.YtjglknaojfnllaaGreat
