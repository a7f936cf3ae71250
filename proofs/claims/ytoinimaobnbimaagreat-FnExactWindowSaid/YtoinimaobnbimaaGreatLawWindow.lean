/- The law of Window: part LW. -/
import Derived.Test.YtoinimaobnbimaaGreatQF
import Derived.Test.YtoinimaobnbimaaGreatRows
import Derived.ProofKit
import Derived.OpenShut
import Derived.ChangeOld
set_option linter.unusedSimpArgs false
set_option linter.unusedVariables false
set_option linter.constructorNameAsVariable false
namespace Go.Proofs.YtoinimaobnbimaaGreat
open Go.RowKit Go.Px
open Go.ChangeShapes Go.WideShapes Go.ChangeAt
theorem own_knob : ownKnob Tryz.prog.godebug = none := by kernel_rfl
theorem laidOut : laidOutB Tryz.prog = true := by kernel_rfl
def zVal : Leaf → Value
 | .sc v => v
 | .nest _ _ => .slice none 0 0
def zArg (k : K) : Value := .agg ((leaves (zK k)).map zVal).toArray
theorem rd0 : rdT Tryz.prog 40 (Tryz.f3.params[0]!) = some (leaves (zK .lState)) := by kernel_rfl
theorem wf_lit {n : Int} (h : (Lit.int .i64 n).wf = true) : wfV (.int .i64 n) := by
 unfold Lit.wf at h
 simp only [Bool.and_eq_true, decide_eq_true_eq] at h
 exact inK64 h.1 h.2
theorem law_Window (W : World) {as0 : Array Value} {s : LState} (n b : Int) (hn : wfV (.int .i64 n)) (hb : wfV (.int .i64 b)) (h0 : All2 (LeafV (fun b => b < W.heap.size) W) (leaves (k := .lState) s) as0.toList) :
  Calls Tryz.prog 3 #[.agg as0, .int .i64 n, .int .i64 b] W fun e W' => e = .returned (.bool true) ∧ Below W.heap.size W W' := by
 have hf := plain_law s n b (fit_State (lens_of 4 h0))
 have hc := c3 (G := 0) (E := fun _ => True) ⟨fun _ _ _ _ => trivial⟩ 20000100 (s, n, b) true hf
 exact law_of (us := [.agg as0, .int .i64 n, .int .i64 b]) Tryz.func3 (by kernel_rfl) rfl hc ⟨[], [], rfl, own_st h0, [], [], rfl, ⟨rfl, rfl, hn⟩, [], [], rfl, ⟨rfl, rfl, hb⟩, rfl⟩
set_option maxRecDepth 100000 in
theorem lifted_Window (os : Os) (started : os.Started) (H : Type) (enc : TypeId × Value → H) :
  ReturnsInHanded {} Tryz.checked os 3 .any (Rows.fnExactWindowSpec.pre6 enc Tryz.prog Tryz.f3 Rows.fnExactWindowRow.domain false) (Rows.fnExactWindowSpec.post enc Tryz.prog Tryz.f3 false true false false) := by
 refine returnsInHanded_of_change (C := Tryz.checked) own_knob started (by kernel_rfl) Tryz.func3
  (ChangeSpec.witness6 (enc := enc) (C := Tryz.checked) false ⟨#[], #[zArg .lState, .int .i64 0, .int .i64 0], []⟩ 8 (by kernel_rfl) (by kernel_rfl) (by kernel_rfl) (by kernel_rfl)) ?_
 intro W base args ds gs before hval0 hW hcnd _
 have hval : ∀ (j : Nat) t v, Tryz.f3.params[j]? = some t → args[j]? = some v → Value.okWide Tryz.prog W .any base t v := hval0
 have hW' := hW
 obtain ⟨p, q, hA0, hV, rfl, hfz, hnd⟩ := hW
 have hA : DataW.TrodAll enc Tryz.prog W 0 (fun _ => true) true Tryz.f3.params.toList args.toList ds p := hA0
 rw [Tryz.params3] at hA hval
 obtain ⟨v0, vs0, d0, ds0, p0, q0, hargs, rfl, rfl, h0, r0⟩ := trodAll_cons hA
 obtain ⟨v1, vs1, d1, ds1, p1, q1, rfl, rfl, rfl, h1, r1⟩ := trodAll_cons r0
 obtain ⟨v2, vs2, d2, ds2, p2, q2, rfl, rfl, rfl, h2, r2⟩ := trodAll_cons r1
 obtain ⟨rfl, rfl, rfl⟩ := trodAll_nil r2
 obtain rfl : args = #[v0, v1, v2] := by cases args; simp_all
 obtain ⟨rfl, rfl⟩ := trodVars_none hV
 have k0 := h0
 have lt0 : ∀ x ∈ p0, x.block < W.heap.size := by obtain ⟨m, hm⟩ := k0; exact DataW.trod_lt m _ _ _ hm
 obtain ⟨fuel0, hf0⟩ := h0
 obtain ⟨x0, y0⟩ := (rdT_reads rd0 _ _ _ _ _ _ _ _ _ hf0).elem
 obtain ⟨as0, rfl, _⟩ := okWide_struct Tryz.underlying26 (hval 0 26 v0 rfl rfl)
 obtain ⟨x1, rfl, rfl, rfl, w1⟩ := open_int Tryz.underlying3 (hval 1 3 v1 rfl rfl) h1
 obtain ⟨x2, rfl, rfl, rfl, w2⟩ := open_int Tryz.underlying3 (hval 2 3 v2 rfl rfl) h2
 have hw := law_Window W (as0 := as0) (s := x0) x1 x2 (wf_lit w1) (wf_lit w2) (by simpa [Value.cells] using y0)
 refine hw.mono fun e W' ⟨he, bel⟩ => ?_
 subst he
 exact ⟨_, rfl, _, _, _, [], _, [], hW', trodAll_mk1 (shut_bool Tryz.underlying4 _), (trodAll_cons_mk (Below.trod laidOut (by kernel_rfl) (of_decide_eq_true (by kernel_rfl)) k0 bel lt0) (trodAll_cons_mk (shut_int Tryz.underlying3 w1) (trodAll_cons_mk (shut_int Tryz.underlying3 w2) trodAll_mk0))), rfl, bel.frame _, fun h => by cases h⟩
theorem over_Window : Rows.fnExactWindowRow.holds Tryz.pinned (OpenSpec.ofChange Rows.fnExactWindowSpec) :=
 OpenClaim.holds_of_wide 3 Tryz.f3 rfl rfl rfl rfl rfl rfl rfl ⟨rfl, rfl, rfl, rfl, rfl⟩ rfl rfl rfl rfl rfl (by kernel_rfl) Tryz.func3 (by kernel_rfl)
  (of_decide_eq_true (by kernel_rfl)) (by unfold Func.isWrapper; first | (rw [if_pos (by decide +kernel)]; kernel_rfl) | (rw [if_neg (by decide +kernel)]; exact ⟨rfl, rfl⟩))
  (fun os started H enc _ => lifted_Window os started H enc)
theorem proved_Window : Rows.FnExactWindowSaid := over_Window
#print axioms proved_Window
end Go.Proofs.YtoinimaobnbimaaGreat
