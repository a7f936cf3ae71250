/- For every input the exact law of TextOp returns true: the program's function and the reference's give the same, and the result lies in memory of its own. -/
import Derived.Test.YtjglknaojfnllaaDoorRows
import Derived.Test.YtjglknaojfnllaaDoorPxP
import Derived.Test.YtjglknaojfnllaaDoorCards
import Derived.Test.YtjglknaojfnllaaDoorTie
import Derived.WalkKit
import Derived.Deep.DeepHandedRow
import Derived.Deep.DeepLaidRun
import Derived.Shelf.Vars
import Derived.Lib.LaidTab
import Derived.Stop.LaidErr
import Derived.MakeChecks
import Derived.ProofKit
import Derived.OpenShut
import Derived.ShutString
import Derived.ChangeOld
set_option linter.unusedSimpArgs false
set_option linter.unusedVariables false
namespace Go.Proofs.YtjglknaojfnllaaDoor
open Go.RowKit Go.Mux
open Go.ChangeShapes Go.WideShapes Go.ChangeAt
open Go.ChangeMaps (open_string shut_string)
theorem own_TextOp : ownKnob Tryd.prog.godebug = none := by kernel_rfl
theorem laidOut_TextOp : laidOutB Tryd.prog = true := by kernel_rfl
theorem star_TextOp : "*" ++ "errors.errorString" = "*errors.errorString" := by decide
theorem errRow_TextOp (u : TypeId) (h : Tryd.prog.typeName? 3 u = some "*errors.errorString") : u = 135 :=
  typeName_ptr_named (nm := "errors.errorString") (by rw [star_TextOp]; kernel_rfl) (by kernel_rfl) (by decide) u (by rw [star_TextOp]; exact h)
/-- What the row's list and the world's shape give. -/
theorem env_TextOp {W : World} (h : laidMetH Tryd.prog Rows.fnExactTextOpRow.laid W) (hsh : W.ShapedOpen Tryd.prog) : ENV W := by
  rw [Go.MakeChecks.laidMetH_plain _ _ _ (by kernel_rfl)] at h
  have h2 : laidMet Tryd.prog (("internal/strconv.uint64pow10", Lib.tabData .u64 Lib.pow10Tab) :: _) W := (show laidMet Tryd.prog (_ :: _ :: ("internal/strconv.uint64pow10", Lib.tabData .u64 Lib.pow10Tab) :: _) W from h).tail.tail
  have h4 := h2.tail.tail
  have h5 := h4.tail
  refine ⟨Lib.tabIs_of_head (g := 3) (t := 127) (e := 116) (n := 20) (by kernel_rfl) (by kernel_rfl) (by kernel_rfl) (by kernel_rfl) (by kernel_rfl) (by kernel_rfl) h2, ?_, ?_, ?_⟩
  · obtain ⟨a, _, hv, _⟩ := laid_sentinel h5 (g := 1) (ti := 84) (tp := 135) (te := 137) (ts := 9) (by kernel_rfl) (by kernel_rfl) Tryd.underlying84 errRow_TextOp Tryd.underlying135 Tryd.underlying137 rfl rfl Tryd.underlying9 (by kernel_rfl) (by kernel_rfl)
    exact ⟨_, _, hv⟩
  · obtain ⟨a, _, hv, _⟩ := laid_sentinel h4 (g := 2) (ti := 84) (tp := 135) (te := 137) (ts := 9) (by kernel_rfl) (by kernel_rfl) Tryd.underlying84 errRow_TextOp Tryd.underlying135 Tryd.underlying137 rfl rfl Tryd.underlying9 (by kernel_rfl) (by kernel_rfl)
    exact ⟨_, _, hv⟩
  · exact Go.Proofs.cell_of_shapedOpen_int (t := 3) (zero := #[.int .i64 0]) hsh (of_decide_eq_true (by kernel_rfl)) (by kernel_rfl) rfl (by kernel_rfl) (by kernel_rfl) Tryd.underlying3
/-- The cells that a listed datum of numbers stands for. -/
def flat_TextOp : DataW Unit → List Value
  | .lit (.int k n) => [Value.int k n]
  | _ => []
def put_TextOp (d : DataW Unit) : Obj → Obj
  | .cells _ t frozen => .cells (match d with | .agg l => (l.flatMap fun | .lit (.int k n) => [Value.int k n] | .agg m => m.flatMap flat_TextOp | _ => []).toArray | _ => #[]) t frozen
  | o => o
def rangeS_TextOp : ByteArray := { data := #[118, 97, 108, 117, 101, 32, 111, 117, 116, 32, 111, 102, 32, 114, 97, 110, 103, 101] }
def synS_TextOp : ByteArray := { data := #[105, 110, 118, 97, 108, 105, 100, 32, 115, 121, 110, 116, 97, 120] }
noncomputable def low_TextOp : Nat := (World.holding Tryd.prog default ⟨#[], #[], []⟩).heap.size
def putErr_TextOp (b : Nat) : Obj → Obj
  | .cells _ t frozen => .cells #[.iface 135 (.pointer (some ⟨b, 0, none⟩))] t frozen
  | o => o
noncomputable def laidWorld_TextOp (os : Os) : World :=
  { (World.holding Tryd.prog os ⟨#[.cells #[.string rangeS_TextOp] 137, .cells #[.string synS_TextOp] 137], #[], []⟩) with heap := ((((((((World.holding Tryd.prog os ⟨#[.cells #[.string rangeS_TextOp] 137, .cells #[.string synS_TextOp] 137], #[], []⟩).heap.modify 6 (put_TextOp Rows.laid_math_bits_deBruijn32tab)).modify 7 (put_TextOp Rows.laid_math_bits_deBruijn64tab)).modify 3 (put_TextOp Rows.laid_internal_strconv_uint64pow10)).modify 5 (put_TextOp Rows.laid_unicode_utf8_acceptRanges)).modify 4 (put_TextOp Rows.laid_unicode_utf8_first)).modify 2 (putErr_TextOp (low_TextOp))).modify 1 (putErr_TextOp (low_TextOp + 1))) }
theorem laid_met_TextOp (os : Os) : laidMet Tryd.prog Rows.fnExactTextOpRow.laid ((laidWorld_TextOp os).forCall (fun _ _ => 0) ⟨#[], #[.string ByteArray.empty], []⟩).memory :=
  laidMet_of_run3 8 (by kernel_rfl) (by kernel_rfl) (by kernel_rfl)
theorem reads_TextOp (os : Os) {H : Type} (enc : TypeId × Value → H) : ∃ places, DataW.whole enc Tryd.prog ((laidWorld_TextOp os).forCall (fun _ _ => 0) ⟨#[], #[.string ByteArray.empty], []⟩).memory Tryd.f4.params.toList Rows.fnExactTextOpSpec.vars false (#[.string ByteArray.empty] : Array Value).toList 8 = some ([.lit (.string [])], [], places) :=
  ⟨[], by kernel_rfl⟩
set_option maxRecDepth 100000 in
theorem lifted_TextOp (os : Os) (started : os.Started) (H : Type) (enc : TypeId × Value → H) (F : Stop.Interp) :
    ReturnsInHanded {} Tryd.checked os 4 .any ((OpenSpec.ofChange Rows.fnExactTextOpSpec).preRow enc Tryd.prog Tryd.f4 Rows.fnExactTextOpRow.domain false Rows.fnExactTextOpRow.laid) (((OpenSpec.ofChange Rows.fnExactTextOpSpec).at F).post enc Tryd.prog Tryd.f4 false true false false) := by
  obtain ⟨places, hx⟩ := reads_TextOp os enc
  refine returnsInHanded_of_row (C := Tryd.checked) (s := OpenSpec.ofChange Rows.fnExactTextOpSpec) own_TextOp started (by kernel_rfl) Tryd.func4
    (witness_row_at (enc := enc) (C := Tryd.checked) false (laidWorld_TextOp os) #[.string ByteArray.empty] rfl (by kernel_rfl) (by kernel_rfl) (by kernel_rfl)
      (OpenSpec.preRow_of_cond 8 hx (by kernel_rfl) (fun k hk => by cases hk) (by kernel_rfl) (laid_met_TextOp os))) ?_
  intro W base args ds gs before hval0 hW hcnd _ _ hL hsh _
  have hval : ∀ (j : Nat) t v, Tryd.f4.params[j]? = some t → args[j]? = some v → Value.okWide Tryd.prog W .any base t v := hval0
  have hW' := hW
  obtain ⟨p, q, hA0, hV, rfl, hfz, hnd⟩ := hW
  have hA : DataW.TrodAll enc Tryd.prog W 0 (fun _ => true) true Tryd.f4.params.toList args.toList ds p := hA0
  rw [Tryd.params4] at hA hval
  obtain ⟨v0, vs0, d0, ds0, p0, q0, hargs, rfl, rfl, h0, r0⟩ := trodAll_cons hA
  obtain ⟨rfl, rfl, rfl⟩ := trodAll_nil r0
  obtain rfl : args = #[v0] := by cases args; simp_all
  obtain ⟨rfl, rfl⟩ := trodVars_none hV
  obtain ⟨x0, rfl, rfl, rfl, w0⟩ := open_string Tryd.underlying9 (hval 0 9 v0 rfl rfl) h0
  clear hA0 hval0
  have hw := Go.Px.law_TextOp W x0 (by have := w0; unfold maxLen at this; omega) (env_TextOp hL hsh)
  refine hw.mono fun e W' ⟨he, bel⟩ => ?_
  subst he
  exact ⟨_, rfl, _, _, _, [], _, [], hW', trodAll_mk1 (shut_bool Tryd.underlying4 _), (trodAll_cons_mk (shut_string Tryd.underlying9 w0) trodAll_mk0), rfl, bel.frame _, fun h => by cases h⟩
theorem said_TextOp : Rows.FnExactTextOpSaid :=
  OpenClaim.holds_of_cond 4 Tryd.f4 rfl rfl rfl rfl rfl rfl rfl ⟨rfl, rfl, rfl, rfl, rfl⟩ rfl rfl rfl rfl rfl (by kernel_rfl) Tryd.func4 (by kernel_rfl)
    (of_decide_eq_true (by kernel_rfl)) (by unfold Func.isWrapper; first | (rw [if_pos (by decide +kernel)]; kernel_rfl) | (rw [if_neg (by decide +kernel)]; exact ⟨rfl, rfl⟩))
    (fun os started H enc _ F => by rw [OpenClaim.pre_eq_preRow]; exact lifted_TextOp os started H enc F)
theorem plain_TextOp (f : FuncId) (fn : Func) (hf : Tryd.pinned.checked.prog.funcNamed "loop.example/g00661/laws.FnExactTextOp" = some f) (hfn : Tryd.pinned.checked.prog.funcs[f]? = some fn) :
    true = Tryd.pinned.checked.prog.looks [] ∧ ∀ (j : Nat) t, fn.params[j]? = some t → Tryd.pinned.checked.prog.wantsStandIn t = false := by
  obtain rfl : f = 4 := Option.some.inj ((show Tryd.prog.funcNamed "loop.example/g00661/laws.FnExactTextOp" = some 4 by kernel_rfl).symm.trans hf) |>.symm
  obtain rfl : fn = Tryd.f4 := (Option.some.inj (Tryd.func4.symm.trans hfn)).symm
  refine ⟨by kernel_rfl, fun j t ht => ?_⟩
  rw [Tryd.params4] at ht
  obtain rfl : t = 9 := by simpa using Array.mem_of_getElem? ht
  exact (show Tryd.prog.wantsStandIn 9 = false by kernel_rfl)
theorem proved_TextOp : Rows.FnExactTextOpCardSaid :=
  Claim7.holds_tied_plain_at .later [] _ _ _ _ said_TextOp (fun _ h => by cases h) (by kernel_rfl) (fun _ h => by cases h) fnExactTextOp_row_tie rfl ⟨rfl, rfl⟩ (by kernel_rfl) rfl plain_TextOp (by kernel_rfl)
#print axioms proved_TextOp
end Go.Proofs.YtjglknaojfnllaaDoor
