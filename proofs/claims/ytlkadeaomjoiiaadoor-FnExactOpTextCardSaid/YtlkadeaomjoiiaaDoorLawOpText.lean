/- For every input the exact law of OpText returns true: the program's function and the reference's give the same, the arguments are left as they were. -/
import Derived.Test.YtlkadeaomjoiiaaDoorRows
import Derived.Test.YtlkadeaomjoiiaaDoorFnOpLaws
import Derived.Test.YtlkadeaomjoiiaaDoorRead
import Derived.Test.YtlkadeaomjoiiaaDoorLawMark
import Derived.Test.YtlkadeaomjoiiaaDoorCards
import Derived.Test.YtlkadeaomjoiiaaDoorTie
import Derived.WalkKit
import Derived.Deep.DeepHandedRow
import Derived.Lib.LaidTab
import Derived.Stop.LaidErr
import Derived.MakeChecks
import Derived.ProofKit
import Derived.OpenShut
import Derived.ShutString
import Derived.ChangeOld
set_option linter.unusedSimpArgs false
set_option linter.unusedVariables false
namespace Go.Proofs.YtlkadeaomjoiiaaDoor
open Go.RowKit Go.Mux
open Go.ChangeShapes Go.WideShapes Go.ChangeAt
open Go.ChangeMaps (open_string shut_string)
set_option linter.unusedVariables false
theorem own_OpText : ownKnob Tryd.prog.godebug = none := by kernel_rfl
theorem laidOut_OpText : laidOutB Tryd.prog = true := by kernel_rfl
set_option maxRecDepth 100000 in
set_option maxHeartbeats 4000000 in
theorem law_OpText (w : World) (cs0 : List Value) (x0 : DOp) (g0 : Rep.rep w cs0 x0) (ht : Tab Tryd.prog w) :
    Calls Tryd.prog 6 #[.agg cs0.toArray] w fun e w' => e = .returned (.bool true) ∧ Below w.heap.size w w' := by
  have HT := Lib.hid ht
  clear ht
  have Rp0 := Lib.hid g0
  clear g0
  have X1 := Lib.hid (range_box w 54 cs0)
  have HB := Lib.hid (bel_alloc (Below.refl w.heap.size w) (.cells cs0.toArray 54))
  have Lp0 := Lib.hid (Rep.len Rp0.out)
  have ONEp0 := Lib.hid (Rep.one Rp0.out)
  go_enter Tryd.func6, Tryd.ntmps6
  go_wp2_with (first | ((with_reducible (show wpList _ _ _ (Oper.mk _ (Op.load 54 (Operand.tmp 1)) _ _ _ _ :: _) _ _)); refine wpList_load_box rfl 54 _ rfl _ _ rfl cs0 X1.out Tryd.underlying54 (by rw [Lp0.out]; exact size_lawsOp) ?_))
  refine (szOp_any _ cs0 x0 (1048576 : Int) (Rep.mono Rp0.out HB.out) (by omega) (by omega)).mono ?_
  rintro e W1 ⟨_, rfl, ⟨r, rfl, hr⟩, hb⟩
  have z1 := hb.size
  (try simp only [World.size_alloc, drew_size] at z1)
  replace HB := Lib.hid (bel_step HB.out hb)
  replace X1 := Lib.hid (range_step hb X1.out)
  clear hb
  rcases hr with ⟨rfl, hs1⟩ | ⟨rfl, hs1⟩
  · go_wp2_with fail
    go_ret
    exact ⟨rfl, HB.out⟩
  go_wp2_with (first | ((with_reducible (show wpList _ _ _ (Oper.mk _ (Op.load 54 (Operand.tmp 1)) _ _ _ _ :: _) _ _)); refine wpList_load_box rfl 54 _ rfl _ _ rfl cs0 X1.out Tryd.underlying54 (by rw [Lp0.out]; exact size_lawsOp) ?_))
  refine (toOp_any _ cs0 x0 (Rep.mono Rp0.out HB.out) (by omega)).mono ?_
  rintro e W2 ⟨_, rfl, ⟨cW2, rfl, hF⟩, hb⟩
  have z2 := hb.size
  (try simp only [World.size_alloc, drew_size] at z2)
  replace HB := Lib.hid (bel_step HB.out hb)
  replace X1 := Lib.hid (range_step hb X1.out)
  have Ro1 := Lib.hid hF.frIn
  have Lo1 := Lib.hid (Rep.len hF.rep)
  have ONEo1 := Lib.hid (Rep.one hF.rep)
  clear hF hb
  go_wp2_with (fail)
  refine (spec_OpText _ cW2 x0 Ro1.out.rep (by omega)).mono ?_
  rintro e W3 ⟨_, rfl, rfl, hb⟩
  have z3 := hb.size
  (try simp only [World.size_alloc, drew_size] at z3)
  replace HB := Lib.hid (bel_step HB.out hb)
  replace Ro1 := Lib.hid (FrIn.step hb Ro1.out)
  replace X1 := Lib.hid (range_step hb X1.out)
  clear hb
  go_wp2_with (first | ((with_reducible (show wpList _ _ _ (Oper.mk _ (Op.load 54 (Operand.tmp 1)) _ _ _ _ :: _) _ _)); refine wpList_load_box rfl 54 _ rfl _ _ rfl cs0 X1.out Tryd.underlying54 (by rw [Lp0.out]; exact size_lawsOp) ?_))
  refine (toOp_any _ cs0 x0 (Rep.mono Rp0.out HB.out) (by omega)).mono ?_
  rintro e W4 ⟨_, rfl, ⟨cW4, rfl, hF⟩, hb⟩
  have z4 := hb.size
  (try simp only [World.size_alloc, drew_size] at z4)
  replace HB := Lib.hid (bel_step HB.out hb)
  replace Ro1 := Lib.hid (FrIn.step hb Ro1.out)
  replace X1 := Lib.hid (range_step hb X1.out)
  have Ro2 := Lib.hid hF.frIn
  have Lo2 := Lib.hid (Rep.len hF.rep)
  have ONEo2 := Lib.hid (Rep.one hF.rep)
  clear hF hb
  go_wp2_with (first | ((with_reducible (show wpList _ _ _ (Oper.mk _ (Op.store 57 (Operand.tmp 5) _) _ _ _ _ :: _) _ _)); refine wpList_store_at rfl 57 _ _ rfl _ 0 rfl _ rfl cW4 rfl _ _ (heap_alloc_new _ _) (by rw [Lo2.out]; decide) ONEo2.out (by rw [Lo2.out]; exact size_implOp) ?_; intro W5 hW; obtain ⟨hb, hX, hzz⟩ := store_new hW (by rw [Lo2.out]; rfl); clear hW; replace HB := Lib.hid (bel_step HB.out hb); replace Ro1 := Lib.hid (FrIn.step hb Ro1.out); replace Ro2 := Lib.hid (FrIn.step hb Ro2.out); replace X1 := Lib.hid (range_step hb X1.out); have X5 := Lib.hid hX; have z5 : W4.heap.size + 1 ≤ W5.heap.size := (by omega); clear hX hzz hb) | ((with_reducible (show wpList _ _ _ (Oper.mk _ (Op.load 57 (Operand.tmp 5)) _ _ _ _ :: _) _ _)); refine wpList_load_box rfl 57 _ rfl _ _ rfl cW4 X5.out Tryd.underlying57 (by rw [Lo2.out]; exact size_implOp) ?_))
  refine (impl_OpText _ cW4 x0 Ro2.out.rep (HT.out.mono HB.out) (by omega)).mono ?_
  rintro e W6 ⟨_, rfl, rfl, hb⟩
  have z6 := hb.size
  (try simp only [World.size_alloc, drew_size] at z6)
  replace HB := Lib.hid (bel_step HB.out hb)
  replace Ro1 := Lib.hid (FrIn.step hb Ro1.out)
  replace Ro2 := Lib.hid (FrIn.step hb Ro2.out)
  replace X1 := Lib.hid (range_step hb X1.out)
  replace X5 := Lib.hid (range_step hb X5.out)
  clear hb
  go_wp2_with (fail)
  refine wp_region_held_drew (S := fun w' => w'.rangeAt (W4.heap.size) 0 cW4 ∧ w'.rangeAt (w.heap.size) 0 cs0) (by kernel_rfl) ⟨X5.out, X1.out⟩ (fun hHeld => ?_)
  have hb := bel_drew W6
  obtain ⟨W7, hWd⟩ : ∃ W, W = W6.drew := ⟨_, rfl⟩
  rw [← hWd] at hHeld hb ⊢
  clear hWd
  have z7 := hb.size
  (try simp only [World.size_alloc, drew_size] at z7)
  replace HB := Lib.hid (bel_step HB.out hb)
  replace Ro1 := Lib.hid (FrIn.step hb Ro1.out)
  replace Ro2 := Lib.hid (FrIn.step hb Ro2.out)
  replace X1 := Lib.hid (range_step hb X1.out)
  replace X5 := Lib.hid (range_step hb X5.out)
  clear hb
  refine wpAnyH_take (i := 0) (v := .agg cW4.toArray) rfl (by kernel_rfl) (by kernel_rfl) (by kernel_rfl) (fun _ _ _ h => h) (yieldsIf_load_mid (by rfl) 57 _ rfl _ 0 rfl cW4 _ (fun _ h => h.1) Tryd.underlying57 rfl (by rw [Lo2.out]; exact size_implOp)) hHeld ?_
  simp only [Act.put, List.setIfInBounds_toArray, List.set_cons_zero, List.set_cons_succ]
  refine wpAnyH_take (i := 1) (v := .agg cs0.toArray) rfl (by kernel_rfl) (by kernel_rfl) (by kernel_rfl) (fun _ _ _ h => h) (yieldsIf_load_mid (by rfl) 54 _ rfl _ 0 rfl cs0 _ (fun _ h => h.2) Tryd.underlying54 rfl (by rw [Lp0.out]; exact size_lawsOp)) hHeld ?_
  simp only [Act.put, List.setIfInBounds_toArray, List.set_cons_zero, List.set_cons_succ]
  refine wpAnyH_ready (rs := [2]) (by kernel_rfl) (by simp) ?_
  refine AllReadyH.cons rfl (fun K hK => ?_) AllReadyH.nil
  go_simp
  refine (toOp_any _ cs0 x0 (Rep.mono Rp0.out HB.out) (by omega)).mono ?_
  rintro e W8 ⟨_, rfl, ⟨cW8, rfl, hF⟩, hb⟩
  have z8 := hb.size
  (try simp only [World.size_alloc, drew_size] at z8)
  replace HB := Lib.hid (bel_step HB.out hb)
  replace Ro1 := Lib.hid (FrIn.step hb Ro1.out)
  replace Ro2 := Lib.hid (FrIn.step hb Ro2.out)
  replace X1 := Lib.hid (range_step hb X1.out)
  replace X5 := Lib.hid (range_step hb X5.out)
  have Ro3 := Lib.hid hF.frIn
  have Lo3 := Lib.hid (Rep.len hF.rep)
  have ONEo3 := Lib.hid (Rep.one hF.rep)
  clear hF hb
  refine hK.out _ _ ⟨X5.out, X1.out⟩ (fun hHeld => ?_)
  clear hK K
  (try simp only [Act.put, List.setIfInBounds_toArray, List.set_cons_zero, List.set_cons_succ])
  refine wpAnyH_ready (rs := [3]) (by kernel_rfl) (by simp) ?_
  refine AllReadyH.cons rfl (fun K hK => ?_) AllReadyH.nil
  go_simp
  refine (eqOp_refl _ cW4 cW8 x0 Ro2.out.rep Ro3.out.rep).mono ?_
  rintro e W9 ⟨_, rfl, rfl, hb⟩
  have z9 := hb.size
  (try simp only [World.size_alloc, drew_size] at z9)
  replace HB := Lib.hid (bel_step HB.out hb)
  replace Ro1 := Lib.hid (FrIn.step hb Ro1.out)
  replace Ro2 := Lib.hid (FrIn.step hb Ro2.out)
  replace Ro3 := Lib.hid (FrIn.step hb Ro3.out)
  replace X1 := Lib.hid (range_step hb X1.out)
  replace X5 := Lib.hid (range_step hb X5.out)
  clear hb
  refine hK.out _ _ ⟨X5.out, X1.out⟩ (fun hHeld => ?_)
  clear hK K
  (try simp only [Act.put, List.setIfInBounds_toArray, List.set_cons_zero, List.set_cons_succ])
  refine wpAnyH_ready (rs := [4]) (by kernel_rfl) (by simp) ?_
  refine AllReadyH.cons rfl (fun K hK => ?_) AllReadyH.nil
  go_simp
  refine hK.out _ _ ⟨X5.out, X1.out⟩ (fun hHeld => ?_)
  clear hK K
  (try simp only [Act.put, List.setIfInBounds_toArray, List.set_cons_zero, List.set_cons_succ])
  refine wpAnyH_done (by kernel_rfl) ?_ _
  go_wp2_with (fail)
  go_ret
  exact ⟨rfl, HB.out⟩

/-- What the row's list gives: the table of powers of ten. -/
theorem table_OpText {W : World} (h : laidMetH Tryd.prog Rows.fnExactOpTextRow.laid W) : Tab Tryd.prog W := by
  rw [Go.MakeChecks.laidMetH_plain _ _ _ (by kernel_rfl)] at h
  have h2 : laidMet Tryd.prog [("internal/strconv.uint64pow10", Lib.tabData .u64 Lib.pow10Tab)] W := (show laidMet Tryd.prog (_ :: _ :: ("internal/strconv.uint64pow10", Lib.tabData .u64 Lib.pow10Tab) :: []) W from h).tail.tail
  exact Lib.tabIs_of_head (rest := []) (g := 1) (t := 153) (e := 144) (n := 20) (by kernel_rfl) (by kernel_rfl) (by kernel_rfl) (by kernel_rfl) (by kernel_rfl) (by kernel_rfl) h2
/-- The cells that a listed datum of numbers stands for. -/
def put_OpText (d : DataW Unit) : Obj → Obj
  | .cells _ t frozen => .cells (match d with | .agg l => (l.map fun | .lit (.int k n) => Value.int k n | _ => undef).toArray | _ => #[]) t frozen
  | o => o
noncomputable def laidWorld_OpText (os : Os) : World :=
  { World.holding Tryd.prog os ⟨#[], #[], []⟩ with heap := ((((World.holding Tryd.prog os ⟨#[], #[], []⟩).heap.modify 2 (put_OpText Rows.laid_math_bits_deBruijn32tab)).modify 3 (put_OpText Rows.laid_math_bits_deBruijn64tab)).modify 1 (put_OpText Rows.laid_internal_strconv_uint64pow10)) }
theorem laid_met_OpText (os : Os) : laidMet Tryd.prog Rows.fnExactOpTextRow.laid ((laidWorld_OpText os).forCall (fun _ _ => 0) ⟨#[], #[.agg #[.int .i64 0, .int .i64 0, .int .i64 0, .int .i64 0, .string ByteArray.empty, .string ByteArray.empty, .string ByteArray.empty, .slice none 0 0]], []⟩).memory :=
  laidMet_of_run' 8 (by kernel_rfl) (by kernel_rfl)
theorem reads_OpText (os : Os) {H : Type} (enc : TypeId × Value → H) : ∃ places, DataW.whole enc Tryd.prog ((laidWorld_OpText os).forCall (fun _ _ => 0) ⟨#[], #[.agg #[.int .i64 0, .int .i64 0, .int .i64 0, .int .i64 0, .string ByteArray.empty, .string ByteArray.empty, .string ByteArray.empty, .slice none 0 0]], []⟩).memory Tryd.f6.params.toList Rows.fnExactOpTextSpec.vars false (#[.agg #[.int .i64 0, .int .i64 0, .int .i64 0, .int .i64 0, .string ByteArray.empty, .string ByteArray.empty, .string ByteArray.empty, .slice none 0 0]] : Array Value).toList 8 = some ([.agg [.lit (.int .i64 0), .lit (.int .i64 0), .lit (.int .i64 0), .lit (.int .i64 0), .lit (.string []), .lit (.string []), .lit (.string []), .nil]], [], places) :=
  ⟨[], by kernel_rfl⟩
set_option maxRecDepth 100000 in
theorem lifted_OpText (os : Os) (started : os.Started) (H : Type) (enc : TypeId × Value → H) (F : Stop.Interp) :
    ReturnsInHanded {} Tryd.checked os 6 .any ((OpenSpec.ofChange Rows.fnExactOpTextSpec).preRow enc Tryd.prog Tryd.f6 Rows.fnExactOpTextRow.domain false Rows.fnExactOpTextRow.laid) (((OpenSpec.ofChange Rows.fnExactOpTextSpec).at F).post enc Tryd.prog Tryd.f6 false true false false) := by
  obtain ⟨places, hx⟩ := reads_OpText os enc
  refine returnsInHanded_of_row (C := Tryd.checked) (s := OpenSpec.ofChange Rows.fnExactOpTextSpec) own_OpText started (by kernel_rfl) Tryd.func6
    (witness_row_at (enc := enc) (C := Tryd.checked) false (laidWorld_OpText os) #[.agg #[.int .i64 0, .int .i64 0, .int .i64 0, .int .i64 0, .string ByteArray.empty, .string ByteArray.empty, .string ByteArray.empty, .slice none 0 0]] rfl (by kernel_rfl) (by kernel_rfl) (by kernel_rfl)
      (OpenSpec.preRow_of_cond 8 hx (by kernel_rfl) (fun k hk => by cases hk) (by kernel_rfl) (laid_met_OpText os))) ?_
  intro W base args ds gs before hval0 hW hcnd _ _ hL _ _
  have hval : ∀ (j : Nat) t v, Tryd.f6.params[j]? = some t → args[j]? = some v → Value.okWide Tryd.prog W .any base t v := hval0
  have hW' := hW
  obtain ⟨p, q, hA0, hV, rfl, hfz, hnd⟩ := hW
  have hA : DataW.TrodAll enc Tryd.prog W 0 (fun _ => true) true Tryd.f6.params.toList args.toList ds p := hA0
  rw [Tryd.params6] at hA hval
  obtain ⟨v0, vs0, d0, ds0, p0, q0, hargs, rfl, rfl, h0, r0⟩ := trodAll_cons hA
  obtain ⟨rfl, rfl, rfl⟩ := trodAll_nil r0
  obtain rfl : args = #[v0] := by cases args; simp_all
  obtain ⟨rfl, rfl⟩ := trodVars_none hV
  have k0 := h0
  have lt0 : ∀ x ∈ p0, x.block < W.heap.size := by obtain ⟨m, hm⟩ := k0; exact DataW.trod_lt m _ _ _ hm
  obtain ⟨fuel0, hf0⟩ := h0
  obtain ⟨x0, y0⟩ := read_Op _ _ _ _ _ _ _ _ _ hf0
  obtain ⟨as0, rfl, _⟩ := okWide_struct Tryd.underlying54 (hval 0 54 v0 rfl rfl)
  have y0' : Rep.rep W as0.toList x0 := by simpa [Value.cells] using y0
  have ea0 : Value.agg as0 = Value.agg as0.toList.toArray := by simp
  clear hA0 hval0
  have hw := law_OpText W as0.toList x0 y0' (table_OpText hL)
  (try simp only [Array.toArray_toList] at hw)
  refine hw.mono fun e W' ⟨he, bel⟩ => ?_
  subst he
  exact ⟨_, rfl, _, _, _, [], _, [], hW', trodAll_mk1 (shut_bool Tryd.underlying4 _), (trodAll_cons_mk (Below.trod laidOut_OpText (by kernel_rfl) (of_decide_eq_true (by kernel_rfl)) k0 bel lt0) trodAll_mk0), rfl, bel.frame _, fun h => by cases h⟩
theorem said_OpText : Rows.FnExactOpTextSaid :=
  OpenClaim.holds_of_cond 6 Tryd.f6 rfl rfl rfl rfl rfl rfl rfl ⟨rfl, rfl, rfl, rfl, rfl⟩ rfl rfl rfl rfl rfl (by kernel_rfl) Tryd.func6 (by kernel_rfl)
    (of_decide_eq_true (by kernel_rfl)) (by unfold Func.isWrapper; first | (rw [if_pos (by decide +kernel)]; kernel_rfl) | (rw [if_neg (by decide +kernel)]; exact ⟨rfl, rfl⟩))
    (fun os started H enc _ F => by rw [OpenClaim.pre_eq_preRow]; exact lifted_OpText os started H enc F)
theorem plain_OpText (f : FuncId) (fn : Func) (hf : Tryd.pinned.checked.prog.funcNamed "loop.example/g00661/laws.FnExactOpText" = some f) (hfn : Tryd.pinned.checked.prog.funcs[f]? = some fn) :
    false = Tryd.pinned.checked.prog.looks [] ∧ ∀ (j : Nat) t, fn.params[j]? = some t → Tryd.pinned.checked.prog.wantsStandIn t = false := by
  obtain rfl : f = 6 := Option.some.inj ((show Tryd.prog.funcNamed "loop.example/g00661/laws.FnExactOpText" = some 6 by kernel_rfl).symm.trans hf) |>.symm
  obtain rfl : fn = Tryd.f6 := (Option.some.inj (Tryd.func6.symm.trans hfn)).symm
  refine ⟨by kernel_rfl, fun j t ht => ?_⟩
  rw [Tryd.params6] at ht
  obtain rfl : t = 54 := by simpa using Array.mem_of_getElem? ht
  exact (show Tryd.prog.wantsStandIn 54 = false by kernel_rfl)
theorem proved_OpText : Rows.FnExactOpTextCardSaid :=
  Claim7.holds_tied_plain_at .later [] _ _ _ _ said_OpText (fun _ h => by cases h) (by kernel_rfl) (fun _ h => by cases h) fnExactOpText_row_tie rfl ⟨rfl, rfl⟩ (by kernel_rfl) rfl plain_OpText (by kernel_rfl)
#print axioms proved_OpText
end Go.Proofs.YtlkadeaomjoiiaaDoor
