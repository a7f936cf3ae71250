/- The law of Status: part LST1. -/
import Derived.Test.YthjkndcfihodgaaGreatDoorQF
import Derived.Stop.LaidErr
import Derived.Test.YthjkndcfihodgaaGreatDoorRows
import Derived.Test.YthjkndcfihodgaaGreatDoorCards
import Derived.Test.YthjkndcfihodgaaGreatDoorTie
import Derived.WalkKit
import Derived.Deep.DeepHandedRow
import Derived.Deep.DeepLaidRun
import Derived.Lib.LaidTab
import Derived.MakeChecks
import Derived.ProofKit
import Derived.OpenShut
import Derived.ShutString
import Derived.ChangeOld
set_option linter.unusedSimpArgs false
set_option linter.unusedVariables false
set_option linter.constructorNameAsVariable false
namespace Go.Proofs.YthjkndcfihodgaaGreatDoor
open Go.RowKit Go.Px
open Go.ChangeShapes Go.WideShapes Go.ChangeAt
open Go.ChangeMaps (open_string shut_string)
theorem own_knob : ownKnob Tryz.prog.godebug = none := by kernel_rfl
theorem laidOut : laidOutB Tryz.prog = true := by kernel_rfl
def zVal : Leaf → Value
  | .sc v => v
  | .nest _ _ => .slice none 0 0
def zArg (k : K) : Value := .agg ((leaves (zK k)).map zVal).toArray
theorem rd0 : rdT Tryz.prog 40 (Tryz.f3.params[0]!) = some (leaves (zK .lState)) := by kernel_rfl
theorem table_Status {W : World} (h : laidMetH Tryz.prog Rows.fnExactStatusRow.laid W) : TabW W := by
  rw [Go.MakeChecks.laidMetH_plain _ _ _ (by kernel_rfl)] at h
  have h2 : laidMet Tryz.prog [("internal/strconv.uint64pow10", Lib.tabData .u64 Lib.pow10Tab)] W := (show laidMet Tryz.prog (_ :: _ :: ("internal/strconv.uint64pow10", Lib.tabData .u64 Lib.pow10Tab) :: []) W from h).tail.tail
  exact Lib.tabIs_of_head (rest := []) (g := 0) (t := 418) (e := 287) (n := 20) (by kernel_rfl) (by kernel_rfl) (by kernel_rfl) (by kernel_rfl) (by kernel_rfl) (by kernel_rfl) h2
theorem law_Status (W : World) {as0 : Array Value} {s : LState} {n : ByteArray} (h0 : All2 (LeafV (fun b => b < W.heap.size) W) (leaves (k := .lState) s) as0.toList) (hn : n.size ≤ 9223372036854775807) (ht : TabW W) :
    Calls Tryz.prog 3 #[.agg as0, .string n] W fun e W' => e = .returned (.bool true) ∧ Below W.heap.size W W' := by
  have hf := plain_law s n (fit_State (lens_of 4 h0))
  have hcl : Cl W.heap.size (fun w' => ∀ b, b < W.heap.size → w'.heap[b]? = W.heap[b]?) := ⟨fun w1 w2 h1 hh b hb => (hh b hb).trans (h1 b hb), fun w' h => tab_stays ht h⟩
  have hc := c3 hcl 20000100 (s, n) true hf
  exact law_ofE (us := [.agg as0, .string n]) Tryz.func3 (by kernel_rfl) rfl (fun _ _ => rfl) hc ⟨[], [], rfl, own_st h0, [], [], rfl, ⟨rfl, rfl, hn⟩, rfl⟩
def put_Status (d : DataW Unit) : Obj → Obj
  | .cells _ t frozen => .cells (match d with | .agg l => (l.map fun | .lit (.int k n) => Value.int k n | _ => undef).toArray | _ => #[]) t frozen
  | o => o
noncomputable def laidWorld_Status (os : Os) : World :=
  { World.holding Tryz.prog os ⟨#[], #[], []⟩ with heap := ((((World.holding Tryz.prog os ⟨#[], #[], []⟩).heap.modify 2 (put_Status Rows.laid_math_bits_deBruijn32tab)).modify 3 (put_Status Rows.laid_math_bits_deBruijn64tab)).modify 0 (put_Status Rows.laid_internal_strconv_uint64pow10)) }
theorem laid_met_Status (os : Os) : laidMet Tryz.prog Rows.fnExactStatusRow.laid ((laidWorld_Status os).forCall (fun _ _ => 0) ⟨#[], #[zArg .lState, .string ByteArray.empty], []⟩).memory :=
  laidMet_of_run' 8 (by kernel_rfl) (by kernel_rfl)
theorem reads_Status (os : Os) {H : Type} (enc : TypeId × Value → H) : ∃ places, DataW.whole enc Tryz.prog ((laidWorld_Status os).forCall (fun _ _ => 0) ⟨#[], #[zArg .lState, .string ByteArray.empty], []⟩).memory Tryz.f3.params.toList Rows.fnExactStatusSpec.vars false (#[zArg .lState, .string ByteArray.empty] : Array Value).toList 8 = some ([.agg [.lit (.int .i64 0), .lit (.int .i64 0), .lit (.int .i64 0), .lit (.int .i64 0), .nil, .nil, .nil], .lit (.string [])], [], places) :=
  ⟨[], by kernel_rfl⟩
end Go.Proofs.YthjkndcfihodgaaGreatDoor
