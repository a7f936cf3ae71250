/-
  No cell of these rows narrows 'for every input' (looked for: loops, veiled, ifaces, maps, wideKeys, modest, calm, conditions, laid).
  DERIVED. THE GIVEN ROWS OF THIS SEAT. 6 by the template 'for every input the law returns true; each argument reads behind the call as it read before'; 0 by the template 'total and deterministic' (their statements: YtnidoeapoknhdaaTotals.lean).
  GIVEN WITH THE SEED: the statements are not yours to turn. If you find one false, say at which input.
  Laid BY PROGRAM, IN A SANDBOX (cutbox-rows.mjs): the forced cells as the released guide's own fill.sh prints them over the translation 08b6a863013ea01d… (all of the seat's roots in one cut). By AI agents, Wed Nov 11 2026. No macro, syntax, notation, axiom, sorry.
-/
import Derived.Test.YtnidoeapoknhdaaChecked
import GoSem.Claim
import GoSem.ClaimJoined
import GoSem.ClaimMapViews
import Derived.JoinedTies
import Derived.KernelRfl
namespace Go.Proofs.Ytnidoeapoknhdaa
/- THE CELL 'sum', in the pinned program and in every row, IS THE sha256 OF THE DUMP (.gsa) THAT YtnidoeapoknhdaaProg.lean LOADS. Nothing in Lean hashes anything: it is a label: what it is worth is what the hold of that sum in a sandbox is worth. -/
noncomputable def Try.pinned : Pinned := { name := "ytnidoeapoknhdaa", sum := "08b6a863013ea01dcae4fd40db31a069e5536e62b8dd98d8821650dc624dfdcd", checked := Try.checked }
namespace Rows
def none {H : Type} : Left H := { results := [], args := [] }

/-- 'laws.FnExactOpsOf': WHATEVER THE INPUT: true; the input reads as it did. -/
def fnExactOpsOfSpec : ChangeSpec := { name := "fnExactOpsOf", fn := fun _ => fun
  | [d] => { results := [.lit (.bool true)], args := [d] }
  | _ => none }
def fnExactOpsOfRow : OpenClaim := { program := "ytnidoeapoknhdaa", sum := "08b6a863013ea01dcae4fd40db31a069e5536e62b8dd98d8821650dc624dfdcd", func := "loop.example/g00661/laws.FnExactOpsOf", spec := "fnExactOpsOf", apart := false }
def FnExactOpsOfSaid : Prop := fnExactOpsOfRow.holds Try.pinned (OpenSpec.ofChange fnExactOpsOfSpec)

/-- ITS FALSE NEIGHBOUR: 'it returns false'. Refute it at one input. -/
def fnExactOpsOfWrong : ChangeSpec := { name := "fnExactOpsOf", fn := fun _ => fun
  | [d] => { results := [.lit (.bool false)], args := [d] }
  | _ => none }
def FnExactOpsOfWrongFalsely : Prop := fnExactOpsOfRow.holds Try.pinned (OpenSpec.ofChange fnExactOpsOfWrong)

/-- 'laws.FnExactViewOk': WHATEVER THE INPUT: true; the input reads as it did. -/
def fnExactViewOkSpec : ChangeSpec := { name := "fnExactViewOk", fn := fun _ => fun
  | [d] => { results := [.lit (.bool true)], args := [d] }
  | _ => none }
def fnExactViewOkRow : OpenClaim := { program := "ytnidoeapoknhdaa", sum := "08b6a863013ea01dcae4fd40db31a069e5536e62b8dd98d8821650dc624dfdcd", func := "loop.example/g00661/laws.FnExactViewOk", spec := "fnExactViewOk", unfollowed := true, recurses := true, apart := false }
def FnExactViewOkSaid : Prop := fnExactViewOkRow.holds Try.pinned (OpenSpec.ofChange fnExactViewOkSpec)

/-- ITS FALSE NEIGHBOUR: 'it returns false'. Refute it at one input. -/
def fnExactViewOkWrong : ChangeSpec := { name := "fnExactViewOk", fn := fun _ => fun
  | [d] => { results := [.lit (.bool false)], args := [d] }
  | _ => none }
def FnExactViewOkWrongFalsely : Prop := fnExactViewOkRow.holds Try.pinned (OpenSpec.ofChange fnExactViewOkWrong)

/-- 'laws.FnExactTableOk': WHATEVER THE INPUT: true; the input reads as it did. -/
def fnExactTableOkSpec : ChangeSpec := { name := "fnExactTableOk", fn := fun _ => fun
  | [d] => { results := [.lit (.bool true)], args := [d] }
  | _ => none }
def fnExactTableOkRow : OpenClaim := { program := "ytnidoeapoknhdaa", sum := "08b6a863013ea01dcae4fd40db31a069e5536e62b8dd98d8821650dc624dfdcd", func := "loop.example/g00661/laws.FnExactTableOk", spec := "fnExactTableOk", unfollowed := true, recurses := true, apart := false }
def FnExactTableOkSaid : Prop := fnExactTableOkRow.holds Try.pinned (OpenSpec.ofChange fnExactTableOkSpec)

/-- ITS FALSE NEIGHBOUR: 'it returns false'. Refute it at one input. -/
def fnExactTableOkWrong : ChangeSpec := { name := "fnExactTableOk", fn := fun _ => fun
  | [d] => { results := [.lit (.bool false)], args := [d] }
  | _ => none }
def FnExactTableOkWrongFalsely : Prop := fnExactTableOkRow.holds Try.pinned (OpenSpec.ofChange fnExactTableOkWrong)

/-- 'laws.FnExactKeep': WHATEVER THE INPUT: true; the input reads as it did. -/
def fnExactKeepSpec : ChangeSpec := { name := "fnExactKeep", fn := fun _ => fun
  | [d1, d2] => { results := [.lit (.bool true)], args := [d1, d2] }
  | _ => none }
def fnExactKeepRow : OpenClaim := { program := "ytnidoeapoknhdaa", sum := "08b6a863013ea01dcae4fd40db31a069e5536e62b8dd98d8821650dc624dfdcd", func := "loop.example/g00661/laws.FnExactKeep", spec := "fnExactKeep", apart := false }
def FnExactKeepSaid : Prop := fnExactKeepRow.holds Try.pinned (OpenSpec.ofChange fnExactKeepSpec)

/-- ITS FALSE NEIGHBOUR: 'it returns false'. Refute it at one input. -/
def fnExactKeepWrong : ChangeSpec := { name := "fnExactKeep", fn := fun _ => fun
  | [d1, d2] => { results := [.lit (.bool false)], args := [d1, d2] }
  | _ => none }
def FnExactKeepWrongFalsely : Prop := fnExactKeepRow.holds Try.pinned (OpenSpec.ofChange fnExactKeepWrong)

/-- 'laws.FnExactTableDown': WHATEVER THE INPUT: true; the input reads as it did. -/
def fnExactTableDownSpec : ChangeSpec := { name := "fnExactTableDown", fn := fun _ => fun
  | [d] => { results := [.lit (.bool true)], args := [d] }
  | _ => none }
def fnExactTableDownRow : OpenClaim := { program := "ytnidoeapoknhdaa", sum := "08b6a863013ea01dcae4fd40db31a069e5536e62b8dd98d8821650dc624dfdcd", func := "loop.example/g00661/laws.FnExactTableDown", spec := "fnExactTableDown", unfollowed := true, recurses := true, apart := false }
def FnExactTableDownSaid : Prop := fnExactTableDownRow.holds Try.pinned (OpenSpec.ofChange fnExactTableDownSpec)

/-- ITS FALSE NEIGHBOUR: 'it returns false'. Refute it at one input. -/
def fnExactTableDownWrong : ChangeSpec := { name := "fnExactTableDown", fn := fun _ => fun
  | [d] => { results := [.lit (.bool false)], args := [d] }
  | _ => none }
def FnExactTableDownWrongFalsely : Prop := fnExactTableDownRow.holds Try.pinned (OpenSpec.ofChange fnExactTableDownWrong)

/-- 'laws.FnExactTableEnd': WHATEVER THE INPUT: true; the input reads as it did. -/
def fnExactTableEndSpec : ChangeSpec := { name := "fnExactTableEnd", fn := fun _ => fun
  | [d1, d2] => { results := [.lit (.bool true)], args := [d1, d2] }
  | _ => none }
def fnExactTableEndRow : OpenClaim := { program := "ytnidoeapoknhdaa", sum := "08b6a863013ea01dcae4fd40db31a069e5536e62b8dd98d8821650dc624dfdcd", func := "loop.example/g00661/laws.FnExactTableEnd", spec := "fnExactTableEnd", unfollowed := true, recurses := true, apart := false }
def FnExactTableEndSaid : Prop := fnExactTableEndRow.holds Try.pinned (OpenSpec.ofChange fnExactTableEndSpec)

/-- ITS FALSE NEIGHBOUR: 'it returns false'. Refute it at one input. -/
def fnExactTableEndWrong : ChangeSpec := { name := "fnExactTableEnd", fn := fun _ => fun
  | [d1, d2] => { results := [.lit (.bool false)], args := [d1, d2] }
  | _ => none }
def FnExactTableEndWrongFalsely : Prop := fnExactTableEndRow.holds Try.pinned (OpenSpec.ofChange fnExactTableEndWrong)

/- THE SECOND FORM. 'bulk': how many values and letters a reading holds, each counted each time it is reached (what is shared counts as often as it is met; a slice's spare places count too). A statement '..UptoSaid' is the law's where the arguments, and the package variables that the reading takes, are together of bulk at most 1048576: NARROWER than '..Said'. Prove '..Said' where nothing that the law and all that it calls make is longer than what came in: it says more and counts as full. Else prove '..UptoSaid'. A law counts once. -/
mutual
def uptoBulk {H : Type} : DataW H → Nat
  | .lit (.string bytes) => bytes.length + 1
  | .lit _ => 1
  | .nil => 1
  | .ptr d => uptoBulk d + 1
  | .slice elems spare => uptoBulkAll elems + uptoBulkAll spare + 1
  | .agg parts => uptoBulkAll parts + 1
  | .iface _ d => uptoBulk d + 1
  | .map entries => uptoBulkEntries entries + 1
  | .held _ => 1
def uptoBulkAll {H : Type} : List (DataW H) → Nat
  | [] => 0
  | d :: r => uptoBulk d + uptoBulkAll r
def uptoBulkEntries {H : Type} : List (Lit × DataW H) → Nat
  | [] => 0
  | x :: r => uptoBulkEntry x + uptoBulkEntries r
def uptoBulkEntry {H : Type} : Lit × DataW H → Nat
  | (.string bytes, d) => bytes.length + uptoBulk d + 1
  | (_, d) => uptoBulk d + 1
 end
def uptoSmall : (H : Type) → List (DataW H) → Bool := fun _ ds => decide (uptoBulkAll ds ≤ 1048576)
def OpenSpec.upto (s : _root_.Go.ChangeSpec) : _root_.Go.OpenSpec := { _root_.Go.OpenSpec.ofChange s with cond := some uptoSmall }

/-- 'laws.FnExactOpsOf', WHERE WHAT IT READS IS OF BULK AT MOST 1048576: true; the input reads as it did. -/
def fnExactOpsOfUptoRow : OpenClaim := { program := "ytnidoeapoknhdaa", sum := "08b6a863013ea01dcae4fd40db31a069e5536e62b8dd98d8821650dc624dfdcd", func := "loop.example/g00661/laws.FnExactOpsOf", spec := "fnExactOpsOf", apart := false, narrowed := true }
def FnExactOpsOfUptoSaid : Prop := fnExactOpsOfUptoRow.holds Try.pinned (OpenSpec.upto fnExactOpsOfSpec)

/-- 'laws.FnExactViewOk', WHERE WHAT IT READS IS OF BULK AT MOST 1048576: true; the input reads as it did. -/
def fnExactViewOkUptoRow : OpenClaim := { program := "ytnidoeapoknhdaa", sum := "08b6a863013ea01dcae4fd40db31a069e5536e62b8dd98d8821650dc624dfdcd", func := "loop.example/g00661/laws.FnExactViewOk", spec := "fnExactViewOk", unfollowed := true, recurses := true, apart := false, narrowed := true }
def FnExactViewOkUptoSaid : Prop := fnExactViewOkUptoRow.holds Try.pinned (OpenSpec.upto fnExactViewOkSpec)

/-- 'laws.FnExactTableOk', WHERE WHAT IT READS IS OF BULK AT MOST 1048576: true; the input reads as it did. -/
def fnExactTableOkUptoRow : OpenClaim := { program := "ytnidoeapoknhdaa", sum := "08b6a863013ea01dcae4fd40db31a069e5536e62b8dd98d8821650dc624dfdcd", func := "loop.example/g00661/laws.FnExactTableOk", spec := "fnExactTableOk", unfollowed := true, recurses := true, apart := false, narrowed := true }
def FnExactTableOkUptoSaid : Prop := fnExactTableOkUptoRow.holds Try.pinned (OpenSpec.upto fnExactTableOkSpec)

/-- 'laws.FnExactKeep', WHERE WHAT IT READS IS OF BULK AT MOST 1048576: true; the input reads as it did. -/
def fnExactKeepUptoRow : OpenClaim := { program := "ytnidoeapoknhdaa", sum := "08b6a863013ea01dcae4fd40db31a069e5536e62b8dd98d8821650dc624dfdcd", func := "loop.example/g00661/laws.FnExactKeep", spec := "fnExactKeep", apart := false, narrowed := true }
def FnExactKeepUptoSaid : Prop := fnExactKeepUptoRow.holds Try.pinned (OpenSpec.upto fnExactKeepSpec)

/-- 'laws.FnExactTableDown', WHERE WHAT IT READS IS OF BULK AT MOST 1048576: true; the input reads as it did. -/
def fnExactTableDownUptoRow : OpenClaim := { program := "ytnidoeapoknhdaa", sum := "08b6a863013ea01dcae4fd40db31a069e5536e62b8dd98d8821650dc624dfdcd", func := "loop.example/g00661/laws.FnExactTableDown", spec := "fnExactTableDown", unfollowed := true, recurses := true, apart := false, narrowed := true }
def FnExactTableDownUptoSaid : Prop := fnExactTableDownUptoRow.holds Try.pinned (OpenSpec.upto fnExactTableDownSpec)

/-- 'laws.FnExactTableEnd', WHERE WHAT IT READS IS OF BULK AT MOST 1048576: true; the input reads as it did. -/
def fnExactTableEndUptoRow : OpenClaim := { program := "ytnidoeapoknhdaa", sum := "08b6a863013ea01dcae4fd40db31a069e5536e62b8dd98d8821650dc624dfdcd", func := "loop.example/g00661/laws.FnExactTableEnd", spec := "fnExactTableEnd", unfollowed := true, recurses := true, apart := false, narrowed := true }
def FnExactTableEndUptoSaid : Prop := fnExactTableEndUptoRow.holds Try.pinned (OpenSpec.upto fnExactTableEndSpec)

end Rows
end Go.Proofs.Ytnidoeapoknhdaa
