/-
  DERIVED. GIVEN WITH THE SEED: THE CARDS: each row of YtjglknaojfnllaaDoorRows.lean that lists a variable, with what it lists TIED to the program's text (the seventh form; the later family's looks); each row that meets fmt, with fmt's text TOLD by the authors' own Lean function (tested against real Go, not proved from fmt's source: count such statements apart). THE CARD IS WHAT COUNTS. Prove the row's statement (the work); the ties are given (YtjglknaojfnllaaDoorTie.lean); close each card by the builder's one call (the guide's Derived/Test/ToyasCard.lean, 'card_holds'). Laid BY PROGRAM, IN A SANDBOX (cutbox-door.mjs). By AI agents, Wed Nov 11 2026. No macro, syntax, notation, axiom, sorry.
-/
import Derived.Test.YtjglknaojfnllaaDoorRows
import GoSem.ClaimSeven
namespace Go.Proofs.YtjglknaojfnllaaDoor
namespace Rows

/-- THE TIED CARD OF 'laws.FnExactTextStep'. -/
def fnExactTextStepCard : Claim7 := { stood := { row := fnExactTextStepRow, standIns := [], harness := (true, "e9bcf854828fb05a6a90f38f45d1ce965452b0ca12ce51e4a893befb468a3322"), looks := true }, kinds := [], alts := [], laidByText := true, laidKinds := [.data, .data, .data, .data, .sentinel, .sentinel, .pinned], laidTests := true, laidLooks := .later }
def FnExactTextStepCardSaid : Prop := Claim7.holds Tryd.pinned (.plain (OpenSpec.ofChange fnExactTextStepSpec)) fnExactTextStepCard

/-- THE TIED CARD OF 'laws.FnExactTextOp'. -/
def fnExactTextOpCard : Claim7 := { stood := { row := fnExactTextOpRow, standIns := [], harness := (true, "e9bcf854828fb05a6a90f38f45d1ce965452b0ca12ce51e4a893befb468a3322"), looks := true }, kinds := [], alts := [], laidByText := true, laidKinds := [.data, .data, .data, .data, .sentinel, .sentinel, .pinned], laidTests := true, laidLooks := .later }
def FnExactTextOpCardSaid : Prop := Claim7.holds Tryd.pinned (.plain (OpenSpec.ofChange fnExactTextOpSpec)) fnExactTextOpCard

/-- THE SECOND FORM's CARD OF 'laws.FnExactTextStep'. -/
def fnExactTextStepUptoCard : Claim7 := { stood := { row := fnExactTextStepUptoRow, standIns := [], harness := (true, "e9bcf854828fb05a6a90f38f45d1ce965452b0ca12ce51e4a893befb468a3322"), looks := true }, kinds := [], alts := [], laidByText := true, laidKinds := [.data, .data, .data, .data, .sentinel, .sentinel, .pinned], laidTests := true, laidLooks := .later }
def FnExactTextStepUptoCardSaid : Prop := Claim7.holds Tryd.pinned (.plain (OpenSpec.upto fnExactTextStepSpec)) fnExactTextStepUptoCard

/-- THE SECOND FORM's CARD OF 'laws.FnExactTextOp'. -/
def fnExactTextOpUptoCard : Claim7 := { stood := { row := fnExactTextOpUptoRow, standIns := [], harness := (true, "e9bcf854828fb05a6a90f38f45d1ce965452b0ca12ce51e4a893befb468a3322"), looks := true }, kinds := [], alts := [], laidByText := true, laidKinds := [.data, .data, .data, .data, .sentinel, .sentinel, .pinned], laidTests := true, laidLooks := .later }
def FnExactTextOpUptoCardSaid : Prop := Claim7.holds Tryd.pinned (.plain (OpenSpec.upto fnExactTextOpSpec)) fnExactTextOpUptoCard
end Rows
end Go.Proofs.YtjglknaojfnllaaDoor
