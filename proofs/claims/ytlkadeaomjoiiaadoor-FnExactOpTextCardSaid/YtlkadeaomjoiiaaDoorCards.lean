/-
  DERIVED. GIVEN WITH THE SEED: THE CARDS: each row of YtlkadeaomjoiiaaDoorRows.lean that lists a variable, with what it lists TIED to the program's text (the seventh form; the later family's looks); each row that meets fmt, with fmt's text TOLD by the authors' own Lean function (tested against real Go, not proved from fmt's source: count such statements apart). THE CARD IS WHAT COUNTS. Prove the row's statement (the work); the ties are given (YtlkadeaomjoiiaaDoorTie.lean); close each card by the builder's one call (the guide's Derived/Test/ToyasCard.lean, 'card_holds'). Laid BY PROGRAM, IN A SANDBOX (cutbox-door.mjs). By AI agents, Wed Nov 11 2026. No macro, syntax, notation, axiom, sorry.
-/
import Derived.Test.YtlkadeaomjoiiaaDoorRows
import GoSem.ClaimSeven
namespace Go.Proofs.YtlkadeaomjoiiaaDoor
namespace Rows

/-- THE TIED CARD OF 'laws.FnExactPaint'. -/
def fnExactPaintCard : Claim7 := { stood := { row := fnExactPaintRow, standIns := [], harness := (true, "774b15c4c7eca120e829237851c0a5b6812477e45f6a7b25e764e78aff6ca773"), looks := false }, kinds := [], alts := [], laidByText := true, laidKinds := [.data, .data, .data], laidTests := true, laidLooks := .later }
def FnExactPaintCardSaid : Prop := Claim7.holds Tryd.pinned (.plain (OpenSpec.ofChange fnExactPaintSpec)) fnExactPaintCard

/-- THE TIED CARD OF 'laws.FnExactRepaint'. -/
def fnExactRepaintCard : Claim7 := { stood := { row := fnExactRepaintRow, standIns := [], harness := (true, "774b15c4c7eca120e829237851c0a5b6812477e45f6a7b25e764e78aff6ca773"), looks := false }, kinds := [], alts := [], laidByText := true, laidKinds := [.data, .data, .data], laidTests := true, laidLooks := .later }
def FnExactRepaintCardSaid : Prop := Claim7.holds Tryd.pinned (.plain (OpenSpec.ofChange fnExactRepaintSpec)) fnExactRepaintCard

/-- THE TIED CARD OF 'laws.FnExactStepText'. -/
def fnExactStepTextCard : Claim7 := { stood := { row := fnExactStepTextRow, standIns := [], harness := (true, "774b15c4c7eca120e829237851c0a5b6812477e45f6a7b25e764e78aff6ca773"), looks := false }, kinds := [], alts := [], laidByText := true, laidKinds := [.data, .data, .data], laidTests := true, laidLooks := .later }
def FnExactStepTextCardSaid : Prop := Claim7.holds Tryd.pinned (.plain (OpenSpec.ofChange fnExactStepTextSpec)) fnExactStepTextCard

/-- THE TIED CARD OF 'laws.FnExactOpText'. -/
def fnExactOpTextCard : Claim7 := { stood := { row := fnExactOpTextRow, standIns := [], harness := (true, "774b15c4c7eca120e829237851c0a5b6812477e45f6a7b25e764e78aff6ca773"), looks := false }, kinds := [], alts := [], laidByText := true, laidKinds := [.data, .data, .data], laidTests := true, laidLooks := .later }
def FnExactOpTextCardSaid : Prop := Claim7.holds Tryd.pinned (.plain (OpenSpec.ofChange fnExactOpTextSpec)) fnExactOpTextCard

/-- THE SECOND FORM's CARD OF 'laws.FnExactPaint'. -/
def fnExactPaintUptoCard : Claim7 := { stood := { row := fnExactPaintUptoRow, standIns := [], harness := (true, "774b15c4c7eca120e829237851c0a5b6812477e45f6a7b25e764e78aff6ca773"), looks := false }, kinds := [], alts := [], laidByText := true, laidKinds := [.data, .data, .data], laidTests := true, laidLooks := .later }
def FnExactPaintUptoCardSaid : Prop := Claim7.holds Tryd.pinned (.plain (OpenSpec.upto fnExactPaintSpec)) fnExactPaintUptoCard

/-- THE SECOND FORM's CARD OF 'laws.FnExactRepaint'. -/
def fnExactRepaintUptoCard : Claim7 := { stood := { row := fnExactRepaintUptoRow, standIns := [], harness := (true, "774b15c4c7eca120e829237851c0a5b6812477e45f6a7b25e764e78aff6ca773"), looks := false }, kinds := [], alts := [], laidByText := true, laidKinds := [.data, .data, .data], laidTests := true, laidLooks := .later }
def FnExactRepaintUptoCardSaid : Prop := Claim7.holds Tryd.pinned (.plain (OpenSpec.upto fnExactRepaintSpec)) fnExactRepaintUptoCard

/-- THE SECOND FORM's CARD OF 'laws.FnExactStepText'. -/
def fnExactStepTextUptoCard : Claim7 := { stood := { row := fnExactStepTextUptoRow, standIns := [], harness := (true, "774b15c4c7eca120e829237851c0a5b6812477e45f6a7b25e764e78aff6ca773"), looks := false }, kinds := [], alts := [], laidByText := true, laidKinds := [.data, .data, .data], laidTests := true, laidLooks := .later }
def FnExactStepTextUptoCardSaid : Prop := Claim7.holds Tryd.pinned (.plain (OpenSpec.upto fnExactStepTextSpec)) fnExactStepTextUptoCard

/-- THE SECOND FORM's CARD OF 'laws.FnExactOpText'. -/
def fnExactOpTextUptoCard : Claim7 := { stood := { row := fnExactOpTextUptoRow, standIns := [], harness := (true, "774b15c4c7eca120e829237851c0a5b6812477e45f6a7b25e764e78aff6ca773"), looks := false }, kinds := [], alts := [], laidByText := true, laidKinds := [.data, .data, .data], laidTests := true, laidLooks := .later }
def FnExactOpTextUptoCardSaid : Prop := Claim7.holds Tryd.pinned (.plain (OpenSpec.upto fnExactOpTextSpec)) fnExactOpTextUptoCard
end Rows
end Go.Proofs.YtlkadeaomjoiiaaDoor
