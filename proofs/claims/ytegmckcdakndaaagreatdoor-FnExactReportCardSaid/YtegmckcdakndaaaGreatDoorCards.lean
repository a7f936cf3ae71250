/-
  DERIVED. GIVEN WITH THE SEED: THE CARDS: each row of YtegmckcdakndaaaGreatDoorRows.lean that lists a variable, with what it lists TIED to the program's text (the seventh form; the later family's looks); each row that meets fmt, with fmt's text TOLD by the authors' own Lean function (tested against real Go, not proved from fmt's source: count such statements apart). THE CARD IS WHAT COUNTS. Prove the row's statement (the work); the ties are given (YtegmckcdakndaaaGreatDoorTie.lean); close each card by the builder's one call (the guide's Derived/Test/ToyasCard.lean, 'card_holds'). Laid BY PROGRAM, IN A SANDBOX (cutbox-door.mjs). By AI agents, Wed Nov 11 2026. No macro, syntax, notation, axiom, sorry.
-/
import Derived.Test.YtegmckcdakndaaaGreatDoorRows
import GoSem.ClaimSeven
namespace Go.Proofs.YtegmckcdakndaaaGreatDoor
namespace Rows

/-- THE TIED CARD OF 'laws.FnExactReport'. -/
def fnExactReportCard : Claim7 := { stood := { row := fnExactReportRow, standIns := [], harness := (true, "cb3531e4232eee0fe75187a21c3163868f575f6b302a6fbe51dfc850c62c8bd7"), looks := false }, kinds := [], alts := [], laidByText := true, laidKinds := [.data, .data, .data], laidTests := true, laidLooks := .later }
def FnExactReportCardSaid : Prop := Claim7.holds Tryz.pinned (.plain (OpenSpec.ofChange fnExactReportSpec)) fnExactReportCard

/-- THE SECOND FORM's CARD OF 'laws.FnExactReport'. -/
def fnExactReportUptoCard : Claim7 := { stood := { row := fnExactReportUptoRow, standIns := [], harness := (true, "cb3531e4232eee0fe75187a21c3163868f575f6b302a6fbe51dfc850c62c8bd7"), looks := false }, kinds := [], alts := [], laidByText := true, laidKinds := [.data, .data, .data], laidTests := true, laidLooks := .later }
def FnExactReportUptoCardSaid : Prop := Claim7.holds Tryz.pinned (.plain (OpenSpec.upto fnExactReportSpec)) fnExactReportUptoCard
end Rows
end Go.Proofs.YtegmckcdakndaaaGreatDoor
