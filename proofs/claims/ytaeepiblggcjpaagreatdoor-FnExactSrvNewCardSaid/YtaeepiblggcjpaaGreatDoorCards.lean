/-
  DERIVED. GIVEN WITH THE SEED: THE CARDS: each row of YtaeepiblggcjpaaGreatDoorRows.lean that lists a variable, with what it lists TIED to the program's text (the seventh form; the later family's looks); each row that meets fmt, with fmt's text TOLD by the authors' own Lean function (tested against real Go, not proved from fmt's source: count such statements apart). THE CARD IS WHAT COUNTS. Prove the row's statement (the work); the ties are given (YtaeepiblggcjpaaGreatDoorTie.lean); close each card by the builder's one call (the guide's Derived/Test/ToyasCard.lean, 'card_holds'). Laid BY PROGRAM, IN A SANDBOX (cutbox-door.mjs). By AI agents, Wed Nov 11 2026. No macro, syntax, notation, axiom, sorry.
-/
import Derived.Test.YtaeepiblggcjpaaGreatDoorRows
import GoSem.ClaimSeven
namespace Go.Proofs.YtaeepiblggcjpaaGreatDoor
namespace Rows

/-- THE TIED CARD OF 'laws.FnExactSrvOk'. -/
def fnExactSrvOkCard : Claim7 := { stood := { row := fnExactSrvOkRow, standIns := [], harness := (true, "a9af16dc5be63e407721ea7aeadac2be4f97e07c9b0ab98d620c5c3c35895862"), looks := false }, kinds := [], alts := [], laidByText := true, laidKinds := [.data, .data, .data], laidTests := true, laidLooks := .later }
def FnExactSrvOkCardSaid : Prop := Claim7.holds Tryz.pinned (.plain (OpenSpec.ofChange fnExactSrvOkSpec)) fnExactSrvOkCard

/-- THE TIED CARD OF 'laws.FnExactSrvNew'. -/
def fnExactSrvNewCard : Claim7 := { stood := { row := fnExactSrvNewRow, standIns := [], harness := (true, "a9af16dc5be63e407721ea7aeadac2be4f97e07c9b0ab98d620c5c3c35895862"), looks := false }, kinds := [], alts := [], laidByText := true, laidKinds := [.data, .data, .data], laidTests := true, laidLooks := .later }
def FnExactSrvNewCardSaid : Prop := Claim7.holds Tryz.pinned (.plain (OpenSpec.ofChange fnExactSrvNewSpec)) fnExactSrvNewCard

/-- THE SECOND FORM's CARD OF 'laws.FnExactSrvOk'. -/
def fnExactSrvOkUptoCard : Claim7 := { stood := { row := fnExactSrvOkUptoRow, standIns := [], harness := (true, "a9af16dc5be63e407721ea7aeadac2be4f97e07c9b0ab98d620c5c3c35895862"), looks := false }, kinds := [], alts := [], laidByText := true, laidKinds := [.data, .data, .data], laidTests := true, laidLooks := .later }
def FnExactSrvOkUptoCardSaid : Prop := Claim7.holds Tryz.pinned (.plain (OpenSpec.upto fnExactSrvOkSpec)) fnExactSrvOkUptoCard

/-- THE SECOND FORM's CARD OF 'laws.FnExactSrvNew'. -/
def fnExactSrvNewUptoCard : Claim7 := { stood := { row := fnExactSrvNewUptoRow, standIns := [], harness := (true, "a9af16dc5be63e407721ea7aeadac2be4f97e07c9b0ab98d620c5c3c35895862"), looks := false }, kinds := [], alts := [], laidByText := true, laidKinds := [.data, .data, .data], laidTests := true, laidLooks := .later }
def FnExactSrvNewUptoCardSaid : Prop := Claim7.holds Tryz.pinned (.plain (OpenSpec.upto fnExactSrvNewSpec)) fnExactSrvNewUptoCard
end Rows
end Go.Proofs.YtaeepiblggcjpaaGreatDoor
