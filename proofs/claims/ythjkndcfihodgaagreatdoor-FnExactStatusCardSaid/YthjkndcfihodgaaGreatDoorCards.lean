/-
  DERIVED. GIVEN WITH THE SEED: THE CARDS: each row of YthjkndcfihodgaaGreatDoorRows.lean that lists a variable, with what it lists TIED to the program's text (the seventh form; the later family's looks); each row that meets fmt, with fmt's text TOLD by the authors' own Lean function (tested against real Go, not proved from fmt's source: count such statements apart). THE CARD IS WHAT COUNTS. Prove the row's statement (the work); the ties are given (YthjkndcfihodgaaGreatDoorTie.lean); close each card by the builder's one call (the guide's Derived/Test/ToyasCard.lean, 'card_holds'). Laid BY PROGRAM, IN A SANDBOX (cutbox-door.mjs). By AI agents, Wed Nov 11 2026. No macro, syntax, notation, axiom, sorry.
-/
import Derived.Test.YthjkndcfihodgaaGreatDoorRows
import GoSem.ClaimSeven
namespace Go.Proofs.YthjkndcfihodgaaGreatDoor
namespace Rows

/-- THE TIED CARD OF 'laws.FnExactStatus'. -/
def fnExactStatusCard : Claim7 := { stood := { row := fnExactStatusRow, standIns := [], harness := (true, "ffe7532b8ed1525044feefca78f8d39de0e8072d2ffb4724de28dfa0c29ddbbf"), looks := false }, kinds := [], alts := [], laidByText := true, laidKinds := [.data, .data, .data], laidTests := true, laidLooks := .later }
def FnExactStatusCardSaid : Prop := Claim7.holds Tryz.pinned (.plain (OpenSpec.ofChange fnExactStatusSpec)) fnExactStatusCard

/-- THE TIED CARD OF 'laws.FnExactPicture'. -/
def fnExactPictureCard : Claim7 := { stood := { row := fnExactPictureRow, standIns := [], harness := (true, "ffe7532b8ed1525044feefca78f8d39de0e8072d2ffb4724de28dfa0c29ddbbf"), looks := false }, kinds := [], alts := [], laidByText := true, laidKinds := [.data, .data, .data], laidTests := true, laidLooks := .later }
def FnExactPictureCardSaid : Prop := Claim7.holds Tryz.pinned (.plain (OpenSpec.ofChange fnExactPictureSpec)) fnExactPictureCard

/-- THE TIED CARD OF 'laws.FnExactSrvOk'. -/
def fnExactSrvOkCard : Claim7 := { stood := { row := fnExactSrvOkRow, standIns := [], harness := (true, "ffe7532b8ed1525044feefca78f8d39de0e8072d2ffb4724de28dfa0c29ddbbf"), looks := false }, kinds := [], alts := [], laidByText := true, laidKinds := [.data, .data, .data], laidTests := true, laidLooks := .later }
def FnExactSrvOkCardSaid : Prop := Claim7.holds Tryz.pinned (.plain (OpenSpec.ofChange fnExactSrvOkSpec)) fnExactSrvOkCard

/-- THE SECOND FORM's CARD OF 'laws.FnExactStatus'. -/
def fnExactStatusUptoCard : Claim7 := { stood := { row := fnExactStatusUptoRow, standIns := [], harness := (true, "ffe7532b8ed1525044feefca78f8d39de0e8072d2ffb4724de28dfa0c29ddbbf"), looks := false }, kinds := [], alts := [], laidByText := true, laidKinds := [.data, .data, .data], laidTests := true, laidLooks := .later }
def FnExactStatusUptoCardSaid : Prop := Claim7.holds Tryz.pinned (.plain (OpenSpec.upto fnExactStatusSpec)) fnExactStatusUptoCard

/-- THE SECOND FORM's CARD OF 'laws.FnExactPicture'. -/
def fnExactPictureUptoCard : Claim7 := { stood := { row := fnExactPictureUptoRow, standIns := [], harness := (true, "ffe7532b8ed1525044feefca78f8d39de0e8072d2ffb4724de28dfa0c29ddbbf"), looks := false }, kinds := [], alts := [], laidByText := true, laidKinds := [.data, .data, .data], laidTests := true, laidLooks := .later }
def FnExactPictureUptoCardSaid : Prop := Claim7.holds Tryz.pinned (.plain (OpenSpec.upto fnExactPictureSpec)) fnExactPictureUptoCard

/-- THE SECOND FORM's CARD OF 'laws.FnExactSrvOk'. -/
def fnExactSrvOkUptoCard : Claim7 := { stood := { row := fnExactSrvOkUptoRow, standIns := [], harness := (true, "ffe7532b8ed1525044feefca78f8d39de0e8072d2ffb4724de28dfa0c29ddbbf"), looks := false }, kinds := [], alts := [], laidByText := true, laidKinds := [.data, .data, .data], laidTests := true, laidLooks := .later }
def FnExactSrvOkUptoCardSaid : Prop := Claim7.holds Tryz.pinned (.plain (OpenSpec.upto fnExactSrvOkSpec)) fnExactSrvOkUptoCard
end Rows
end Go.Proofs.YthjkndcfihodgaaGreatDoor
