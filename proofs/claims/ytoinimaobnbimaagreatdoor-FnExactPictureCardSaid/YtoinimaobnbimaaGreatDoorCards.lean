/-
  DERIVED. GIVEN WITH THE SEED: THE CARDS: each row of YtoinimaobnbimaaGreatDoorRows.lean that lists a variable, with what it lists TIED to the program's text (the seventh form; the later family's looks); each row that meets fmt, with fmt's text TOLD by the authors' own Lean function (tested against real Go, not proved from fmt's source: count such statements apart). THE CARD IS WHAT COUNTS. Prove the row's statement (the work); the ties are given (YtoinimaobnbimaaGreatDoorTie.lean); close each card by the builder's one call (the guide's Derived/Test/ToyasCard.lean, 'card_holds'). Laid BY PROGRAM, IN A SANDBOX (cutbox-door.mjs). By AI agents, Wed Nov 11 2026. No macro, syntax, notation, axiom, sorry.
-/
import Derived.Test.YtoinimaobnbimaaGreatDoorRows
import GoSem.ClaimSeven
namespace Go.Proofs.YtoinimaobnbimaaGreatDoor
namespace Rows

/-- THE TIED CARD OF 'laws.FnExactPicture'. -/
def fnExactPictureCard : Claim7 := { stood := { row := fnExactPictureRow, standIns := [], harness := (true, "f6674de43e57867264c5ccd03ad91371f7bc8ba0dfb653132387c39c24f34285"), looks := false }, kinds := [], alts := [], laidByText := true, laidKinds := [.data, .data, .data], laidTests := true, laidLooks := .later }
def FnExactPictureCardSaid : Prop := Claim7.holds Tryz.pinned (.plain (OpenSpec.ofChange fnExactPictureSpec)) fnExactPictureCard

/-- THE SECOND FORM's CARD OF 'laws.FnExactPicture'. -/
def fnExactPictureUptoCard : Claim7 := { stood := { row := fnExactPictureUptoRow, standIns := [], harness := (true, "f6674de43e57867264c5ccd03ad91371f7bc8ba0dfb653132387c39c24f34285"), looks := false }, kinds := [], alts := [], laidByText := true, laidKinds := [.data, .data, .data], laidTests := true, laidLooks := .later }
def FnExactPictureUptoCardSaid : Prop := Claim7.holds Tryz.pinned (.plain (OpenSpec.upto fnExactPictureSpec)) fnExactPictureUptoCard
end Rows
end Go.Proofs.YtoinimaobnbimaaGreatDoor
