/-
  DERIVED. GIVEN WITH THE SEED: THE CARDS: each row of YtichejdalolfgaaGreatDoorRows.lean that lists a variable, with what it lists TIED to the program's text (the seventh form; the later family's looks); each row that meets fmt, with fmt's text TOLD by the authors' own Lean function (tested against real Go, not proved from fmt's source: count such statements apart). THE CARD IS WHAT COUNTS. Prove the row's statement (the work); the ties are given (YtichejdalolfgaaGreatDoorTie.lean); close each card by the builder's one call (the guide's Derived/Test/ToyasCard.lean, 'card_holds'). Laid BY PROGRAM, IN A SANDBOX (cutbox-door.mjs). By AI agents, Wed Nov 11 2026. No macro, syntax, notation, axiom, sorry.
-/
import Derived.Test.YtichejdalolfgaaGreatDoorRows
import GoSem.ClaimSeven
namespace Go.Proofs.YtichejdalolfgaaGreatDoor
namespace Rows

/-- THE TIED CARD OF 'flurrylaw23.HoldDoes'. -/
def holdDoesCard : Claim7 := { stood := { row := holdDoesRow, standIns := [], harness := (true, "ffe63eeb9786bc3c91272c7662cfbcd70b6c89acb157f81dcae332e3b4071ec4"), looks := false }, kinds := [], alts := [], laidByText := true, laidKinds := [.data], laidTests := true, laidLooks := .later }
def HoldDoesCardSaid : Prop := Claim7.holds Tryz.pinned (.plain (OpenSpec.ofChange holdDoesSpec)) holdDoesCard

/-- THE SECOND FORM's CARD OF 'flurrylaw23.HoldDoes'. -/
def holdDoesUptoCard : Claim7 := { stood := { row := holdDoesUptoRow, standIns := [], harness := (true, "ffe63eeb9786bc3c91272c7662cfbcd70b6c89acb157f81dcae332e3b4071ec4"), looks := false }, kinds := [], alts := [], laidByText := true, laidKinds := [.data], laidTests := true, laidLooks := .later }
def HoldDoesUptoCardSaid : Prop := Claim7.holds Tryz.pinned (.plain (OpenSpec.upto holdDoesSpec)) holdDoesUptoCard
end Rows
end Go.Proofs.YtichejdalolfgaaGreatDoor
