/-
  DERIVED. GIVEN WITH THE SEED: THE CARDS: each row of YtcnpediagjjnbaaDoorRows.lean that lists a variable, with what it lists TIED to the program's text (the seventh form; the later family's looks); each row that meets fmt, with fmt's text TOLD by the authors' own Lean function (tested against real Go, not proved from fmt's source: count such statements apart). THE CARD IS WHAT COUNTS. Prove the row's statement (the work); the ties are given (YtcnpediagjjnbaaDoorTie.lean); close each card by the builder's one call (the guide's Derived/Test/ToyasCard.lean, 'card_holds'). Laid BY PROGRAM, IN A SANDBOX (cutbox-door.mjs). By AI agents, Wed Nov 11 2026. No macro, syntax, notation, axiom, sorry.
-/
import Derived.Test.YtcnpediagjjnbaaDoorRows
import GoSem.ClaimSeven
namespace Go.Proofs.YtcnpediagjjnbaaDoor
namespace Rows

/-- THE TIED CARD OF 'flurrylaw10.ChainStays'. -/
def chainStaysCard : Claim7 := { stood := { row := chainStaysRow, standIns := [], harness := (true, "c83371658870c949f76b811468b20a9b244050ba1db075bfa9639a34adfea364"), looks := false }, kinds := [], alts := [], laidByText := true, laidKinds := [.data], laidTests := true, laidLooks := .later }
def ChainStaysCardSaid : Prop := Claim7.holds Tryd.pinned (.plain (OpenSpec.ofChange chainStaysSpec)) chainStaysCard

/-- THE SECOND FORM's CARD OF 'flurrylaw10.ChainStays'. -/
def chainStaysUptoCard : Claim7 := { stood := { row := chainStaysUptoRow, standIns := [], harness := (true, "c83371658870c949f76b811468b20a9b244050ba1db075bfa9639a34adfea364"), looks := false }, kinds := [], alts := [], laidByText := true, laidKinds := [.data], laidTests := true, laidLooks := .later }
def ChainStaysUptoCardSaid : Prop := Claim7.holds Tryd.pinned (.plain (OpenSpec.upto chainStaysSpec)) chainStaysUptoCard
end Rows
end Go.Proofs.YtcnpediagjjnbaaDoor
