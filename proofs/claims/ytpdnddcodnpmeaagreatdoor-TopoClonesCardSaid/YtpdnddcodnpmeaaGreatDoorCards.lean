/-
  DERIVED. GIVEN WITH THE SEED: THE CARDS: each row of YtpdnddcodnpmeaaGreatDoorRows.lean that lists a variable, with what it lists TIED to the program's text (the seventh form; the later family's looks); each row that meets fmt, with fmt's text TOLD by the authors' own Lean function (tested against real Go, not proved from fmt's source: count such statements apart). THE CARD IS WHAT COUNTS. Prove the row's statement (the work); the ties are given (YtpdnddcodnpmeaaGreatDoorTie.lean); close each card by the builder's one call (the guide's Derived/Test/ToyasCard.lean, 'card_holds'). Laid BY PROGRAM, IN A SANDBOX (cutbox-door.mjs). By AI agents, Wed Nov 11 2026. No macro, syntax, notation, axiom, sorry.
-/
import Derived.Test.YtpdnddcodnpmeaaGreatDoorRows
import GoSem.ClaimSeven
namespace Go.Proofs.YtpdnddcodnpmeaaGreatDoor
namespace Rows

/-- THE TIED CARD OF 'flurrylaw19.TopoLine'. -/
def topoLineCard : Claim7 := { stood := { row := topoLineRow, standIns := [], harness := (true, "31b91c773755166b2259662efe0290c201ce4ed0645ef922d45d50ed6dd0d4b1"), looks := false }, kinds := [], alts := [], laidByText := true, laidKinds := [.data], laidTests := true, laidLooks := .later }
def TopoLineCardSaid : Prop := Claim7.holds Tryz.pinned (.plain (OpenSpec.ofChange topoLineSpec)) topoLineCard

/-- THE TIED CARD OF 'flurrylaw19.TopoPrefers'. -/
def topoPrefersCard : Claim7 := { stood := { row := topoPrefersRow, standIns := [], harness := (true, "31b91c773755166b2259662efe0290c201ce4ed0645ef922d45d50ed6dd0d4b1"), looks := false }, kinds := [], alts := [], laidByText := true, laidKinds := [.data], laidTests := true, laidLooks := .later }
def TopoPrefersCardSaid : Prop := Claim7.holds Tryz.pinned (.plain (OpenSpec.ofChange topoPrefersSpec)) topoPrefersCard

/-- THE TIED CARD OF 'flurrylaw19.TopoStays'. -/
def topoStaysCard : Claim7 := { stood := { row := topoStaysRow, standIns := [], harness := (true, "31b91c773755166b2259662efe0290c201ce4ed0645ef922d45d50ed6dd0d4b1"), looks := false }, kinds := [], alts := [], laidByText := true, laidKinds := [.data], laidTests := true, laidLooks := .later }
def TopoStaysCardSaid : Prop := Claim7.holds Tryz.pinned (.plain (OpenSpec.ofChange topoStaysSpec)) topoStaysCard

/-- THE TIED CARD OF 'flurrylaw19.TopoDoes'. -/
def topoDoesCard : Claim7 := { stood := { row := topoDoesRow, standIns := [], harness := (true, "31b91c773755166b2259662efe0290c201ce4ed0645ef922d45d50ed6dd0d4b1"), looks := false }, kinds := [], alts := [], laidByText := true, laidKinds := [.data], laidTests := true, laidLooks := .later }
def TopoDoesCardSaid : Prop := Claim7.holds Tryz.pinned (.plain (OpenSpec.ofChange topoDoesSpec)) topoDoesCard

/-- THE TIED CARD OF 'flurrylaw19.TopoClones'. -/
def topoClonesCard : Claim7 := { stood := { row := topoClonesRow, standIns := [], harness := (true, "31b91c773755166b2259662efe0290c201ce4ed0645ef922d45d50ed6dd0d4b1"), looks := false }, kinds := [], alts := [], laidByText := true, laidKinds := [.data], laidTests := true, laidLooks := .later }
def TopoClonesCardSaid : Prop := Claim7.holds Tryz.pinned (.plain (OpenSpec.ofChange topoClonesSpec)) topoClonesCard

/-- THE SECOND FORM's CARD OF 'flurrylaw19.TopoLine'. -/
def topoLineUptoCard : Claim7 := { stood := { row := topoLineUptoRow, standIns := [], harness := (true, "31b91c773755166b2259662efe0290c201ce4ed0645ef922d45d50ed6dd0d4b1"), looks := false }, kinds := [], alts := [], laidByText := true, laidKinds := [.data], laidTests := true, laidLooks := .later }
def TopoLineUptoCardSaid : Prop := Claim7.holds Tryz.pinned (.plain (OpenSpec.upto topoLineSpec)) topoLineUptoCard

/-- THE SECOND FORM's CARD OF 'flurrylaw19.TopoPrefers'. -/
def topoPrefersUptoCard : Claim7 := { stood := { row := topoPrefersUptoRow, standIns := [], harness := (true, "31b91c773755166b2259662efe0290c201ce4ed0645ef922d45d50ed6dd0d4b1"), looks := false }, kinds := [], alts := [], laidByText := true, laidKinds := [.data], laidTests := true, laidLooks := .later }
def TopoPrefersUptoCardSaid : Prop := Claim7.holds Tryz.pinned (.plain (OpenSpec.upto topoPrefersSpec)) topoPrefersUptoCard

/-- THE SECOND FORM's CARD OF 'flurrylaw19.TopoStays'. -/
def topoStaysUptoCard : Claim7 := { stood := { row := topoStaysUptoRow, standIns := [], harness := (true, "31b91c773755166b2259662efe0290c201ce4ed0645ef922d45d50ed6dd0d4b1"), looks := false }, kinds := [], alts := [], laidByText := true, laidKinds := [.data], laidTests := true, laidLooks := .later }
def TopoStaysUptoCardSaid : Prop := Claim7.holds Tryz.pinned (.plain (OpenSpec.upto topoStaysSpec)) topoStaysUptoCard

/-- THE SECOND FORM's CARD OF 'flurrylaw19.TopoDoes'. -/
def topoDoesUptoCard : Claim7 := { stood := { row := topoDoesUptoRow, standIns := [], harness := (true, "31b91c773755166b2259662efe0290c201ce4ed0645ef922d45d50ed6dd0d4b1"), looks := false }, kinds := [], alts := [], laidByText := true, laidKinds := [.data], laidTests := true, laidLooks := .later }
def TopoDoesUptoCardSaid : Prop := Claim7.holds Tryz.pinned (.plain (OpenSpec.upto topoDoesSpec)) topoDoesUptoCard

/-- THE SECOND FORM's CARD OF 'flurrylaw19.TopoClones'. -/
def topoClonesUptoCard : Claim7 := { stood := { row := topoClonesUptoRow, standIns := [], harness := (true, "31b91c773755166b2259662efe0290c201ce4ed0645ef922d45d50ed6dd0d4b1"), looks := false }, kinds := [], alts := [], laidByText := true, laidKinds := [.data], laidTests := true, laidLooks := .later }
def TopoClonesUptoCardSaid : Prop := Claim7.holds Tryz.pinned (.plain (OpenSpec.upto topoClonesSpec)) topoClonesUptoCard
end Rows
end Go.Proofs.YtpdnddcodnpmeaaGreatDoor
