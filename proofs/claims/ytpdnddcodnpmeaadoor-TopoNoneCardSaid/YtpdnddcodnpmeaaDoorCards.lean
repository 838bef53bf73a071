/-
  DERIVED. GIVEN WITH THE SEED: THE CARDS: each row of YtpdnddcodnpmeaaDoorRows.lean that lists a variable, with what it lists TIED to the program's text (the seventh form; the later family's looks); each row that meets fmt, with fmt's text TOLD by the authors' own Lean function (tested against real Go, not proved from fmt's source: count such statements apart). THE CARD IS WHAT COUNTS. Prove the row's statement (the work); the ties are given (YtpdnddcodnpmeaaDoorTie.lean); close each card by the builder's one call (the guide's Derived/Test/ToyasCard.lean, 'card_holds'). Laid BY PROGRAM, IN A SANDBOX (cutbox-door.mjs). By AI agents, Wed Nov 11 2026. No macro, syntax, notation, axiom, sorry.
-/
import Derived.Test.YtpdnddcodnpmeaaDoorRows
import GoSem.ClaimSeven
namespace Go.Proofs.YtpdnddcodnpmeaaDoor
namespace Rows

/-- THE TIED CARD OF 'flurrylaw19.TopoNone'. -/
def topoNoneCard : Claim7 := { stood := { row := topoNoneRow, standIns := [], harness := (true, "814c5f4dcc407683a071175d808d78fad4e94b36b7a2baeafc9e7f9837170b40"), looks := false }, kinds := [], alts := [], laidByText := true, laidKinds := [.data], laidTests := true, laidLooks := .later }
def TopoNoneCardSaid : Prop := Claim7.holds Tryd.pinned (.plain (OpenSpec.ofChange topoNoneSpec)) topoNoneCard

/-- THE SECOND FORM's CARD OF 'flurrylaw19.TopoNone'. -/
def topoNoneUptoCard : Claim7 := { stood := { row := topoNoneUptoRow, standIns := [], harness := (true, "814c5f4dcc407683a071175d808d78fad4e94b36b7a2baeafc9e7f9837170b40"), looks := false }, kinds := [], alts := [], laidByText := true, laidKinds := [.data], laidTests := true, laidLooks := .later }
def TopoNoneUptoCardSaid : Prop := Claim7.holds Tryd.pinned (.plain (OpenSpec.upto topoNoneSpec)) topoNoneUptoCard
end Rows
end Go.Proofs.YtpdnddcodnpmeaaDoor
