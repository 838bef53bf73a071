/-
  DERIVED. GIVEN WITH THE SEED: THE CARDS: each row of YtichejdalolfgaaDoorRows.lean that lists a variable, with what it lists TIED to the program's text (the seventh form; the later family's looks); each row that meets fmt, with fmt's text TOLD by the authors' own Lean function (tested against real Go, not proved from fmt's source: count such statements apart). THE CARD IS WHAT COUNTS. Prove the row's statement (the work); the ties are given (YtichejdalolfgaaDoorTie.lean); close each card by the builder's one call (the guide's Derived/Test/ToyasCard.lean, 'card_holds'). Laid BY PROGRAM, IN A SANDBOX (cutbox-door.mjs). By AI agents, Wed Nov 11 2026. No macro, syntax, notation, axiom, sorry.
-/
import Derived.Test.YtichejdalolfgaaDoorRows
import GoSem.ClaimSeven
namespace Go.Proofs.YtichejdalolfgaaDoor
namespace Rows

/-- THE TIED CARD OF 'flurrylaw23.HoldEmpties'. -/
def holdEmptiesCard : Claim7 := { stood := { row := holdEmptiesRow, standIns := [], harness := (true, "bb238fd5b4f7cb1e6b6dd57b0eb082b2e1123fe4deb289f25cd84a372771b954"), looks := false }, kinds := [], alts := [], laidByText := true, laidKinds := [.data], laidTests := true, laidLooks := .later }
def HoldEmptiesCardSaid : Prop := Claim7.holds Tryd.pinned (.plain (OpenSpec.ofChange holdEmptiesSpec)) holdEmptiesCard

/-- THE TIED CARD OF 'flurrylaw23.HoldOnce'. -/
def holdOnceCard : Claim7 := { stood := { row := holdOnceRow, standIns := [], harness := (true, "bb238fd5b4f7cb1e6b6dd57b0eb082b2e1123fe4deb289f25cd84a372771b954"), looks := false }, kinds := [], alts := [], laidByText := true, laidKinds := [.data], laidTests := true, laidLooks := .later }
def HoldOnceCardSaid : Prop := Claim7.holds Tryd.pinned (.plain (OpenSpec.ofChange holdOnceSpec)) holdOnceCard

/-- THE TIED CARD OF 'flurrylaw23.HoldNone'. -/
def holdNoneCard : Claim7 := { stood := { row := holdNoneRow, standIns := [], harness := (true, "bb238fd5b4f7cb1e6b6dd57b0eb082b2e1123fe4deb289f25cd84a372771b954"), looks := false }, kinds := [], alts := [], laidByText := true, laidKinds := [.data], laidTests := true, laidLooks := .later }
def HoldNoneCardSaid : Prop := Claim7.holds Tryd.pinned (.plain (OpenSpec.ofChange holdNoneSpec)) holdNoneCard

/-- THE SECOND FORM's CARD OF 'flurrylaw23.HoldEmpties'. -/
def holdEmptiesUptoCard : Claim7 := { stood := { row := holdEmptiesUptoRow, standIns := [], harness := (true, "bb238fd5b4f7cb1e6b6dd57b0eb082b2e1123fe4deb289f25cd84a372771b954"), looks := false }, kinds := [], alts := [], laidByText := true, laidKinds := [.data], laidTests := true, laidLooks := .later }
def HoldEmptiesUptoCardSaid : Prop := Claim7.holds Tryd.pinned (.plain (OpenSpec.upto holdEmptiesSpec)) holdEmptiesUptoCard

/-- THE SECOND FORM's CARD OF 'flurrylaw23.HoldOnce'. -/
def holdOnceUptoCard : Claim7 := { stood := { row := holdOnceUptoRow, standIns := [], harness := (true, "bb238fd5b4f7cb1e6b6dd57b0eb082b2e1123fe4deb289f25cd84a372771b954"), looks := false }, kinds := [], alts := [], laidByText := true, laidKinds := [.data], laidTests := true, laidLooks := .later }
def HoldOnceUptoCardSaid : Prop := Claim7.holds Tryd.pinned (.plain (OpenSpec.upto holdOnceSpec)) holdOnceUptoCard

/-- THE SECOND FORM's CARD OF 'flurrylaw23.HoldNone'. -/
def holdNoneUptoCard : Claim7 := { stood := { row := holdNoneUptoRow, standIns := [], harness := (true, "bb238fd5b4f7cb1e6b6dd57b0eb082b2e1123fe4deb289f25cd84a372771b954"), looks := false }, kinds := [], alts := [], laidByText := true, laidKinds := [.data], laidTests := true, laidLooks := .later }
def HoldNoneUptoCardSaid : Prop := Claim7.holds Tryd.pinned (.plain (OpenSpec.upto holdNoneSpec)) holdNoneUptoCard
end Rows
end Go.Proofs.YtichejdalolfgaaDoor
