/-
  DERIVED. GIVEN WITH THE SEED: THE CARDS: each row of YticmbeincpaaeaaDoorRows.lean that lists a variable, with what it lists TIED to the program's text (the seventh form; the later family's looks); each row that meets fmt, with fmt's text TOLD by the authors' own Lean function (tested against real Go, not proved from fmt's source: count such statements apart). THE CARD IS WHAT COUNTS. Prove the row's statement (the work); the ties are given (YticmbeincpaaeaaDoorTie.lean); close each card by the builder's one call (the guide's Derived/Test/ToyasCard.lean, 'card_holds'). Laid BY PROGRAM, IN A SANDBOX (cutbox-door.mjs). By AI agents, Wed Nov 11 2026. No macro, syntax, notation, axiom, sorry.
-/
import Derived.Test.YticmbeincpaaeaaDoorRows
import GoSem.ClaimSeven
namespace Go.Proofs.YticmbeincpaaeaaDoor
namespace Rows

/-- THE TIED CARD OF 'flurrylaw09.RecTakes'. -/
def recTakesCard : Claim7 := { stood := { row := recTakesRow, standIns := [], harness := (true, "bb9c1364597871603d95cfddfe7b315348b26bfb2b78f6173ee216c080d1f38e"), looks := false }, kinds := [], alts := [], laidByText := true, laidKinds := [.data], laidTests := true, laidLooks := .later }
def RecTakesCardSaid : Prop := Claim7.holds Tryd.pinned (.plain (OpenSpec.ofChange recTakesSpec)) recTakesCard

/-- THE TIED CARD OF 'flurrylaw09.RecBack'. -/
def recBackCard : Claim7 := { stood := { row := recBackRow, standIns := [], harness := (true, "bb9c1364597871603d95cfddfe7b315348b26bfb2b78f6173ee216c080d1f38e"), looks := false }, kinds := [], alts := [], laidByText := true, laidKinds := [.data], laidTests := true, laidLooks := .later }
def RecBackCardSaid : Prop := Claim7.holds Tryd.pinned (.plain (OpenSpec.ofChange recBackSpec)) recBackCard

/-- THE TIED CARD OF 'flurrylaw09.RecLays'. -/
def recLaysCard : Claim7 := { stood := { row := recLaysRow, standIns := [], harness := (true, "bb9c1364597871603d95cfddfe7b315348b26bfb2b78f6173ee216c080d1f38e"), looks := false }, kinds := [], alts := [], laidByText := true, laidKinds := [.data], laidTests := true, laidLooks := .later }
def RecLaysCardSaid : Prop := Claim7.holds Tryd.pinned (.plain (OpenSpec.ofChange recLaysSpec)) recLaysCard

/-- THE TIED CARD OF 'flurrylaw09.RecOn'. -/
def recOnCard : Claim7 := { stood := { row := recOnRow, standIns := [], harness := (true, "bb9c1364597871603d95cfddfe7b315348b26bfb2b78f6173ee216c080d1f38e"), looks := false }, kinds := [], alts := [], laidByText := true, laidKinds := [.data], laidTests := true, laidLooks := .later }
def RecOnCardSaid : Prop := Claim7.holds Tryd.pinned (.plain (OpenSpec.ofChange recOnSpec)) recOnCard

/-- THE TIED CARD OF 'flurrylaw09.RecCut'. -/
def recCutCard : Claim7 := { stood := { row := recCutRow, standIns := [], harness := (true, "bb9c1364597871603d95cfddfe7b315348b26bfb2b78f6173ee216c080d1f38e"), looks := false }, kinds := [], alts := [], laidByText := true, laidKinds := [.data], laidTests := true, laidLooks := .later }
def RecCutCardSaid : Prop := Claim7.holds Tryd.pinned (.plain (OpenSpec.ofChange recCutSpec)) recCutCard

/-- THE TIED CARD OF 'flurrylaw09.RecScans'. -/
def recScansCard : Claim7 := { stood := { row := recScansRow, standIns := [], harness := (true, "bb9c1364597871603d95cfddfe7b315348b26bfb2b78f6173ee216c080d1f38e"), looks := false }, kinds := [], alts := [], laidByText := true, laidKinds := [.data], laidTests := true, laidLooks := .later }
def RecScansCardSaid : Prop := Claim7.holds Tryd.pinned (.plain (OpenSpec.ofChange recScansSpec)) recScansCard

/-- THE SECOND FORM's CARD OF 'flurrylaw09.RecTakes'. -/
def recTakesUptoCard : Claim7 := { stood := { row := recTakesUptoRow, standIns := [], harness := (true, "bb9c1364597871603d95cfddfe7b315348b26bfb2b78f6173ee216c080d1f38e"), looks := false }, kinds := [], alts := [], laidByText := true, laidKinds := [.data], laidTests := true, laidLooks := .later }
def RecTakesUptoCardSaid : Prop := Claim7.holds Tryd.pinned (.plain (OpenSpec.upto recTakesSpec)) recTakesUptoCard

/-- THE SECOND FORM's CARD OF 'flurrylaw09.RecBack'. -/
def recBackUptoCard : Claim7 := { stood := { row := recBackUptoRow, standIns := [], harness := (true, "bb9c1364597871603d95cfddfe7b315348b26bfb2b78f6173ee216c080d1f38e"), looks := false }, kinds := [], alts := [], laidByText := true, laidKinds := [.data], laidTests := true, laidLooks := .later }
def RecBackUptoCardSaid : Prop := Claim7.holds Tryd.pinned (.plain (OpenSpec.upto recBackSpec)) recBackUptoCard

/-- THE SECOND FORM's CARD OF 'flurrylaw09.RecLays'. -/
def recLaysUptoCard : Claim7 := { stood := { row := recLaysUptoRow, standIns := [], harness := (true, "bb9c1364597871603d95cfddfe7b315348b26bfb2b78f6173ee216c080d1f38e"), looks := false }, kinds := [], alts := [], laidByText := true, laidKinds := [.data], laidTests := true, laidLooks := .later }
def RecLaysUptoCardSaid : Prop := Claim7.holds Tryd.pinned (.plain (OpenSpec.upto recLaysSpec)) recLaysUptoCard

/-- THE SECOND FORM's CARD OF 'flurrylaw09.RecOn'. -/
def recOnUptoCard : Claim7 := { stood := { row := recOnUptoRow, standIns := [], harness := (true, "bb9c1364597871603d95cfddfe7b315348b26bfb2b78f6173ee216c080d1f38e"), looks := false }, kinds := [], alts := [], laidByText := true, laidKinds := [.data], laidTests := true, laidLooks := .later }
def RecOnUptoCardSaid : Prop := Claim7.holds Tryd.pinned (.plain (OpenSpec.upto recOnSpec)) recOnUptoCard

/-- THE SECOND FORM's CARD OF 'flurrylaw09.RecCut'. -/
def recCutUptoCard : Claim7 := { stood := { row := recCutUptoRow, standIns := [], harness := (true, "bb9c1364597871603d95cfddfe7b315348b26bfb2b78f6173ee216c080d1f38e"), looks := false }, kinds := [], alts := [], laidByText := true, laidKinds := [.data], laidTests := true, laidLooks := .later }
def RecCutUptoCardSaid : Prop := Claim7.holds Tryd.pinned (.plain (OpenSpec.upto recCutSpec)) recCutUptoCard

/-- THE SECOND FORM's CARD OF 'flurrylaw09.RecScans'. -/
def recScansUptoCard : Claim7 := { stood := { row := recScansUptoRow, standIns := [], harness := (true, "bb9c1364597871603d95cfddfe7b315348b26bfb2b78f6173ee216c080d1f38e"), looks := false }, kinds := [], alts := [], laidByText := true, laidKinds := [.data], laidTests := true, laidLooks := .later }
def RecScansUptoCardSaid : Prop := Claim7.holds Tryd.pinned (.plain (OpenSpec.upto recScansSpec)) recScansUptoCard
end Rows
end Go.Proofs.YticmbeincpaaeaaDoor
