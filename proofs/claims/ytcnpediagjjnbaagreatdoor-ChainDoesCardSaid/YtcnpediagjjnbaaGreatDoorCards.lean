/-
  DERIVED. GIVEN WITH THE SEED: THE CARDS: each row of YtcnpediagjjnbaaGreatDoorRows.lean that lists a variable, with what it lists TIED to the program's text (the seventh form; the later family's looks); each row that meets fmt, with fmt's text TOLD by the authors' own Lean function (tested against real Go, not proved from fmt's source: count such statements apart). THE CARD IS WHAT COUNTS. Prove the row's statement (the work); the ties are given (YtcnpediagjjnbaaGreatDoorTie.lean); close each card by the builder's one call (the guide's Derived/Test/ToyasCard.lean, 'card_holds'). Laid BY PROGRAM, IN A SANDBOX (cutbox-door.mjs). By AI agents, Wed Nov 11 2026. No macro, syntax, notation, axiom, sorry.
-/
import Derived.Test.YtcnpediagjjnbaaGreatDoorRows
import GoSem.ClaimSeven
namespace Go.Proofs.YtcnpediagjjnbaaGreatDoor
namespace Rows

/-- THE TIED CARD OF 'flurrylaw10.ChainRow'. -/
def chainRowCard : Claim7 := { stood := { row := chainRowRow, standIns := [], harness := (true, "968bb6806a38c5bec8b2e1b5c5b5ba17cc1d9afb0edfa42e79377c2591f7979e"), looks := false }, kinds := [], alts := [], laidByText := true, laidKinds := [.data], laidTests := true, laidLooks := .later }
def ChainRowCardSaid : Prop := Claim7.holds Tryz.pinned (.plain (OpenSpec.ofChange chainRowSpec)) chainRowCard

/-- THE TIED CARD OF 'flurrylaw10.ChainOpens'. -/
def chainOpensCard : Claim7 := { stood := { row := chainOpensRow, standIns := [], harness := (true, "968bb6806a38c5bec8b2e1b5c5b5ba17cc1d9afb0edfa42e79377c2591f7979e"), looks := false }, kinds := [], alts := [], laidByText := true, laidKinds := [.data], laidTests := true, laidLooks := .later }
def ChainOpensCardSaid : Prop := Claim7.holds Tryz.pinned (.plain (OpenSpec.ofChange chainOpensSpec)) chainOpensCard

/-- THE TIED CARD OF 'flurrylaw10.ChainNone'. -/
def chainNoneCard : Claim7 := { stood := { row := chainNoneRow, standIns := [], harness := (true, "968bb6806a38c5bec8b2e1b5c5b5ba17cc1d9afb0edfa42e79377c2591f7979e"), looks := false }, kinds := [], alts := [], laidByText := true, laidKinds := [.data], laidTests := true, laidLooks := .later }
def ChainNoneCardSaid : Prop := Claim7.holds Tryz.pinned (.plain (OpenSpec.ofChange chainNoneSpec)) chainNoneCard

/-- THE TIED CARD OF 'flurrylaw10.ChainDoes'. -/
def chainDoesCard : Claim7 := { stood := { row := chainDoesRow, standIns := [], harness := (true, "968bb6806a38c5bec8b2e1b5c5b5ba17cc1d9afb0edfa42e79377c2591f7979e"), looks := false }, kinds := [], alts := [], laidByText := true, laidKinds := [.data], laidTests := true, laidLooks := .later }
def ChainDoesCardSaid : Prop := Claim7.holds Tryz.pinned (.plain (OpenSpec.ofChange chainDoesSpec)) chainDoesCard

/-- THE SECOND FORM's CARD OF 'flurrylaw10.ChainRow'. -/
def chainRowUptoCard : Claim7 := { stood := { row := chainRowUptoRow, standIns := [], harness := (true, "968bb6806a38c5bec8b2e1b5c5b5ba17cc1d9afb0edfa42e79377c2591f7979e"), looks := false }, kinds := [], alts := [], laidByText := true, laidKinds := [.data], laidTests := true, laidLooks := .later }
def ChainRowUptoCardSaid : Prop := Claim7.holds Tryz.pinned (.plain (OpenSpec.upto chainRowSpec)) chainRowUptoCard

/-- THE SECOND FORM's CARD OF 'flurrylaw10.ChainOpens'. -/
def chainOpensUptoCard : Claim7 := { stood := { row := chainOpensUptoRow, standIns := [], harness := (true, "968bb6806a38c5bec8b2e1b5c5b5ba17cc1d9afb0edfa42e79377c2591f7979e"), looks := false }, kinds := [], alts := [], laidByText := true, laidKinds := [.data], laidTests := true, laidLooks := .later }
def ChainOpensUptoCardSaid : Prop := Claim7.holds Tryz.pinned (.plain (OpenSpec.upto chainOpensSpec)) chainOpensUptoCard

/-- THE SECOND FORM's CARD OF 'flurrylaw10.ChainNone'. -/
def chainNoneUptoCard : Claim7 := { stood := { row := chainNoneUptoRow, standIns := [], harness := (true, "968bb6806a38c5bec8b2e1b5c5b5ba17cc1d9afb0edfa42e79377c2591f7979e"), looks := false }, kinds := [], alts := [], laidByText := true, laidKinds := [.data], laidTests := true, laidLooks := .later }
def ChainNoneUptoCardSaid : Prop := Claim7.holds Tryz.pinned (.plain (OpenSpec.upto chainNoneSpec)) chainNoneUptoCard

/-- THE SECOND FORM's CARD OF 'flurrylaw10.ChainDoes'. -/
def chainDoesUptoCard : Claim7 := { stood := { row := chainDoesUptoRow, standIns := [], harness := (true, "968bb6806a38c5bec8b2e1b5c5b5ba17cc1d9afb0edfa42e79377c2591f7979e"), looks := false }, kinds := [], alts := [], laidByText := true, laidKinds := [.data], laidTests := true, laidLooks := .later }
def ChainDoesUptoCardSaid : Prop := Claim7.holds Tryz.pinned (.plain (OpenSpec.upto chainDoesSpec)) chainDoesUptoCard
end Rows
end Go.Proofs.YtcnpediagjjnbaaGreatDoor
