/-
  DERIVED. GIVEN WITH THE SEED: THE CARDS: each row of YtcanhbfdnhlhgaaDoorRows.lean that lists a variable, with what it lists TIED to the program's text (the seventh form; the later family's looks); each row that meets fmt, with fmt's text TOLD by the authors' own Lean function (tested against real Go, not proved from fmt's source: count such statements apart). THE CARD IS WHAT COUNTS. Prove the row's statement (the work); the ties are given (YtcanhbfdnhlhgaaDoorTie.lean); close each card by the builder's one call (the guide's Derived/Test/ToyasCard.lean, 'card_holds'). Laid BY PROGRAM, IN A SANDBOX (cutbox-door.mjs). By AI agents, Wed Nov 11 2026. No macro, syntax, notation, axiom, sorry.
-/
import Derived.Test.YtcanhbfdnhlhgaaDoorRows
import GoSem.ClaimSeven
namespace Go.Proofs.YtcanhbfdnhlhgaaDoor
namespace Rows

/-- THE TIED CARD OF 'flurrylaw03.BlockLinks'. -/
def blockLinksCard : Claim7 := { stood := { row := blockLinksRow, standIns := [], harness := (true, "81aa8b9a6168aaa3add326be640dc2d700848dde4aaa21f94585b0235994a7ab"), looks := false }, kinds := [], alts := [], laidByText := true, laidKinds := [.data], laidTests := true, laidLooks := .later }
def BlockLinksCardSaid : Prop := Claim7.holds Tryd.pinned (.plain (OpenSpec.ofChange blockLinksSpec)) blockLinksCard

/-- THE TIED CARD OF 'flurrylaw03.BlockIs'. -/
def blockIsCard : Claim7 := { stood := { row := blockIsRow, standIns := [], harness := (true, "81aa8b9a6168aaa3add326be640dc2d700848dde4aaa21f94585b0235994a7ab"), looks := false }, kinds := [], alts := [], laidByText := true, laidKinds := [.data], laidTests := true, laidLooks := .later }
def BlockIsCardSaid : Prop := Claim7.holds Tryd.pinned (.plain (OpenSpec.ofChange blockIsSpec)) blockIsCard

/-- THE TIED CARD OF 'flurrylaw03.BlockChain'. -/
def blockChainCard : Claim7 := { stood := { row := blockChainRow, standIns := [], harness := (true, "81aa8b9a6168aaa3add326be640dc2d700848dde4aaa21f94585b0235994a7ab"), looks := false }, kinds := [], alts := [], laidByText := true, laidKinds := [.data], laidTests := true, laidLooks := .later }
def BlockChainCardSaid : Prop := Claim7.holds Tryd.pinned (.plain (OpenSpec.ofChange blockChainSpec)) blockChainCard

/-- THE TIED CARD OF 'flurrylaw03.BlockReads'. -/
def blockReadsCard : Claim7 := { stood := { row := blockReadsRow, standIns := [], harness := (true, "81aa8b9a6168aaa3add326be640dc2d700848dde4aaa21f94585b0235994a7ab"), looks := false }, kinds := [], alts := [], laidByText := true, laidKinds := [.data], laidTests := true, laidLooks := .later }
def BlockReadsCardSaid : Prop := Claim7.holds Tryd.pinned (.plain (OpenSpec.ofChange blockReadsSpec)) blockReadsCard

/-- THE TIED CARD OF 'flurrylaw03.BlockBack'. -/
def blockBackCard : Claim7 := { stood := { row := blockBackRow, standIns := [], harness := (true, "81aa8b9a6168aaa3add326be640dc2d700848dde4aaa21f94585b0235994a7ab"), looks := false }, kinds := [], alts := [], laidByText := true, laidKinds := [.data], laidTests := true, laidLooks := .later }
def BlockBackCardSaid : Prop := Claim7.holds Tryd.pinned (.plain (OpenSpec.ofChange blockBackSpec)) blockBackCard

/-- THE SECOND FORM's CARD OF 'flurrylaw03.BlockLinks'. -/
def blockLinksUptoCard : Claim7 := { stood := { row := blockLinksUptoRow, standIns := [], harness := (true, "81aa8b9a6168aaa3add326be640dc2d700848dde4aaa21f94585b0235994a7ab"), looks := false }, kinds := [], alts := [], laidByText := true, laidKinds := [.data], laidTests := true, laidLooks := .later }
def BlockLinksUptoCardSaid : Prop := Claim7.holds Tryd.pinned (.plain (OpenSpec.upto blockLinksSpec)) blockLinksUptoCard

/-- THE SECOND FORM's CARD OF 'flurrylaw03.BlockIs'. -/
def blockIsUptoCard : Claim7 := { stood := { row := blockIsUptoRow, standIns := [], harness := (true, "81aa8b9a6168aaa3add326be640dc2d700848dde4aaa21f94585b0235994a7ab"), looks := false }, kinds := [], alts := [], laidByText := true, laidKinds := [.data], laidTests := true, laidLooks := .later }
def BlockIsUptoCardSaid : Prop := Claim7.holds Tryd.pinned (.plain (OpenSpec.upto blockIsSpec)) blockIsUptoCard

/-- THE SECOND FORM's CARD OF 'flurrylaw03.BlockChain'. -/
def blockChainUptoCard : Claim7 := { stood := { row := blockChainUptoRow, standIns := [], harness := (true, "81aa8b9a6168aaa3add326be640dc2d700848dde4aaa21f94585b0235994a7ab"), looks := false }, kinds := [], alts := [], laidByText := true, laidKinds := [.data], laidTests := true, laidLooks := .later }
def BlockChainUptoCardSaid : Prop := Claim7.holds Tryd.pinned (.plain (OpenSpec.upto blockChainSpec)) blockChainUptoCard

/-- THE SECOND FORM's CARD OF 'flurrylaw03.BlockReads'. -/
def blockReadsUptoCard : Claim7 := { stood := { row := blockReadsUptoRow, standIns := [], harness := (true, "81aa8b9a6168aaa3add326be640dc2d700848dde4aaa21f94585b0235994a7ab"), looks := false }, kinds := [], alts := [], laidByText := true, laidKinds := [.data], laidTests := true, laidLooks := .later }
def BlockReadsUptoCardSaid : Prop := Claim7.holds Tryd.pinned (.plain (OpenSpec.upto blockReadsSpec)) blockReadsUptoCard

/-- THE SECOND FORM's CARD OF 'flurrylaw03.BlockBack'. -/
def blockBackUptoCard : Claim7 := { stood := { row := blockBackUptoRow, standIns := [], harness := (true, "81aa8b9a6168aaa3add326be640dc2d700848dde4aaa21f94585b0235994a7ab"), looks := false }, kinds := [], alts := [], laidByText := true, laidKinds := [.data], laidTests := true, laidLooks := .later }
def BlockBackUptoCardSaid : Prop := Claim7.holds Tryd.pinned (.plain (OpenSpec.upto blockBackSpec)) blockBackUptoCard
end Rows
end Go.Proofs.YtcanhbfdnhlhgaaDoor
