/-
  No cell of these rows narrows 'for every input' (looked for: loops, veiled, ifaces, maps, wideKeys, modest, calm, conditions, laid).
  DERIVED. THE GIVEN ROWS OF THIS SEAT. 7 by the template 'for every input the law returns true; each argument reads behind the call as it read before'; 0 by the template 'total and deterministic' (their statements: YtgiklllplfcikaaTotals.lean).
  GIVEN WITH THE SEED: the statements are not yours to turn. If you find one false, say at which input.
  Laid BY PROGRAM, IN A SANDBOX (cutbox-rows.mjs): the forced cells as the released guide's own fill.sh prints them over the translation 7fb790ac471ef6d5… (all of the seat's roots in one cut). By AI agents, Wed Nov 11 2026. No macro, syntax, notation, axiom, sorry.
-/
import Derived.Test.YtgiklllplfcikaaChecked
import GoSem.Claim
import GoSem.ClaimJoined
import GoSem.ClaimMapViews
import Derived.JoinedTies
import Derived.KernelRfl
namespace Go.Proofs.Ytgiklllplfcikaa
/- THE CELL 'sum', in the pinned program and in every row, IS THE sha256 OF THE DUMP (.gsa) THAT YtgiklllplfcikaaProg.lean LOADS. Nothing in Lean hashes anything: it is a label: what it is worth is what the hold of that sum in a sandbox is worth. -/
noncomputable def Try.pinned : Pinned := { name := "ytgiklllplfcikaa", sum := "7fb790ac471ef6d521e0f3ebd93d7a14fd694d941d00734bb5d3dc1c85660ae3", checked := Try.checked }
namespace Rows
def none {H : Type} : Left H := { results := [], args := [] }

/-- 'flurrylaw17.SnowRuns': WHATEVER THE INPUT: true; the input reads as it did. -/
def snowRunsSpec : ChangeSpec := { name := "snowRuns", fn := fun _ => fun
  | [d1, d2, d3] => { results := [.lit (.bool true)], args := [d1, d2, d3] }
  | _ => none }
def snowRunsRow : OpenClaim := { program := "ytgiklllplfcikaa", sum := "7fb790ac471ef6d521e0f3ebd93d7a14fd694d941d00734bb5d3dc1c85660ae3", func := "flurry/flurrylaw17.SnowRuns", spec := "snowRuns", unfollowed := true, recurses := true, apart := false }
def SnowRunsSaid : Prop := snowRunsRow.holds Try.pinned (OpenSpec.ofChange snowRunsSpec)

/-- ITS FALSE NEIGHBOUR: 'it returns false'. Refute it at one input. -/
def snowRunsWrong : ChangeSpec := { name := "snowRuns", fn := fun _ => fun
  | [d1, d2, d3] => { results := [.lit (.bool false)], args := [d1, d2, d3] }
  | _ => none }
def SnowRunsWrongFalsely : Prop := snowRunsRow.holds Try.pinned (OpenSpec.ofChange snowRunsWrong)

/-- 'flurrylaw17.SnowOnly': WHATEVER THE INPUT: true; the input reads as it did. -/
def snowOnlySpec : ChangeSpec := { name := "snowOnly", fn := fun _ => fun
  | [d1, d2] => { results := [.lit (.bool true)], args := [d1, d2] }
  | _ => none }
def snowOnlyRow : OpenClaim := { program := "ytgiklllplfcikaa", sum := "7fb790ac471ef6d521e0f3ebd93d7a14fd694d941d00734bb5d3dc1c85660ae3", func := "flurry/flurrylaw17.SnowOnly", spec := "snowOnly", unfollowed := true, recurses := true, apart := false }
def SnowOnlySaid : Prop := snowOnlyRow.holds Try.pinned (OpenSpec.ofChange snowOnlySpec)

/-- ITS FALSE NEIGHBOUR: 'it returns false'. Refute it at one input. -/
def snowOnlyWrong : ChangeSpec := { name := "snowOnly", fn := fun _ => fun
  | [d1, d2] => { results := [.lit (.bool false)], args := [d1, d2] }
  | _ => none }
def SnowOnlyWrongFalsely : Prop := snowOnlyRow.holds Try.pinned (OpenSpec.ofChange snowOnlyWrong)

/-- 'flurrylaw17.SnowGoes': WHATEVER THE INPUT: true; the input reads as it did. -/
def snowGoesSpec : ChangeSpec := { name := "snowGoes", fn := fun _ => fun
  | [d1, d2, d3, d4] => { results := [.lit (.bool true)], args := [d1, d2, d3, d4] }
  | _ => none }
def snowGoesRow : OpenClaim := { program := "ytgiklllplfcikaa", sum := "7fb790ac471ef6d521e0f3ebd93d7a14fd694d941d00734bb5d3dc1c85660ae3", func := "flurry/flurrylaw17.SnowGoes", spec := "snowGoes", unfollowed := true, recurses := true, apart := false }
def SnowGoesSaid : Prop := snowGoesRow.holds Try.pinned (OpenSpec.ofChange snowGoesSpec)

/-- ITS FALSE NEIGHBOUR: 'it returns false'. Refute it at one input. -/
def snowGoesWrong : ChangeSpec := { name := "snowGoes", fn := fun _ => fun
  | [d1, d2, d3, d4] => { results := [.lit (.bool false)], args := [d1, d2, d3, d4] }
  | _ => none }
def SnowGoesWrongFalsely : Prop := snowGoesRow.holds Try.pinned (OpenSpec.ofChange snowGoesWrong)

/-- 'flurrylaw17.SnowMay': WHATEVER THE INPUT: true; the input reads as it did. -/
def snowMaySpec : ChangeSpec := { name := "snowMay", fn := fun _ => fun
  | [d1, d2, d3] => { results := [.lit (.bool true)], args := [d1, d2, d3] }
  | _ => none }
def snowMayRow : OpenClaim := { program := "ytgiklllplfcikaa", sum := "7fb790ac471ef6d521e0f3ebd93d7a14fd694d941d00734bb5d3dc1c85660ae3", func := "flurry/flurrylaw17.SnowMay", spec := "snowMay", unfollowed := true, recurses := true, apart := false }
def SnowMaySaid : Prop := snowMayRow.holds Try.pinned (OpenSpec.ofChange snowMaySpec)

/-- ITS FALSE NEIGHBOUR: 'it returns false'. Refute it at one input. -/
def snowMayWrong : ChangeSpec := { name := "snowMay", fn := fun _ => fun
  | [d1, d2, d3] => { results := [.lit (.bool false)], args := [d1, d2, d3] }
  | _ => none }
def SnowMayWrongFalsely : Prop := snowMayRow.holds Try.pinned (OpenSpec.ofChange snowMayWrong)

/-- 'flurrylaw17.SnowRow': WHATEVER THE INPUT: true; the input reads as it did. -/
def snowRowSpec : ChangeSpec := { name := "snowRow", fn := fun _ => fun
  | [d1, d2, d3] => { results := [.lit (.bool true)], args := [d1, d2, d3] }
  | _ => none }
def snowRowRow : OpenClaim := { program := "ytgiklllplfcikaa", sum := "7fb790ac471ef6d521e0f3ebd93d7a14fd694d941d00734bb5d3dc1c85660ae3", func := "flurry/flurrylaw17.SnowRow", spec := "snowRow", unfollowed := true, recurses := true, apart := false }
def SnowRowSaid : Prop := snowRowRow.holds Try.pinned (OpenSpec.ofChange snowRowSpec)

/-- ITS FALSE NEIGHBOUR: 'it returns false'. Refute it at one input. -/
def snowRowWrong : ChangeSpec := { name := "snowRow", fn := fun _ => fun
  | [d1, d2, d3] => { results := [.lit (.bool false)], args := [d1, d2, d3] }
  | _ => none }
def SnowRowWrongFalsely : Prop := snowRowRow.holds Try.pinned (OpenSpec.ofChange snowRowWrong)

/-- 'flurrylaw17.SnowIs': WHATEVER THE INPUT: true; the input reads as it did. -/
def snowIsSpec : ChangeSpec := { name := "snowIs", fn := fun _ => fun
  | [d1, d2, d3, d4] => { results := [.lit (.bool true)], args := [d1, d2, d3, d4] }
  | _ => none }
def snowIsRow : OpenClaim := { program := "ytgiklllplfcikaa", sum := "7fb790ac471ef6d521e0f3ebd93d7a14fd694d941d00734bb5d3dc1c85660ae3", func := "flurry/flurrylaw17.SnowIs", spec := "snowIs", unfollowed := true, recurses := true, apart := false }
def SnowIsSaid : Prop := snowIsRow.holds Try.pinned (OpenSpec.ofChange snowIsSpec)

/-- ITS FALSE NEIGHBOUR: 'it returns false'. Refute it at one input. -/
def snowIsWrong : ChangeSpec := { name := "snowIs", fn := fun _ => fun
  | [d1, d2, d3, d4] => { results := [.lit (.bool false)], args := [d1, d2, d3, d4] }
  | _ => none }
def SnowIsWrongFalsely : Prop := snowIsRow.holds Try.pinned (OpenSpec.ofChange snowIsWrong)

/-- 'flurrylaw17.SnowStays': WHATEVER THE INPUT: true; the input reads as it did. -/
def snowStaysSpec : ChangeSpec := { name := "snowStays", fn := fun _ => fun
  | [d1, d2, d3] => { results := [.lit (.bool true)], args := [d1, d2, d3] }
  | _ => none }
def snowStaysRow : OpenClaim := { program := "ytgiklllplfcikaa", sum := "7fb790ac471ef6d521e0f3ebd93d7a14fd694d941d00734bb5d3dc1c85660ae3", func := "flurry/flurrylaw17.SnowStays", spec := "snowStays", unfollowed := true, recurses := true, apart := false }
def SnowStaysSaid : Prop := snowStaysRow.holds Try.pinned (OpenSpec.ofChange snowStaysSpec)

/-- ITS FALSE NEIGHBOUR: 'it returns false'. Refute it at one input. -/
def snowStaysWrong : ChangeSpec := { name := "snowStays", fn := fun _ => fun
  | [d1, d2, d3] => { results := [.lit (.bool false)], args := [d1, d2, d3] }
  | _ => none }
def SnowStaysWrongFalsely : Prop := snowStaysRow.holds Try.pinned (OpenSpec.ofChange snowStaysWrong)

/- THE SECOND FORM. 'bulk': how many values and letters a reading holds, each counted each time it is reached (what is shared counts as often as it is met; a slice's spare places count too). A statement '..UptoSaid' is the law's where the arguments, and the package variables that the reading takes, are together of bulk at most 1048576: NARROWER than '..Said'. Prove '..Said' where nothing that the law and all that it calls make is longer than what came in: it says more and counts as full. Else prove '..UptoSaid'. A law counts once. -/
mutual
def uptoBulk {H : Type} : DataW H → Nat
  | .lit (.string bytes) => bytes.length + 1
  | .lit _ => 1
  | .nil => 1
  | .ptr d => uptoBulk d + 1
  | .slice elems spare => uptoBulkAll elems + uptoBulkAll spare + 1
  | .agg parts => uptoBulkAll parts + 1
  | .iface _ d => uptoBulk d + 1
  | .map entries => uptoBulkEntries entries + 1
  | .held _ => 1
def uptoBulkAll {H : Type} : List (DataW H) → Nat
  | [] => 0
  | d :: r => uptoBulk d + uptoBulkAll r
def uptoBulkEntries {H : Type} : List (Lit × DataW H) → Nat
  | [] => 0
  | x :: r => uptoBulkEntry x + uptoBulkEntries r
def uptoBulkEntry {H : Type} : Lit × DataW H → Nat
  | (.string bytes, d) => bytes.length + uptoBulk d + 1
  | (_, d) => uptoBulk d + 1
 end
def uptoSmall : (H : Type) → List (DataW H) → Bool := fun _ ds => decide (uptoBulkAll ds ≤ 1048576)
def OpenSpec.upto (s : _root_.Go.ChangeSpec) : _root_.Go.OpenSpec := { _root_.Go.OpenSpec.ofChange s with cond := some uptoSmall }

/-- 'flurrylaw17.SnowRuns', WHERE WHAT IT READS IS OF BULK AT MOST 1048576: true; the input reads as it did. -/
def snowRunsUptoRow : OpenClaim := { program := "ytgiklllplfcikaa", sum := "7fb790ac471ef6d521e0f3ebd93d7a14fd694d941d00734bb5d3dc1c85660ae3", func := "flurry/flurrylaw17.SnowRuns", spec := "snowRuns", unfollowed := true, recurses := true, apart := false, narrowed := true }
def SnowRunsUptoSaid : Prop := snowRunsUptoRow.holds Try.pinned (OpenSpec.upto snowRunsSpec)

/-- 'flurrylaw17.SnowOnly', WHERE WHAT IT READS IS OF BULK AT MOST 1048576: true; the input reads as it did. -/
def snowOnlyUptoRow : OpenClaim := { program := "ytgiklllplfcikaa", sum := "7fb790ac471ef6d521e0f3ebd93d7a14fd694d941d00734bb5d3dc1c85660ae3", func := "flurry/flurrylaw17.SnowOnly", spec := "snowOnly", unfollowed := true, recurses := true, apart := false, narrowed := true }
def SnowOnlyUptoSaid : Prop := snowOnlyUptoRow.holds Try.pinned (OpenSpec.upto snowOnlySpec)

/-- 'flurrylaw17.SnowGoes', WHERE WHAT IT READS IS OF BULK AT MOST 1048576: true; the input reads as it did. -/
def snowGoesUptoRow : OpenClaim := { program := "ytgiklllplfcikaa", sum := "7fb790ac471ef6d521e0f3ebd93d7a14fd694d941d00734bb5d3dc1c85660ae3", func := "flurry/flurrylaw17.SnowGoes", spec := "snowGoes", unfollowed := true, recurses := true, apart := false, narrowed := true }
def SnowGoesUptoSaid : Prop := snowGoesUptoRow.holds Try.pinned (OpenSpec.upto snowGoesSpec)

/-- 'flurrylaw17.SnowMay', WHERE WHAT IT READS IS OF BULK AT MOST 1048576: true; the input reads as it did. -/
def snowMayUptoRow : OpenClaim := { program := "ytgiklllplfcikaa", sum := "7fb790ac471ef6d521e0f3ebd93d7a14fd694d941d00734bb5d3dc1c85660ae3", func := "flurry/flurrylaw17.SnowMay", spec := "snowMay", unfollowed := true, recurses := true, apart := false, narrowed := true }
def SnowMayUptoSaid : Prop := snowMayUptoRow.holds Try.pinned (OpenSpec.upto snowMaySpec)

/-- 'flurrylaw17.SnowRow', WHERE WHAT IT READS IS OF BULK AT MOST 1048576: true; the input reads as it did. -/
def snowRowUptoRow : OpenClaim := { program := "ytgiklllplfcikaa", sum := "7fb790ac471ef6d521e0f3ebd93d7a14fd694d941d00734bb5d3dc1c85660ae3", func := "flurry/flurrylaw17.SnowRow", spec := "snowRow", unfollowed := true, recurses := true, apart := false, narrowed := true }
def SnowRowUptoSaid : Prop := snowRowUptoRow.holds Try.pinned (OpenSpec.upto snowRowSpec)

/-- 'flurrylaw17.SnowIs', WHERE WHAT IT READS IS OF BULK AT MOST 1048576: true; the input reads as it did. -/
def snowIsUptoRow : OpenClaim := { program := "ytgiklllplfcikaa", sum := "7fb790ac471ef6d521e0f3ebd93d7a14fd694d941d00734bb5d3dc1c85660ae3", func := "flurry/flurrylaw17.SnowIs", spec := "snowIs", unfollowed := true, recurses := true, apart := false, narrowed := true }
def SnowIsUptoSaid : Prop := snowIsUptoRow.holds Try.pinned (OpenSpec.upto snowIsSpec)

/-- 'flurrylaw17.SnowStays', WHERE WHAT IT READS IS OF BULK AT MOST 1048576: true; the input reads as it did. -/
def snowStaysUptoRow : OpenClaim := { program := "ytgiklllplfcikaa", sum := "7fb790ac471ef6d521e0f3ebd93d7a14fd694d941d00734bb5d3dc1c85660ae3", func := "flurry/flurrylaw17.SnowStays", spec := "snowStays", unfollowed := true, recurses := true, apart := false, narrowed := true }
def SnowStaysUptoSaid : Prop := snowStaysUptoRow.holds Try.pinned (OpenSpec.upto snowStaysSpec)

end Rows
end Go.Proofs.Ytgiklllplfcikaa
