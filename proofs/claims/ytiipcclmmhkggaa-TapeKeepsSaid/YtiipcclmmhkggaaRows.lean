/-
  No cell of these rows narrows 'for every input' (looked for: loops, veiled, ifaces, maps, wideKeys, modest, calm, conditions, laid).
  DERIVED. THE GIVEN ROWS OF THIS SEAT. 5 by the template 'for every input the law returns true; each argument reads behind the call as it read before'; 0 by the template 'total and deterministic' (their statements: YtiipcclmmhkggaaTotals.lean).
  GIVEN WITH THE SEED: the statements are not yours to turn. If you find one false, say at which input.
  Laid BY PROGRAM, IN A SANDBOX (cutbox-rows.mjs): the forced cells as the released guide's own fill.sh prints them over the translation 9330c33f0a37cde0… (all of the seat's roots in one cut). By AI agents, Wed Nov 11 2026. No macro, syntax, notation, axiom, sorry.
-/
import Derived.Test.YtiipcclmmhkggaaChecked
import GoSem.Claim
import GoSem.ClaimJoined
import GoSem.ClaimMapViews
import Derived.JoinedTies
import Derived.KernelRfl
namespace Go.Proofs.Ytiipcclmmhkggaa
/- THE CELL 'sum', in the pinned program and in every row, IS THE sha256 OF THE DUMP (.gsa) THAT YtiipcclmmhkggaaProg.lean LOADS. Nothing in Lean hashes anything: it is a label: what it is worth is what the hold of that sum in a sandbox is worth. -/
noncomputable def Try.pinned : Pinned := { name := "ytiipcclmmhkggaa", sum := "9330c33f0a37cde0d9707c6473ddf237594b49001dcbfd4ea6e134dc9e367b01", checked := Try.checked }
namespace Rows
def none {H : Type} : Left H := { results := [], args := [] }

/-- 'flurrylaw08.TapeFull': WHATEVER THE INPUT: true; the input reads as it did. -/
def tapeFullSpec : ChangeSpec := { name := "tapeFull", fn := fun _ => fun
  | [d1, d2] => { results := [.lit (.bool true)], args := [d1, d2] }
  | _ => none }
def tapeFullRow : OpenClaim := { program := "ytiipcclmmhkggaa", sum := "9330c33f0a37cde0d9707c6473ddf237594b49001dcbfd4ea6e134dc9e367b01", func := "flurry/flurrylaw08.TapeFull", spec := "tapeFull", apart := false }
def TapeFullSaid : Prop := tapeFullRow.holds Try.pinned (OpenSpec.ofChange tapeFullSpec)

/-- ITS FALSE NEIGHBOUR: 'it returns false'. Refute it at one input. -/
def tapeFullWrong : ChangeSpec := { name := "tapeFull", fn := fun _ => fun
  | [d1, d2] => { results := [.lit (.bool false)], args := [d1, d2] }
  | _ => none }
def TapeFullWrongFalsely : Prop := tapeFullRow.holds Try.pinned (OpenSpec.ofChange tapeFullWrong)

/-- 'flurrylaw08.TapeArmed': WHATEVER THE INPUT: true; the input reads as it did. -/
def tapeArmedSpec : ChangeSpec := { name := "tapeArmed", fn := fun _ => fun
  | [d1, d2] => { results := [.lit (.bool true)], args := [d1, d2] }
  | _ => none }
def tapeArmedRow : OpenClaim := { program := "ytiipcclmmhkggaa", sum := "9330c33f0a37cde0d9707c6473ddf237594b49001dcbfd4ea6e134dc9e367b01", func := "flurry/flurrylaw08.TapeArmed", spec := "tapeArmed", inPlace := ["internal/bytealg.MakeNoZero"], apart := false }
def TapeArmedSaid : Prop := tapeArmedRow.holds Try.pinned (OpenSpec.ofChange tapeArmedSpec)

/-- ITS FALSE NEIGHBOUR: 'it returns false'. Refute it at one input. -/
def tapeArmedWrong : ChangeSpec := { name := "tapeArmed", fn := fun _ => fun
  | [d1, d2] => { results := [.lit (.bool false)], args := [d1, d2] }
  | _ => none }
def TapeArmedWrongFalsely : Prop := tapeArmedRow.holds Try.pinned (OpenSpec.ofChange tapeArmedWrong)

/-- 'flurrylaw08.TapeNone': WHATEVER THE INPUT: true; the input reads as it did. -/
def tapeNoneSpec : ChangeSpec := { name := "tapeNone", fn := fun _ => fun
  | [d1, d2] => { results := [.lit (.bool true)], args := [d1, d2] }
  | _ => none }
def tapeNoneRow : OpenClaim := { program := "ytiipcclmmhkggaa", sum := "9330c33f0a37cde0d9707c6473ddf237594b49001dcbfd4ea6e134dc9e367b01", func := "flurry/flurrylaw08.TapeNone", spec := "tapeNone", apart := false }
def TapeNoneSaid : Prop := tapeNoneRow.holds Try.pinned (OpenSpec.ofChange tapeNoneSpec)

/-- ITS FALSE NEIGHBOUR: 'it returns false'. Refute it at one input. -/
def tapeNoneWrong : ChangeSpec := { name := "tapeNone", fn := fun _ => fun
  | [d1, d2] => { results := [.lit (.bool false)], args := [d1, d2] }
  | _ => none }
def TapeNoneWrongFalsely : Prop := tapeNoneRow.holds Try.pinned (OpenSpec.ofChange tapeNoneWrong)

/-- 'flurrylaw08.TapeKeeps': WHATEVER THE INPUT: true; the input reads as it did. -/
def tapeKeepsSpec : ChangeSpec := { name := "tapeKeeps", fn := fun _ => fun
  | [d] => { results := [.lit (.bool true)], args := [d] }
  | _ => none }
def tapeKeepsRow : OpenClaim := { program := "ytiipcclmmhkggaa", sum := "9330c33f0a37cde0d9707c6473ddf237594b49001dcbfd4ea6e134dc9e367b01", func := "flurry/flurrylaw08.TapeKeeps", spec := "tapeKeeps", inPlace := ["internal/bytealg.MakeNoZero"], apart := false }
def TapeKeepsSaid : Prop := tapeKeepsRow.holds Try.pinned (OpenSpec.ofChange tapeKeepsSpec)

/-- ITS FALSE NEIGHBOUR: 'it returns false'. Refute it at one input. -/
def tapeKeepsWrong : ChangeSpec := { name := "tapeKeeps", fn := fun _ => fun
  | [d] => { results := [.lit (.bool false)], args := [d] }
  | _ => none }
def TapeKeepsWrongFalsely : Prop := tapeKeepsRow.holds Try.pinned (OpenSpec.ofChange tapeKeepsWrong)

/-- 'flurrylaw08.TapeDoes': WHATEVER THE INPUT: true; the input reads as it did. -/
def tapeDoesSpec : ChangeSpec := { name := "tapeDoes", fn := fun _ => fun
  | [d1, d2] => { results := [.lit (.bool true)], args := [d1, d2] }
  | _ => none }
def tapeDoesRow : OpenClaim := { program := "ytiipcclmmhkggaa", sum := "9330c33f0a37cde0d9707c6473ddf237594b49001dcbfd4ea6e134dc9e367b01", func := "flurry/flurrylaw08.TapeDoes", spec := "tapeDoes", apart := false }
def TapeDoesSaid : Prop := tapeDoesRow.holds Try.pinned (OpenSpec.ofChange tapeDoesSpec)

/-- ITS FALSE NEIGHBOUR: 'it returns false'. Refute it at one input. -/
def tapeDoesWrong : ChangeSpec := { name := "tapeDoes", fn := fun _ => fun
  | [d1, d2] => { results := [.lit (.bool false)], args := [d1, d2] }
  | _ => none }
def TapeDoesWrongFalsely : Prop := tapeDoesRow.holds Try.pinned (OpenSpec.ofChange tapeDoesWrong)

/- THE SECOND FORM. 'bulk': how many values and letters a reading holds, each counted each time it is reached (what is shared counts as often as it is met; a slice's spare places count too). A statement '..UptoSaid' is the law's where the arguments, and the package variables that the reading takes, are together of bulk at most 1048576: NARROWER than '..Said'. Prove '..Said' where nothing that the law and all that it calls make is longer than what came in: it says more and counts as full. Else prove '..UptoSaid'. A law counts once. -/
mutual
def uptoBulk {H : Type} : DataW H → Nat
  | .lit (.string bytes) => bytes.length + 1
  | .lit _ => 1
  | .nil => 1
  | .ptr d => uptoBulk d + 1
  | .slice elems spare => uptoBulkAll elems + uptoBulkAll spare + 1
  | .agg parts => uptoBulkAll parts + 1
  | .iface _ d => uptoBulk d + 1
  | .map entries => uptoBulkEntries entries + 1
  | .held _ => 1
def uptoBulkAll {H : Type} : List (DataW H) → Nat
  | [] => 0
  | d :: r => uptoBulk d + uptoBulkAll r
def uptoBulkEntries {H : Type} : List (Lit × DataW H) → Nat
  | [] => 0
  | x :: r => uptoBulkEntry x + uptoBulkEntries r
def uptoBulkEntry {H : Type} : Lit × DataW H → Nat
  | (.string bytes, d) => bytes.length + uptoBulk d + 1
  | (_, d) => uptoBulk d + 1
 end
def uptoSmall : (H : Type) → List (DataW H) → Bool := fun _ ds => decide (uptoBulkAll ds ≤ 1048576)
def OpenSpec.upto (s : _root_.Go.ChangeSpec) : _root_.Go.OpenSpec := { _root_.Go.OpenSpec.ofChange s with cond := some uptoSmall }

/-- 'flurrylaw08.TapeFull', WHERE WHAT IT READS IS OF BULK AT MOST 1048576: true; the input reads as it did. -/
def tapeFullUptoRow : OpenClaim := { program := "ytiipcclmmhkggaa", sum := "9330c33f0a37cde0d9707c6473ddf237594b49001dcbfd4ea6e134dc9e367b01", func := "flurry/flurrylaw08.TapeFull", spec := "tapeFull", apart := false, narrowed := true }
def TapeFullUptoSaid : Prop := tapeFullUptoRow.holds Try.pinned (OpenSpec.upto tapeFullSpec)

/-- 'flurrylaw08.TapeArmed', WHERE WHAT IT READS IS OF BULK AT MOST 1048576: true; the input reads as it did. -/
def tapeArmedUptoRow : OpenClaim := { program := "ytiipcclmmhkggaa", sum := "9330c33f0a37cde0d9707c6473ddf237594b49001dcbfd4ea6e134dc9e367b01", func := "flurry/flurrylaw08.TapeArmed", spec := "tapeArmed", inPlace := ["internal/bytealg.MakeNoZero"], apart := false, narrowed := true }
def TapeArmedUptoSaid : Prop := tapeArmedUptoRow.holds Try.pinned (OpenSpec.upto tapeArmedSpec)

/-- 'flurrylaw08.TapeNone', WHERE WHAT IT READS IS OF BULK AT MOST 1048576: true; the input reads as it did. -/
def tapeNoneUptoRow : OpenClaim := { program := "ytiipcclmmhkggaa", sum := "9330c33f0a37cde0d9707c6473ddf237594b49001dcbfd4ea6e134dc9e367b01", func := "flurry/flurrylaw08.TapeNone", spec := "tapeNone", apart := false, narrowed := true }
def TapeNoneUptoSaid : Prop := tapeNoneUptoRow.holds Try.pinned (OpenSpec.upto tapeNoneSpec)

/-- 'flurrylaw08.TapeKeeps', WHERE WHAT IT READS IS OF BULK AT MOST 1048576: true; the input reads as it did. -/
def tapeKeepsUptoRow : OpenClaim := { program := "ytiipcclmmhkggaa", sum := "9330c33f0a37cde0d9707c6473ddf237594b49001dcbfd4ea6e134dc9e367b01", func := "flurry/flurrylaw08.TapeKeeps", spec := "tapeKeeps", inPlace := ["internal/bytealg.MakeNoZero"], apart := false, narrowed := true }
def TapeKeepsUptoSaid : Prop := tapeKeepsUptoRow.holds Try.pinned (OpenSpec.upto tapeKeepsSpec)

/-- 'flurrylaw08.TapeDoes', WHERE WHAT IT READS IS OF BULK AT MOST 1048576: true; the input reads as it did. -/
def tapeDoesUptoRow : OpenClaim := { program := "ytiipcclmmhkggaa", sum := "9330c33f0a37cde0d9707c6473ddf237594b49001dcbfd4ea6e134dc9e367b01", func := "flurry/flurrylaw08.TapeDoes", spec := "tapeDoes", apart := false, narrowed := true }
def TapeDoesUptoSaid : Prop := tapeDoesUptoRow.holds Try.pinned (OpenSpec.upto tapeDoesSpec)

end Rows
end Go.Proofs.Ytiipcclmmhkggaa
