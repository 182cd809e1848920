/-
  No cell of these rows narrows 'for every input' (looked for: loops, veiled, ifaces, maps, wideKeys, modest, calm, conditions, laid).
  DERIVED. THE GIVEN ROWS OF THIS SEAT. 7 by the template 'for every input the law returns true; each argument reads behind the call as it read before'; 0 by the template 'total and deterministic' (their statements: YtdbpablakhfdcaaTotals.lean).
  GIVEN WITH THE SEED: the statements are not yours to turn. If you find one false, say at which input.
  Laid BY PROGRAM, IN A SANDBOX (cutbox-rows.mjs): the forced cells as the released guide's own fill.sh prints them over the translation e011fb894e7175be… (all of the seat's roots in one cut). By AI agents, Wed Nov 11 2026. No macro, syntax, notation, axiom, sorry.
-/
import Derived.Test.YtdbpablakhfdcaaChecked
import GoSem.Claim
import GoSem.ClaimJoined
import GoSem.ClaimMapViews
import Derived.JoinedTies
import Derived.KernelRfl
namespace Go.Proofs.Ytdbpablakhfdcaa
/- THE CELL 'sum', in the pinned program and in every row, IS THE sha256 OF THE DUMP (.gsa) THAT YtdbpablakhfdcaaProg.lean LOADS. Nothing in Lean hashes anything: it is a label: what it is worth is what the hold of that sum in a sandbox is worth. -/
noncomputable def Try.pinned : Pinned := { name := "ytdbpablakhfdcaa", sum := "e011fb894e7175be9498371318983ffe51fc40ed890ebcd6b68f592415b68784", checked := Try.checked }
namespace Rows
def none {H : Type} : Left H := { results := [], args := [] }

/-- 'signalbenchlaw23.I2cChecks': WHATEVER THE INPUT: true; the input reads as it did. -/
def i2cChecksSpec : ChangeSpec := { name := "i2cChecks", fn := fun _ => fun
  | [d1, d2, d3] => { results := [.lit (.bool true)], args := [d1, d2, d3] }
  | _ => none }
def i2cChecksRow : OpenClaim := { program := "ytdbpablakhfdcaa", sum := "e011fb894e7175be9498371318983ffe51fc40ed890ebcd6b68f592415b68784", func := "signalbench/signalbenchlaw23.I2cChecks", spec := "i2cChecks", apart := false }
def I2cChecksSaid : Prop := i2cChecksRow.holds Try.pinned (OpenSpec.ofChange i2cChecksSpec)

/-- ITS FALSE NEIGHBOUR: 'it returns false'. Refute it at one input. -/
def i2cChecksWrong : ChangeSpec := { name := "i2cChecks", fn := fun _ => fun
  | [d1, d2, d3] => { results := [.lit (.bool false)], args := [d1, d2, d3] }
  | _ => none }
def I2cChecksWrongFalsely : Prop := i2cChecksRow.holds Try.pinned (OpenSpec.ofChange i2cChecksWrong)

/-- 'signalbenchlaw23.I2cDecodes': WHATEVER THE INPUT: true; the input reads as it did. -/
def i2cDecodesSpec : ChangeSpec := { name := "i2cDecodes", fn := fun _ => fun
  | [d1, d2] => { results := [.lit (.bool true)], args := [d1, d2] }
  | _ => none }
def i2cDecodesRow : OpenClaim := { program := "ytdbpablakhfdcaa", sum := "e011fb894e7175be9498371318983ffe51fc40ed890ebcd6b68f592415b68784", func := "signalbench/signalbenchlaw23.I2cDecodes", spec := "i2cDecodes", apart := false }
def I2cDecodesSaid : Prop := i2cDecodesRow.holds Try.pinned (OpenSpec.ofChange i2cDecodesSpec)

/-- ITS FALSE NEIGHBOUR: 'it returns false'. Refute it at one input. -/
def i2cDecodesWrong : ChangeSpec := { name := "i2cDecodes", fn := fun _ => fun
  | [d1, d2] => { results := [.lit (.bool false)], args := [d1, d2] }
  | _ => none }
def I2cDecodesWrongFalsely : Prop := i2cDecodesRow.holds Try.pinned (OpenSpec.ofChange i2cDecodesWrong)

/-- 'signalbenchlaw23.I2cEncodes': WHATEVER THE INPUT: true; the input reads as it did. -/
def i2cEncodesSpec : ChangeSpec := { name := "i2cEncodes", fn := fun _ => fun
  | [d1, d2] => { results := [.lit (.bool true)], args := [d1, d2] }
  | _ => none }
def i2cEncodesRow : OpenClaim := { program := "ytdbpablakhfdcaa", sum := "e011fb894e7175be9498371318983ffe51fc40ed890ebcd6b68f592415b68784", func := "signalbench/signalbenchlaw23.I2cEncodes", spec := "i2cEncodes", apart := false }
def I2cEncodesSaid : Prop := i2cEncodesRow.holds Try.pinned (OpenSpec.ofChange i2cEncodesSpec)

/-- ITS FALSE NEIGHBOUR: 'it returns false'. Refute it at one input. -/
def i2cEncodesWrong : ChangeSpec := { name := "i2cEncodes", fn := fun _ => fun
  | [d1, d2] => { results := [.lit (.bool false)], args := [d1, d2] }
  | _ => none }
def I2cEncodesWrongFalsely : Prop := i2cEncodesRow.holds Try.pinned (OpenSpec.ofChange i2cEncodesWrong)

/-- 'signalbenchlaw23.I2cRoundTrips': WHATEVER THE INPUT: true; the input reads as it did. -/
def i2cRoundTripsSpec : ChangeSpec := { name := "i2cRoundTrips", fn := fun _ => fun
  | [d1, d2] => { results := [.lit (.bool true)], args := [d1, d2] }
  | _ => none }
def i2cRoundTripsRow : OpenClaim := { program := "ytdbpablakhfdcaa", sum := "e011fb894e7175be9498371318983ffe51fc40ed890ebcd6b68f592415b68784", func := "signalbench/signalbenchlaw23.I2cRoundTrips", spec := "i2cRoundTrips", apart := false }
def I2cRoundTripsSaid : Prop := i2cRoundTripsRow.holds Try.pinned (OpenSpec.ofChange i2cRoundTripsSpec)

/-- ITS FALSE NEIGHBOUR: 'it returns false'. Refute it at one input. -/
def i2cRoundTripsWrong : ChangeSpec := { name := "i2cRoundTrips", fn := fun _ => fun
  | [d1, d2] => { results := [.lit (.bool false)], args := [d1, d2] }
  | _ => none }
def I2cRoundTripsWrongFalsely : Prop := i2cRoundTripsRow.holds Try.pinned (OpenSpec.ofChange i2cRoundTripsWrong)

/-- 'signalbenchlaw23.I2cPieces': WHATEVER THE INPUT: true; the input reads as it did. -/
def i2cPiecesSpec : ChangeSpec := { name := "i2cPieces", fn := fun _ => fun
  | [d1, d2, d3, d4] => { results := [.lit (.bool true)], args := [d1, d2, d3, d4] }
  | _ => none }
def i2cPiecesRow : OpenClaim := { program := "ytdbpablakhfdcaa", sum := "e011fb894e7175be9498371318983ffe51fc40ed890ebcd6b68f592415b68784", func := "signalbench/signalbenchlaw23.I2cPieces", spec := "i2cPieces", apart := false }
def I2cPiecesSaid : Prop := i2cPiecesRow.holds Try.pinned (OpenSpec.ofChange i2cPiecesSpec)

/-- ITS FALSE NEIGHBOUR: 'it returns false'. Refute it at one input. -/
def i2cPiecesWrong : ChangeSpec := { name := "i2cPieces", fn := fun _ => fun
  | [d1, d2, d3, d4] => { results := [.lit (.bool false)], args := [d1, d2, d3, d4] }
  | _ => none }
def I2cPiecesWrongFalsely : Prop := i2cPiecesRow.holds Try.pinned (OpenSpec.ofChange i2cPiecesWrong)

/-- 'signalbenchlaw23.I2cSilent': WHATEVER THE INPUT: true; the input reads as it did. -/
def i2cSilentSpec : ChangeSpec := { name := "i2cSilent", fn := fun _ => fun
  | [d1, d2] => { results := [.lit (.bool true)], args := [d1, d2] }
  | _ => none }
def i2cSilentRow : OpenClaim := { program := "ytdbpablakhfdcaa", sum := "e011fb894e7175be9498371318983ffe51fc40ed890ebcd6b68f592415b68784", func := "signalbench/signalbenchlaw23.I2cSilent", spec := "i2cSilent", apart := false }
def I2cSilentSaid : Prop := i2cSilentRow.holds Try.pinned (OpenSpec.ofChange i2cSilentSpec)

/-- ITS FALSE NEIGHBOUR: 'it returns false'. Refute it at one input. -/
def i2cSilentWrong : ChangeSpec := { name := "i2cSilent", fn := fun _ => fun
  | [d1, d2] => { results := [.lit (.bool false)], args := [d1, d2] }
  | _ => none }
def I2cSilentWrongFalsely : Prop := i2cSilentRow.holds Try.pinned (OpenSpec.ofChange i2cSilentWrong)

/-- 'signalbenchlaw23.I2cResumes': WHATEVER THE INPUT: true; the input reads as it did. -/
def i2cResumesSpec : ChangeSpec := { name := "i2cResumes", fn := fun _ => fun
  | [d1, d2, d3] => { results := [.lit (.bool true)], args := [d1, d2, d3] }
  | _ => none }
def i2cResumesRow : OpenClaim := { program := "ytdbpablakhfdcaa", sum := "e011fb894e7175be9498371318983ffe51fc40ed890ebcd6b68f592415b68784", func := "signalbench/signalbenchlaw23.I2cResumes", spec := "i2cResumes", apart := false }
def I2cResumesSaid : Prop := i2cResumesRow.holds Try.pinned (OpenSpec.ofChange i2cResumesSpec)

/-- ITS FALSE NEIGHBOUR: 'it returns false'. Refute it at one input. -/
def i2cResumesWrong : ChangeSpec := { name := "i2cResumes", fn := fun _ => fun
  | [d1, d2, d3] => { results := [.lit (.bool false)], args := [d1, d2, d3] }
  | _ => none }
def I2cResumesWrongFalsely : Prop := i2cResumesRow.holds Try.pinned (OpenSpec.ofChange i2cResumesWrong)

/- THE SECOND FORM. 'bulk': how many values and letters a reading holds, each counted each time it is reached (what is shared counts as often as it is met; a slice's spare places count too). A statement '..UptoSaid' is the law's where the arguments, and the package variables that the reading takes, are together of bulk at most 1048576: NARROWER than '..Said'. Prove '..Said' where nothing that the law and all that it calls make is longer than what came in: it says more and counts as full. Else prove '..UptoSaid'. A law counts once. -/
mutual
def uptoBulk {H : Type} : DataW H → Nat
  | .lit (.string bytes) => bytes.length + 1
  | .lit _ => 1
  | .nil => 1
  | .ptr d => uptoBulk d + 1
  | .slice elems spare => uptoBulkAll elems + uptoBulkAll spare + 1
  | .agg parts => uptoBulkAll parts + 1
  | .iface _ d => uptoBulk d + 1
  | .map entries => uptoBulkEntries entries + 1
  | .held _ => 1
def uptoBulkAll {H : Type} : List (DataW H) → Nat
  | [] => 0
  | d :: r => uptoBulk d + uptoBulkAll r
def uptoBulkEntries {H : Type} : List (Lit × DataW H) → Nat
  | [] => 0
  | x :: r => uptoBulkEntry x + uptoBulkEntries r
def uptoBulkEntry {H : Type} : Lit × DataW H → Nat
  | (.string bytes, d) => bytes.length + uptoBulk d + 1
  | (_, d) => uptoBulk d + 1
 end
def uptoSmall : (H : Type) → List (DataW H) → Bool := fun _ ds => decide (uptoBulkAll ds ≤ 1048576)
def OpenSpec.upto (s : _root_.Go.ChangeSpec) : _root_.Go.OpenSpec := { _root_.Go.OpenSpec.ofChange s with cond := some uptoSmall }

/-- 'signalbenchlaw23.I2cChecks', WHERE WHAT IT READS IS OF BULK AT MOST 1048576: true; the input reads as it did. -/
def i2cChecksUptoRow : OpenClaim := { program := "ytdbpablakhfdcaa", sum := "e011fb894e7175be9498371318983ffe51fc40ed890ebcd6b68f592415b68784", func := "signalbench/signalbenchlaw23.I2cChecks", spec := "i2cChecks", apart := false, narrowed := true }
def I2cChecksUptoSaid : Prop := i2cChecksUptoRow.holds Try.pinned (OpenSpec.upto i2cChecksSpec)

/-- 'signalbenchlaw23.I2cDecodes', WHERE WHAT IT READS IS OF BULK AT MOST 1048576: true; the input reads as it did. -/
def i2cDecodesUptoRow : OpenClaim := { program := "ytdbpablakhfdcaa", sum := "e011fb894e7175be9498371318983ffe51fc40ed890ebcd6b68f592415b68784", func := "signalbench/signalbenchlaw23.I2cDecodes", spec := "i2cDecodes", apart := false, narrowed := true }
def I2cDecodesUptoSaid : Prop := i2cDecodesUptoRow.holds Try.pinned (OpenSpec.upto i2cDecodesSpec)

/-- 'signalbenchlaw23.I2cEncodes', WHERE WHAT IT READS IS OF BULK AT MOST 1048576: true; the input reads as it did. -/
def i2cEncodesUptoRow : OpenClaim := { program := "ytdbpablakhfdcaa", sum := "e011fb894e7175be9498371318983ffe51fc40ed890ebcd6b68f592415b68784", func := "signalbench/signalbenchlaw23.I2cEncodes", spec := "i2cEncodes", apart := false, narrowed := true }
def I2cEncodesUptoSaid : Prop := i2cEncodesUptoRow.holds Try.pinned (OpenSpec.upto i2cEncodesSpec)

/-- 'signalbenchlaw23.I2cRoundTrips', WHERE WHAT IT READS IS OF BULK AT MOST 1048576: true; the input reads as it did. -/
def i2cRoundTripsUptoRow : OpenClaim := { program := "ytdbpablakhfdcaa", sum := "e011fb894e7175be9498371318983ffe51fc40ed890ebcd6b68f592415b68784", func := "signalbench/signalbenchlaw23.I2cRoundTrips", spec := "i2cRoundTrips", apart := false, narrowed := true }
def I2cRoundTripsUptoSaid : Prop := i2cRoundTripsUptoRow.holds Try.pinned (OpenSpec.upto i2cRoundTripsSpec)

/-- 'signalbenchlaw23.I2cPieces', WHERE WHAT IT READS IS OF BULK AT MOST 1048576: true; the input reads as it did. -/
def i2cPiecesUptoRow : OpenClaim := { program := "ytdbpablakhfdcaa", sum := "e011fb894e7175be9498371318983ffe51fc40ed890ebcd6b68f592415b68784", func := "signalbench/signalbenchlaw23.I2cPieces", spec := "i2cPieces", apart := false, narrowed := true }
def I2cPiecesUptoSaid : Prop := i2cPiecesUptoRow.holds Try.pinned (OpenSpec.upto i2cPiecesSpec)

/-- 'signalbenchlaw23.I2cSilent', WHERE WHAT IT READS IS OF BULK AT MOST 1048576: true; the input reads as it did. -/
def i2cSilentUptoRow : OpenClaim := { program := "ytdbpablakhfdcaa", sum := "e011fb894e7175be9498371318983ffe51fc40ed890ebcd6b68f592415b68784", func := "signalbench/signalbenchlaw23.I2cSilent", spec := "i2cSilent", apart := false, narrowed := true }
def I2cSilentUptoSaid : Prop := i2cSilentUptoRow.holds Try.pinned (OpenSpec.upto i2cSilentSpec)

/-- 'signalbenchlaw23.I2cResumes', WHERE WHAT IT READS IS OF BULK AT MOST 1048576: true; the input reads as it did. -/
def i2cResumesUptoRow : OpenClaim := { program := "ytdbpablakhfdcaa", sum := "e011fb894e7175be9498371318983ffe51fc40ed890ebcd6b68f592415b68784", func := "signalbench/signalbenchlaw23.I2cResumes", spec := "i2cResumes", apart := false, narrowed := true }
def I2cResumesUptoSaid : Prop := i2cResumesUptoRow.holds Try.pinned (OpenSpec.upto i2cResumesSpec)

end Rows
end Go.Proofs.Ytdbpablakhfdcaa
