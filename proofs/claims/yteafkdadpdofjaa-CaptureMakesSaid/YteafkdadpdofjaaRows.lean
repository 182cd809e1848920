/-
  No cell of these rows narrows 'for every input' (looked for: loops, veiled, ifaces, maps, wideKeys, modest, calm, conditions, laid).
  DERIVED. THE GIVEN ROWS OF THIS SEAT. 7 by the template 'for every input the law returns true; each argument reads behind the call as it read before'; 0 by the template 'total and deterministic' (their statements: YteafkdadpdofjaaTotals.lean).
  GIVEN WITH THE SEED: the statements are not yours to turn. If you find one false, say at which input.
  Laid BY PROGRAM, IN A SANDBOX (cutbox-rows.mjs): the forced cells as the released guide's own fill.sh prints them over the translation cf3cf4d2890d6146… (all of the seat's roots in one cut). By AI agents, Wed Nov 11 2026. No macro, syntax, notation, axiom, sorry.
-/
import Derived.Test.YteafkdadpdofjaaChecked
import GoSem.Claim
import GoSem.ClaimJoined
import GoSem.ClaimMapViews
import Derived.JoinedTies
import Derived.KernelRfl
namespace Go.Proofs.Yteafkdadpdofjaa
/- THE CELL 'sum', in the pinned program and in every row, IS THE sha256 OF THE DUMP (.gsa) THAT YteafkdadpdofjaaProg.lean LOADS. Nothing in Lean hashes anything: it is a label: what it is worth is what the hold of that sum in a sandbox is worth. -/
noncomputable def Try.pinned : Pinned := { name := "yteafkdadpdofjaa", sum := "cf3cf4d2890d6146ebba87cac34ab33f7f26522ec403ac74294eae8169c248c3", checked := Try.checked }
namespace Rows
def none {H : Type} : Left H := { results := [], args := [] }

/-- 'signalbenchlaw09.CaptureChecks': WHATEVER THE INPUT: true; the input reads as it did. -/
def captureChecksSpec : ChangeSpec := { name := "captureChecks", fn := fun _ => fun
  | [d1, d2] => { results := [.lit (.bool true)], args := [d1, d2] }
  | _ => none }
def captureChecksRow : OpenClaim := { program := "yteafkdadpdofjaa", sum := "cf3cf4d2890d6146ebba87cac34ab33f7f26522ec403ac74294eae8169c248c3", func := "signalbench/signalbenchlaw09.CaptureChecks", spec := "captureChecks", apart := false }
def CaptureChecksSaid : Prop := captureChecksRow.holds Try.pinned (OpenSpec.ofChange captureChecksSpec)

/-- ITS FALSE NEIGHBOUR: 'it returns false'. Refute it at one input. -/
def captureChecksWrong : ChangeSpec := { name := "captureChecks", fn := fun _ => fun
  | [d1, d2] => { results := [.lit (.bool false)], args := [d1, d2] }
  | _ => none }
def CaptureChecksWrongFalsely : Prop := captureChecksRow.holds Try.pinned (OpenSpec.ofChange captureChecksWrong)

/-- 'signalbenchlaw09.CaptureMakes': WHATEVER THE INPUT: true; the input reads as it did. -/
def captureMakesSpec : ChangeSpec := { name := "captureMakes", fn := fun _ => fun
  | [d1, d2] => { results := [.lit (.bool true)], args := [d1, d2] }
  | _ => none }
def captureMakesRow : OpenClaim := { program := "yteafkdadpdofjaa", sum := "cf3cf4d2890d6146ebba87cac34ab33f7f26522ec403ac74294eae8169c248c3", func := "signalbench/signalbenchlaw09.CaptureMakes", spec := "captureMakes", apart := false }
def CaptureMakesSaid : Prop := captureMakesRow.holds Try.pinned (OpenSpec.ofChange captureMakesSpec)

/-- ITS FALSE NEIGHBOUR: 'it returns false'. Refute it at one input. -/
def captureMakesWrong : ChangeSpec := { name := "captureMakes", fn := fun _ => fun
  | [d1, d2] => { results := [.lit (.bool false)], args := [d1, d2] }
  | _ => none }
def CaptureMakesWrongFalsely : Prop := captureMakesRow.holds Try.pinned (OpenSpec.ofChange captureMakesWrong)

/-- 'signalbenchlaw09.CaptureEdges': WHATEVER THE INPUT: true; the input reads as it did. -/
def captureEdgesSpec : ChangeSpec := { name := "captureEdges", fn := fun _ => fun
  | [d1, d2] => { results := [.lit (.bool true)], args := [d1, d2] }
  | _ => none }
def captureEdgesRow : OpenClaim := { program := "yteafkdadpdofjaa", sum := "cf3cf4d2890d6146ebba87cac34ab33f7f26522ec403ac74294eae8169c248c3", func := "signalbench/signalbenchlaw09.CaptureEdges", spec := "captureEdges", apart := false }
def CaptureEdgesSaid : Prop := captureEdgesRow.holds Try.pinned (OpenSpec.ofChange captureEdgesSpec)

/-- ITS FALSE NEIGHBOUR: 'it returns false'. Refute it at one input. -/
def captureEdgesWrong : ChangeSpec := { name := "captureEdges", fn := fun _ => fun
  | [d1, d2] => { results := [.lit (.bool false)], args := [d1, d2] }
  | _ => none }
def CaptureEdgesWrongFalsely : Prop := captureEdgesRow.holds Try.pinned (OpenSpec.ofChange captureEdgesWrong)

/-- 'signalbenchlaw09.CaptureParts': WHATEVER THE INPUT: true; the input reads as it did. -/
def capturePartsSpec : ChangeSpec := { name := "captureParts", fn := fun _ => fun
  | [d1, d2, d3, d4] => { results := [.lit (.bool true)], args := [d1, d2, d3, d4] }
  | _ => none }
def capturePartsRow : OpenClaim := { program := "yteafkdadpdofjaa", sum := "cf3cf4d2890d6146ebba87cac34ab33f7f26522ec403ac74294eae8169c248c3", func := "signalbench/signalbenchlaw09.CaptureParts", spec := "captureParts", apart := false }
def CapturePartsSaid : Prop := capturePartsRow.holds Try.pinned (OpenSpec.ofChange capturePartsSpec)

/-- ITS FALSE NEIGHBOUR: 'it returns false'. Refute it at one input. -/
def capturePartsWrong : ChangeSpec := { name := "captureParts", fn := fun _ => fun
  | [d1, d2, d3, d4] => { results := [.lit (.bool false)], args := [d1, d2, d3, d4] }
  | _ => none }
def CapturePartsWrongFalsely : Prop := capturePartsRow.holds Try.pinned (OpenSpec.ofChange capturePartsWrong)

/-- 'signalbenchlaw09.CaptureSame': WHATEVER THE INPUT: true; the input reads as it did. -/
def captureSameSpec : ChangeSpec := { name := "captureSame", fn := fun _ => fun
  | [d1, d2] => { results := [.lit (.bool true)], args := [d1, d2] }
  | _ => none }
def captureSameRow : OpenClaim := { program := "yteafkdadpdofjaa", sum := "cf3cf4d2890d6146ebba87cac34ab33f7f26522ec403ac74294eae8169c248c3", func := "signalbench/signalbenchlaw09.CaptureSame", spec := "captureSame", apart := false }
def CaptureSameSaid : Prop := captureSameRow.holds Try.pinned (OpenSpec.ofChange captureSameSpec)

/-- ITS FALSE NEIGHBOUR: 'it returns false'. Refute it at one input. -/
def captureSameWrong : ChangeSpec := { name := "captureSame", fn := fun _ => fun
  | [d1, d2] => { results := [.lit (.bool false)], args := [d1, d2] }
  | _ => none }
def CaptureSameWrongFalsely : Prop := captureSameRow.holds Try.pinned (OpenSpec.ofChange captureSameWrong)

/-- 'signalbenchlaw09.CaptureBuilds': WHATEVER THE INPUT: true; the input reads as it did. -/
def captureBuildsSpec : ChangeSpec := { name := "captureBuilds", fn := fun _ => fun
  | [d] => { results := [.lit (.bool true)], args := [d] }
  | _ => none }
def captureBuildsRow : OpenClaim := { program := "yteafkdadpdofjaa", sum := "cf3cf4d2890d6146ebba87cac34ab33f7f26522ec403ac74294eae8169c248c3", func := "signalbench/signalbenchlaw09.CaptureBuilds", spec := "captureBuilds", apart := false }
def CaptureBuildsSaid : Prop := captureBuildsRow.holds Try.pinned (OpenSpec.ofChange captureBuildsSpec)

/-- ITS FALSE NEIGHBOUR: 'it returns false'. Refute it at one input. -/
def captureBuildsWrong : ChangeSpec := { name := "captureBuilds", fn := fun _ => fun
  | [d] => { results := [.lit (.bool false)], args := [d] }
  | _ => none }
def CaptureBuildsWrongFalsely : Prop := captureBuildsRow.holds Try.pinned (OpenSpec.ofChange captureBuildsWrong)

/-- 'signalbenchlaw09.CaptureReads': WHATEVER THE INPUT: true; the input reads as it did. -/
def captureReadsSpec : ChangeSpec := { name := "captureReads", fn := fun _ => fun
  | [d1, d2, d3, d4] => { results := [.lit (.bool true)], args := [d1, d2, d3, d4] }
  | _ => none }
def captureReadsRow : OpenClaim := { program := "yteafkdadpdofjaa", sum := "cf3cf4d2890d6146ebba87cac34ab33f7f26522ec403ac74294eae8169c248c3", func := "signalbench/signalbenchlaw09.CaptureReads", spec := "captureReads", apart := false }
def CaptureReadsSaid : Prop := captureReadsRow.holds Try.pinned (OpenSpec.ofChange captureReadsSpec)

/-- ITS FALSE NEIGHBOUR: 'it returns false'. Refute it at one input. -/
def captureReadsWrong : ChangeSpec := { name := "captureReads", fn := fun _ => fun
  | [d1, d2, d3, d4] => { results := [.lit (.bool false)], args := [d1, d2, d3, d4] }
  | _ => none }
def CaptureReadsWrongFalsely : Prop := captureReadsRow.holds Try.pinned (OpenSpec.ofChange captureReadsWrong)

/- THE SECOND FORM. 'bulk': how many values and letters a reading holds, each counted each time it is reached (what is shared counts as often as it is met; a slice's spare places count too). A statement '..UptoSaid' is the law's where the arguments, and the package variables that the reading takes, are together of bulk at most 1048576: NARROWER than '..Said'. Prove '..Said' where nothing that the law and all that it calls make is longer than what came in: it says more and counts as full. Else prove '..UptoSaid'. A law counts once. -/
mutual
def uptoBulk {H : Type} : DataW H → Nat
  | .lit (.string bytes) => bytes.length + 1
  | .lit _ => 1
  | .nil => 1
  | .ptr d => uptoBulk d + 1
  | .slice elems spare => uptoBulkAll elems + uptoBulkAll spare + 1
  | .agg parts => uptoBulkAll parts + 1
  | .iface _ d => uptoBulk d + 1
  | .map entries => uptoBulkEntries entries + 1
  | .held _ => 1
def uptoBulkAll {H : Type} : List (DataW H) → Nat
  | [] => 0
  | d :: r => uptoBulk d + uptoBulkAll r
def uptoBulkEntries {H : Type} : List (Lit × DataW H) → Nat
  | [] => 0
  | x :: r => uptoBulkEntry x + uptoBulkEntries r
def uptoBulkEntry {H : Type} : Lit × DataW H → Nat
  | (.string bytes, d) => bytes.length + uptoBulk d + 1
  | (_, d) => uptoBulk d + 1
 end
def uptoSmall : (H : Type) → List (DataW H) → Bool := fun _ ds => decide (uptoBulkAll ds ≤ 1048576)
def OpenSpec.upto (s : _root_.Go.ChangeSpec) : _root_.Go.OpenSpec := { _root_.Go.OpenSpec.ofChange s with cond := some uptoSmall }

/-- 'signalbenchlaw09.CaptureChecks', WHERE WHAT IT READS IS OF BULK AT MOST 1048576: true; the input reads as it did. -/
def captureChecksUptoRow : OpenClaim := { program := "yteafkdadpdofjaa", sum := "cf3cf4d2890d6146ebba87cac34ab33f7f26522ec403ac74294eae8169c248c3", func := "signalbench/signalbenchlaw09.CaptureChecks", spec := "captureChecks", apart := false, narrowed := true }
def CaptureChecksUptoSaid : Prop := captureChecksUptoRow.holds Try.pinned (OpenSpec.upto captureChecksSpec)

/-- 'signalbenchlaw09.CaptureMakes', WHERE WHAT IT READS IS OF BULK AT MOST 1048576: true; the input reads as it did. -/
def captureMakesUptoRow : OpenClaim := { program := "yteafkdadpdofjaa", sum := "cf3cf4d2890d6146ebba87cac34ab33f7f26522ec403ac74294eae8169c248c3", func := "signalbench/signalbenchlaw09.CaptureMakes", spec := "captureMakes", apart := false, narrowed := true }
def CaptureMakesUptoSaid : Prop := captureMakesUptoRow.holds Try.pinned (OpenSpec.upto captureMakesSpec)

/-- 'signalbenchlaw09.CaptureEdges', WHERE WHAT IT READS IS OF BULK AT MOST 1048576: true; the input reads as it did. -/
def captureEdgesUptoRow : OpenClaim := { program := "yteafkdadpdofjaa", sum := "cf3cf4d2890d6146ebba87cac34ab33f7f26522ec403ac74294eae8169c248c3", func := "signalbench/signalbenchlaw09.CaptureEdges", spec := "captureEdges", apart := false, narrowed := true }
def CaptureEdgesUptoSaid : Prop := captureEdgesUptoRow.holds Try.pinned (OpenSpec.upto captureEdgesSpec)

/-- 'signalbenchlaw09.CaptureParts', WHERE WHAT IT READS IS OF BULK AT MOST 1048576: true; the input reads as it did. -/
def capturePartsUptoRow : OpenClaim := { program := "yteafkdadpdofjaa", sum := "cf3cf4d2890d6146ebba87cac34ab33f7f26522ec403ac74294eae8169c248c3", func := "signalbench/signalbenchlaw09.CaptureParts", spec := "captureParts", apart := false, narrowed := true }
def CapturePartsUptoSaid : Prop := capturePartsUptoRow.holds Try.pinned (OpenSpec.upto capturePartsSpec)

/-- 'signalbenchlaw09.CaptureSame', WHERE WHAT IT READS IS OF BULK AT MOST 1048576: true; the input reads as it did. -/
def captureSameUptoRow : OpenClaim := { program := "yteafkdadpdofjaa", sum := "cf3cf4d2890d6146ebba87cac34ab33f7f26522ec403ac74294eae8169c248c3", func := "signalbench/signalbenchlaw09.CaptureSame", spec := "captureSame", apart := false, narrowed := true }
def CaptureSameUptoSaid : Prop := captureSameUptoRow.holds Try.pinned (OpenSpec.upto captureSameSpec)

/-- 'signalbenchlaw09.CaptureBuilds', WHERE WHAT IT READS IS OF BULK AT MOST 1048576: true; the input reads as it did. -/
def captureBuildsUptoRow : OpenClaim := { program := "yteafkdadpdofjaa", sum := "cf3cf4d2890d6146ebba87cac34ab33f7f26522ec403ac74294eae8169c248c3", func := "signalbench/signalbenchlaw09.CaptureBuilds", spec := "captureBuilds", apart := false, narrowed := true }
def CaptureBuildsUptoSaid : Prop := captureBuildsUptoRow.holds Try.pinned (OpenSpec.upto captureBuildsSpec)

/-- 'signalbenchlaw09.CaptureReads', WHERE WHAT IT READS IS OF BULK AT MOST 1048576: true; the input reads as it did. -/
def captureReadsUptoRow : OpenClaim := { program := "yteafkdadpdofjaa", sum := "cf3cf4d2890d6146ebba87cac34ab33f7f26522ec403ac74294eae8169c248c3", func := "signalbench/signalbenchlaw09.CaptureReads", spec := "captureReads", apart := false, narrowed := true }
def CaptureReadsUptoSaid : Prop := captureReadsUptoRow.holds Try.pinned (OpenSpec.upto captureReadsSpec)

end Rows
end Go.Proofs.Yteafkdadpdofjaa
