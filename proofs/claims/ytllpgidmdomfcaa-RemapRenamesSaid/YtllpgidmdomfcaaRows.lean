/-
  No cell of these rows narrows 'for every input' (looked for: loops, veiled, ifaces, maps, wideKeys, modest, calm, conditions, laid).
  DERIVED. THE GIVEN ROWS OF THIS SEAT. 7 by the template 'for every input the law returns true; each argument reads behind the call as it read before'; 0 by the template 'total and deterministic' (their statements: YtllpgidmdomfcaaTotals.lean).
  GIVEN WITH THE SEED: the statements are not yours to turn. If you find one false, say at which input.
  Laid BY PROGRAM, IN A SANDBOX (cutbox-rows.mjs): the forced cells as the released guide's own fill.sh prints them over the translation a010c089aed5e4cc… (all of the seat's roots in one cut). By AI agents, Wed Nov 11 2026. No macro, syntax, notation, axiom, sorry.
-/
import Derived.Test.YtllpgidmdomfcaaChecked
import GoSem.Claim
import GoSem.ClaimJoined
import GoSem.ClaimMapViews
import Derived.JoinedTies
import Derived.KernelRfl
namespace Go.Proofs.Ytllpgidmdomfcaa
/- THE CELL 'sum', in the pinned program and in every row, IS THE sha256 OF THE DUMP (.gsa) THAT YtllpgidmdomfcaaProg.lean LOADS. Nothing in Lean hashes anything: it is a label: what it is worth is what the hold of that sum in a sandbox is worth. -/
noncomputable def Try.pinned : Pinned := { name := "ytllpgidmdomfcaa", sum := "a010c089aed5e4ccd35cd292e04f4845b22522de32fd91f3ad5606c0cc0fc814", checked := Try.checked }
namespace Rows
def none {H : Type} : Left H := { results := [], args := [] }

/-- 'signalbenchlaw12.RemapMerges': WHATEVER THE INPUT: true; the input reads as it did. -/
def remapMergesSpec : ChangeSpec := { name := "remapMerges", fn := fun _ => fun
  | [d1, d2] => { results := [.lit (.bool true)], args := [d1, d2] }
  | _ => none }
def remapMergesRow : OpenClaim := { program := "ytllpgidmdomfcaa", sum := "a010c089aed5e4ccd35cd292e04f4845b22522de32fd91f3ad5606c0cc0fc814", func := "signalbench/signalbenchlaw12.RemapMerges", spec := "remapMerges", apart := false }
def RemapMergesSaid : Prop := remapMergesRow.holds Try.pinned (OpenSpec.ofChange remapMergesSpec)

/-- ITS FALSE NEIGHBOUR: 'it returns false'. Refute it at one input. -/
def remapMergesWrong : ChangeSpec := { name := "remapMerges", fn := fun _ => fun
  | [d1, d2] => { results := [.lit (.bool false)], args := [d1, d2] }
  | _ => none }
def RemapMergesWrongFalsely : Prop := remapMergesRow.holds Try.pinned (OpenSpec.ofChange remapMergesWrong)

/-- 'signalbenchlaw12.RemapDelays': WHATEVER THE INPUT: true; the input reads as it did. -/
def remapDelaysSpec : ChangeSpec := { name := "remapDelays", fn := fun _ => fun
  | [d1, d2, d3] => { results := [.lit (.bool true)], args := [d1, d2, d3] }
  | _ => none }
def remapDelaysRow : OpenClaim := { program := "ytllpgidmdomfcaa", sum := "a010c089aed5e4ccd35cd292e04f4845b22522de32fd91f3ad5606c0cc0fc814", func := "signalbench/signalbenchlaw12.RemapDelays", spec := "remapDelays", apart := false }
def RemapDelaysSaid : Prop := remapDelaysRow.holds Try.pinned (OpenSpec.ofChange remapDelaysSpec)

/-- ITS FALSE NEIGHBOUR: 'it returns false'. Refute it at one input. -/
def remapDelaysWrong : ChangeSpec := { name := "remapDelays", fn := fun _ => fun
  | [d1, d2, d3] => { results := [.lit (.bool false)], args := [d1, d2, d3] }
  | _ => none }
def RemapDelaysWrongFalsely : Prop := remapDelaysRow.holds Try.pinned (OpenSpec.ofChange remapDelaysWrong)

/-- 'signalbenchlaw12.RemapRenames': WHATEVER THE INPUT: true; the input reads as it did. -/
def remapRenamesSpec : ChangeSpec := { name := "remapRenames", fn := fun _ => fun
  | [d1, d2, d3] => { results := [.lit (.bool true)], args := [d1, d2, d3] }
  | _ => none }
def remapRenamesRow : OpenClaim := { program := "ytllpgidmdomfcaa", sum := "a010c089aed5e4ccd35cd292e04f4845b22522de32fd91f3ad5606c0cc0fc814", func := "signalbench/signalbenchlaw12.RemapRenames", spec := "remapRenames", apart := false }
def RemapRenamesSaid : Prop := remapRenamesRow.holds Try.pinned (OpenSpec.ofChange remapRenamesSpec)

/-- ITS FALSE NEIGHBOUR: 'it returns false'. Refute it at one input. -/
def remapRenamesWrong : ChangeSpec := { name := "remapRenames", fn := fun _ => fun
  | [d1, d2, d3] => { results := [.lit (.bool false)], args := [d1, d2, d3] }
  | _ => none }
def RemapRenamesWrongFalsely : Prop := remapRenamesRow.holds Try.pinned (OpenSpec.ofChange remapRenamesWrong)

/-- 'signalbenchlaw12.RemapSelects': WHATEVER THE INPUT: true; the input reads as it did. -/
def remapSelectsSpec : ChangeSpec := { name := "remapSelects", fn := fun _ => fun
  | [d1, d2] => { results := [.lit (.bool true)], args := [d1, d2] }
  | _ => none }
def remapSelectsRow : OpenClaim := { program := "ytllpgidmdomfcaa", sum := "a010c089aed5e4ccd35cd292e04f4845b22522de32fd91f3ad5606c0cc0fc814", func := "signalbench/signalbenchlaw12.RemapSelects", spec := "remapSelects", apart := false }
def RemapSelectsSaid : Prop := remapSelectsRow.holds Try.pinned (OpenSpec.ofChange remapSelectsSpec)

/-- ITS FALSE NEIGHBOUR: 'it returns false'. Refute it at one input. -/
def remapSelectsWrong : ChangeSpec := { name := "remapSelects", fn := fun _ => fun
  | [d1, d2] => { results := [.lit (.bool false)], args := [d1, d2] }
  | _ => none }
def RemapSelectsWrongFalsely : Prop := remapSelectsRow.holds Try.pinned (OpenSpec.ofChange remapSelectsWrong)

/-- 'signalbenchlaw12.RemapComposes': WHATEVER THE INPUT: true; the input reads as it did. -/
def remapComposesSpec : ChangeSpec := { name := "remapComposes", fn := fun _ => fun
  | [d1, d2, d3] => { results := [.lit (.bool true)], args := [d1, d2, d3] }
  | _ => none }
def remapComposesRow : OpenClaim := { program := "ytllpgidmdomfcaa", sum := "a010c089aed5e4ccd35cd292e04f4845b22522de32fd91f3ad5606c0cc0fc814", func := "signalbench/signalbenchlaw12.RemapComposes", spec := "remapComposes", apart := false }
def RemapComposesSaid : Prop := remapComposesRow.holds Try.pinned (OpenSpec.ofChange remapComposesSpec)

/-- ITS FALSE NEIGHBOUR: 'it returns false'. Refute it at one input. -/
def remapComposesWrong : ChangeSpec := { name := "remapComposes", fn := fun _ => fun
  | [d1, d2, d3] => { results := [.lit (.bool false)], args := [d1, d2, d3] }
  | _ => none }
def RemapComposesWrongFalsely : Prop := remapComposesRow.holds Try.pinned (OpenSpec.ofChange remapComposesWrong)

/-- 'signalbenchlaw12.RemapTimes': WHATEVER THE INPUT: true; the input reads as it did. -/
def remapTimesSpec : ChangeSpec := { name := "remapTimes", fn := fun _ => fun
  | [d1, d2, d3] => { results := [.lit (.bool true)], args := [d1, d2, d3] }
  | _ => none }
def remapTimesRow : OpenClaim := { program := "ytllpgidmdomfcaa", sum := "a010c089aed5e4ccd35cd292e04f4845b22522de32fd91f3ad5606c0cc0fc814", func := "signalbench/signalbenchlaw12.RemapTimes", spec := "remapTimes", recurses := true, apart := false }
def RemapTimesSaid : Prop := remapTimesRow.holds Try.pinned (OpenSpec.ofChange remapTimesSpec)

/-- ITS FALSE NEIGHBOUR: 'it returns false'. Refute it at one input. -/
def remapTimesWrong : ChangeSpec := { name := "remapTimes", fn := fun _ => fun
  | [d1, d2, d3] => { results := [.lit (.bool false)], args := [d1, d2, d3] }
  | _ => none }
def RemapTimesWrongFalsely : Prop := remapTimesRow.holds Try.pinned (OpenSpec.ofChange remapTimesWrong)

/-- 'signalbenchlaw12.RemapScales': WHATEVER THE INPUT: true; the input reads as it did. -/
def remapScalesSpec : ChangeSpec := { name := "remapScales", fn := fun _ => fun
  | [d1, d2, d3] => { results := [.lit (.bool true)], args := [d1, d2, d3] }
  | _ => none }
def remapScalesRow : OpenClaim := { program := "ytllpgidmdomfcaa", sum := "a010c089aed5e4ccd35cd292e04f4845b22522de32fd91f3ad5606c0cc0fc814", func := "signalbench/signalbenchlaw12.RemapScales", spec := "remapScales", apart := false }
def RemapScalesSaid : Prop := remapScalesRow.holds Try.pinned (OpenSpec.ofChange remapScalesSpec)

/-- ITS FALSE NEIGHBOUR: 'it returns false'. Refute it at one input. -/
def remapScalesWrong : ChangeSpec := { name := "remapScales", fn := fun _ => fun
  | [d1, d2, d3] => { results := [.lit (.bool false)], args := [d1, d2, d3] }
  | _ => none }
def RemapScalesWrongFalsely : Prop := remapScalesRow.holds Try.pinned (OpenSpec.ofChange remapScalesWrong)

/- THE SECOND FORM. 'bulk': how many values and letters a reading holds, each counted each time it is reached (what is shared counts as often as it is met; a slice's spare places count too). A statement '..UptoSaid' is the law's where the arguments, and the package variables that the reading takes, are together of bulk at most 1048576: NARROWER than '..Said'. Prove '..Said' where nothing that the law and all that it calls make is longer than what came in: it says more and counts as full. Else prove '..UptoSaid'. A law counts once. -/
mutual
def uptoBulk {H : Type} : DataW H → Nat
  | .lit (.string bytes) => bytes.length + 1
  | .lit _ => 1
  | .nil => 1
  | .ptr d => uptoBulk d + 1
  | .slice elems spare => uptoBulkAll elems + uptoBulkAll spare + 1
  | .agg parts => uptoBulkAll parts + 1
  | .iface _ d => uptoBulk d + 1
  | .map entries => uptoBulkEntries entries + 1
  | .held _ => 1
def uptoBulkAll {H : Type} : List (DataW H) → Nat
  | [] => 0
  | d :: r => uptoBulk d + uptoBulkAll r
def uptoBulkEntries {H : Type} : List (Lit × DataW H) → Nat
  | [] => 0
  | x :: r => uptoBulkEntry x + uptoBulkEntries r
def uptoBulkEntry {H : Type} : Lit × DataW H → Nat
  | (.string bytes, d) => bytes.length + uptoBulk d + 1
  | (_, d) => uptoBulk d + 1
 end
def uptoSmall : (H : Type) → List (DataW H) → Bool := fun _ ds => decide (uptoBulkAll ds ≤ 1048576)
def OpenSpec.upto (s : _root_.Go.ChangeSpec) : _root_.Go.OpenSpec := { _root_.Go.OpenSpec.ofChange s with cond := some uptoSmall }

/-- 'signalbenchlaw12.RemapMerges', WHERE WHAT IT READS IS OF BULK AT MOST 1048576: true; the input reads as it did. -/
def remapMergesUptoRow : OpenClaim := { program := "ytllpgidmdomfcaa", sum := "a010c089aed5e4ccd35cd292e04f4845b22522de32fd91f3ad5606c0cc0fc814", func := "signalbench/signalbenchlaw12.RemapMerges", spec := "remapMerges", apart := false, narrowed := true }
def RemapMergesUptoSaid : Prop := remapMergesUptoRow.holds Try.pinned (OpenSpec.upto remapMergesSpec)

/-- 'signalbenchlaw12.RemapDelays', WHERE WHAT IT READS IS OF BULK AT MOST 1048576: true; the input reads as it did. -/
def remapDelaysUptoRow : OpenClaim := { program := "ytllpgidmdomfcaa", sum := "a010c089aed5e4ccd35cd292e04f4845b22522de32fd91f3ad5606c0cc0fc814", func := "signalbench/signalbenchlaw12.RemapDelays", spec := "remapDelays", apart := false, narrowed := true }
def RemapDelaysUptoSaid : Prop := remapDelaysUptoRow.holds Try.pinned (OpenSpec.upto remapDelaysSpec)

/-- 'signalbenchlaw12.RemapRenames', WHERE WHAT IT READS IS OF BULK AT MOST 1048576: true; the input reads as it did. -/
def remapRenamesUptoRow : OpenClaim := { program := "ytllpgidmdomfcaa", sum := "a010c089aed5e4ccd35cd292e04f4845b22522de32fd91f3ad5606c0cc0fc814", func := "signalbench/signalbenchlaw12.RemapRenames", spec := "remapRenames", apart := false, narrowed := true }
def RemapRenamesUptoSaid : Prop := remapRenamesUptoRow.holds Try.pinned (OpenSpec.upto remapRenamesSpec)

/-- 'signalbenchlaw12.RemapSelects', WHERE WHAT IT READS IS OF BULK AT MOST 1048576: true; the input reads as it did. -/
def remapSelectsUptoRow : OpenClaim := { program := "ytllpgidmdomfcaa", sum := "a010c089aed5e4ccd35cd292e04f4845b22522de32fd91f3ad5606c0cc0fc814", func := "signalbench/signalbenchlaw12.RemapSelects", spec := "remapSelects", apart := false, narrowed := true }
def RemapSelectsUptoSaid : Prop := remapSelectsUptoRow.holds Try.pinned (OpenSpec.upto remapSelectsSpec)

/-- 'signalbenchlaw12.RemapComposes', WHERE WHAT IT READS IS OF BULK AT MOST 1048576: true; the input reads as it did. -/
def remapComposesUptoRow : OpenClaim := { program := "ytllpgidmdomfcaa", sum := "a010c089aed5e4ccd35cd292e04f4845b22522de32fd91f3ad5606c0cc0fc814", func := "signalbench/signalbenchlaw12.RemapComposes", spec := "remapComposes", apart := false, narrowed := true }
def RemapComposesUptoSaid : Prop := remapComposesUptoRow.holds Try.pinned (OpenSpec.upto remapComposesSpec)

/-- 'signalbenchlaw12.RemapTimes', WHERE WHAT IT READS IS OF BULK AT MOST 1048576: true; the input reads as it did. -/
def remapTimesUptoRow : OpenClaim := { program := "ytllpgidmdomfcaa", sum := "a010c089aed5e4ccd35cd292e04f4845b22522de32fd91f3ad5606c0cc0fc814", func := "signalbench/signalbenchlaw12.RemapTimes", spec := "remapTimes", recurses := true, apart := false, narrowed := true }
def RemapTimesUptoSaid : Prop := remapTimesUptoRow.holds Try.pinned (OpenSpec.upto remapTimesSpec)

/-- 'signalbenchlaw12.RemapScales', WHERE WHAT IT READS IS OF BULK AT MOST 1048576: true; the input reads as it did. -/
def remapScalesUptoRow : OpenClaim := { program := "ytllpgidmdomfcaa", sum := "a010c089aed5e4ccd35cd292e04f4845b22522de32fd91f3ad5606c0cc0fc814", func := "signalbench/signalbenchlaw12.RemapScales", spec := "remapScales", apart := false, narrowed := true }
def RemapScalesUptoSaid : Prop := remapScalesUptoRow.holds Try.pinned (OpenSpec.upto remapScalesSpec)

end Rows
end Go.Proofs.Ytllpgidmdomfcaa
