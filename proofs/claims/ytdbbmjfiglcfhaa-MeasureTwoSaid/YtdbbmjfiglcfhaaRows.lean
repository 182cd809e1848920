/-
  No cell of these rows narrows 'for every input' (looked for: loops, veiled, ifaces, maps, wideKeys, modest, calm, conditions, laid).
  DERIVED. THE GIVEN ROWS OF THIS SEAT. 6 by the template 'for every input the law returns true; each argument reads behind the call as it read before'; 0 by the template 'total and deterministic' (their statements: YtdbbmjfiglcfhaaTotals.lean).
  GIVEN WITH THE SEED: the statements are not yours to turn. If you find one false, say at which input.
  Laid BY PROGRAM, IN A SANDBOX (cutbox-rows.mjs): the forced cells as the released guide's own fill.sh prints them over the translation 8af0c4ab69f3c027… (all of the seat's roots in one cut). By AI agents, Wed Nov 11 2026. No macro, syntax, notation, axiom, sorry.
-/
import Derived.Test.YtdbbmjfiglcfhaaChecked
import GoSem.Claim
import GoSem.ClaimJoined
import GoSem.ClaimMapViews
import Derived.JoinedTies
import Derived.KernelRfl
namespace Go.Proofs.Ytdbbmjfiglcfhaa
/- THE CELL 'sum', in the pinned program and in every row, IS THE sha256 OF THE DUMP (.gsa) THAT YtdbbmjfiglcfhaaProg.lean LOADS. Nothing in Lean hashes anything: it is a label: what it is worth is what the hold of that sum in a sandbox is worth. -/
noncomputable def Try.pinned : Pinned := { name := "ytdbbmjfiglcfhaa", sum := "8af0c4ab69f3c027080874720a733f413f9d477965c9f5034caa7e7145f6a4f5", checked := Try.checked }
namespace Rows
def none {H : Type} : Left H := { results := [], args := [] }

/-- 'signalbenchlaw48.MeasureOne': WHATEVER THE INPUT: true; the input reads as it did. -/
def measureOneSpec : ChangeSpec := { name := "measureOne", fn := fun _ => fun
  | [d1, d2] => { results := [.lit (.bool true)], args := [d1, d2] }
  | _ => none }
def measureOneRow : OpenClaim := { program := "ytdbbmjfiglcfhaa", sum := "8af0c4ab69f3c027080874720a733f413f9d477965c9f5034caa7e7145f6a4f5", func := "signalbench/signalbenchlaw48.MeasureOne", spec := "measureOne", recurses := true, apart := false }
def MeasureOneSaid : Prop := measureOneRow.holds Try.pinned (OpenSpec.ofChange measureOneSpec)

/-- ITS FALSE NEIGHBOUR: 'it returns false'. Refute it at one input. -/
def measureOneWrong : ChangeSpec := { name := "measureOne", fn := fun _ => fun
  | [d1, d2] => { results := [.lit (.bool false)], args := [d1, d2] }
  | _ => none }
def MeasureOneWrongFalsely : Prop := measureOneRow.holds Try.pinned (OpenSpec.ofChange measureOneWrong)

/-- 'signalbenchlaw48.MeasurePulses': WHATEVER THE INPUT: true; the input reads as it did. -/
def measurePulsesSpec : ChangeSpec := { name := "measurePulses", fn := fun _ => fun
  | [d] => { results := [.lit (.bool true)], args := [d] }
  | _ => none }
def measurePulsesRow : OpenClaim := { program := "ytdbbmjfiglcfhaa", sum := "8af0c4ab69f3c027080874720a733f413f9d477965c9f5034caa7e7145f6a4f5", func := "signalbench/signalbenchlaw48.MeasurePulses", spec := "measurePulses", apart := false }
def MeasurePulsesSaid : Prop := measurePulsesRow.holds Try.pinned (OpenSpec.ofChange measurePulsesSpec)

/-- ITS FALSE NEIGHBOUR: 'it returns false'. Refute it at one input. -/
def measurePulsesWrong : ChangeSpec := { name := "measurePulses", fn := fun _ => fun
  | [d] => { results := [.lit (.bool false)], args := [d] }
  | _ => none }
def MeasurePulsesWrongFalsely : Prop := measurePulsesRow.holds Try.pinned (OpenSpec.ofChange measurePulsesWrong)

/-- 'signalbenchlaw48.MeasureLists': WHATEVER THE INPUT: true; the input reads as it did. -/
def measureListsSpec : ChangeSpec := { name := "measureLists", fn := fun _ => fun
  | [d1, d2] => { results := [.lit (.bool true)], args := [d1, d2] }
  | _ => none }
def measureListsRow : OpenClaim := { program := "ytdbbmjfiglcfhaa", sum := "8af0c4ab69f3c027080874720a733f413f9d477965c9f5034caa7e7145f6a4f5", func := "signalbench/signalbenchlaw48.MeasureLists", spec := "measureLists", recurses := true, apart := false }
def MeasureListsSaid : Prop := measureListsRow.holds Try.pinned (OpenSpec.ofChange measureListsSpec)

/-- ITS FALSE NEIGHBOUR: 'it returns false'. Refute it at one input. -/
def measureListsWrong : ChangeSpec := { name := "measureLists", fn := fun _ => fun
  | [d1, d2] => { results := [.lit (.bool false)], args := [d1, d2] }
  | _ => none }
def MeasureListsWrongFalsely : Prop := measureListsRow.holds Try.pinned (OpenSpec.ofChange measureListsWrong)

/-- 'signalbenchlaw48.MeasureWorst': WHATEVER THE INPUT: true; the input reads as it did. -/
def measureWorstSpec : ChangeSpec := { name := "measureWorst", fn := fun _ => fun
  | [d1, d2, d3, d4] => { results := [.lit (.bool true)], args := [d1, d2, d3, d4] }
  | _ => none }
def measureWorstRow : OpenClaim := { program := "ytdbbmjfiglcfhaa", sum := "8af0c4ab69f3c027080874720a733f413f9d477965c9f5034caa7e7145f6a4f5", func := "signalbench/signalbenchlaw48.MeasureWorst", spec := "measureWorst", unfollowed := true, recurses := true, apart := false }
def MeasureWorstSaid : Prop := measureWorstRow.holds Try.pinned (OpenSpec.ofChange measureWorstSpec)

/-- ITS FALSE NEIGHBOUR: 'it returns false'. Refute it at one input. -/
def measureWorstWrong : ChangeSpec := { name := "measureWorst", fn := fun _ => fun
  | [d1, d2, d3, d4] => { results := [.lit (.bool false)], args := [d1, d2, d3, d4] }
  | _ => none }
def MeasureWorstWrongFalsely : Prop := measureWorstRow.holds Try.pinned (OpenSpec.ofChange measureWorstWrong)

/-- 'signalbenchlaw48.MeasureSetup': WHATEVER THE INPUT: true; the input reads as it did. -/
def measureSetupSpec : ChangeSpec := { name := "measureSetup", fn := fun _ => fun
  | [d1, d2, d3] => { results := [.lit (.bool true)], args := [d1, d2, d3] }
  | _ => none }
def measureSetupRow : OpenClaim := { program := "ytdbbmjfiglcfhaa", sum := "8af0c4ab69f3c027080874720a733f413f9d477965c9f5034caa7e7145f6a4f5", func := "signalbench/signalbenchlaw48.MeasureSetup", spec := "measureSetup", unfollowed := true, recurses := true, apart := false }
def MeasureSetupSaid : Prop := measureSetupRow.holds Try.pinned (OpenSpec.ofChange measureSetupSpec)

/-- ITS FALSE NEIGHBOUR: 'it returns false'. Refute it at one input. -/
def measureSetupWrong : ChangeSpec := { name := "measureSetup", fn := fun _ => fun
  | [d1, d2, d3] => { results := [.lit (.bool false)], args := [d1, d2, d3] }
  | _ => none }
def MeasureSetupWrongFalsely : Prop := measureSetupRow.holds Try.pinned (OpenSpec.ofChange measureSetupWrong)

/-- 'signalbenchlaw48.MeasureTwo': WHATEVER THE INPUT: true; the input reads as it did. -/
def measureTwoSpec : ChangeSpec := { name := "measureTwo", fn := fun _ => fun
  | [d1, d2, d3] => { results := [.lit (.bool true)], args := [d1, d2, d3] }
  | _ => none }
def measureTwoRow : OpenClaim := { program := "ytdbbmjfiglcfhaa", sum := "8af0c4ab69f3c027080874720a733f413f9d477965c9f5034caa7e7145f6a4f5", func := "signalbench/signalbenchlaw48.MeasureTwo", spec := "measureTwo", unfollowed := true, recurses := true, apart := false }
def MeasureTwoSaid : Prop := measureTwoRow.holds Try.pinned (OpenSpec.ofChange measureTwoSpec)

/-- ITS FALSE NEIGHBOUR: 'it returns false'. Refute it at one input. -/
def measureTwoWrong : ChangeSpec := { name := "measureTwo", fn := fun _ => fun
  | [d1, d2, d3] => { results := [.lit (.bool false)], args := [d1, d2, d3] }
  | _ => none }
def MeasureTwoWrongFalsely : Prop := measureTwoRow.holds Try.pinned (OpenSpec.ofChange measureTwoWrong)

/- THE SECOND FORM. 'bulk': how many values and letters a reading holds, each counted each time it is reached (what is shared counts as often as it is met; a slice's spare places count too). A statement '..UptoSaid' is the law's where the arguments, and the package variables that the reading takes, are together of bulk at most 1048576: NARROWER than '..Said'. Prove '..Said' where nothing that the law and all that it calls make is longer than what came in: it says more and counts as full. Else prove '..UptoSaid'. A law counts once. -/
mutual
def uptoBulk {H : Type} : DataW H → Nat
  | .lit (.string bytes) => bytes.length + 1
  | .lit _ => 1
  | .nil => 1
  | .ptr d => uptoBulk d + 1
  | .slice elems spare => uptoBulkAll elems + uptoBulkAll spare + 1
  | .agg parts => uptoBulkAll parts + 1
  | .iface _ d => uptoBulk d + 1
  | .map entries => uptoBulkEntries entries + 1
  | .held _ => 1
def uptoBulkAll {H : Type} : List (DataW H) → Nat
  | [] => 0
  | d :: r => uptoBulk d + uptoBulkAll r
def uptoBulkEntries {H : Type} : List (Lit × DataW H) → Nat
  | [] => 0
  | x :: r => uptoBulkEntry x + uptoBulkEntries r
def uptoBulkEntry {H : Type} : Lit × DataW H → Nat
  | (.string bytes, d) => bytes.length + uptoBulk d + 1
  | (_, d) => uptoBulk d + 1
 end
def uptoSmall : (H : Type) → List (DataW H) → Bool := fun _ ds => decide (uptoBulkAll ds ≤ 1048576)
def OpenSpec.upto (s : _root_.Go.ChangeSpec) : _root_.Go.OpenSpec := { _root_.Go.OpenSpec.ofChange s with cond := some uptoSmall }

/-- 'signalbenchlaw48.MeasureOne', WHERE WHAT IT READS IS OF BULK AT MOST 1048576: true; the input reads as it did. -/
def measureOneUptoRow : OpenClaim := { program := "ytdbbmjfiglcfhaa", sum := "8af0c4ab69f3c027080874720a733f413f9d477965c9f5034caa7e7145f6a4f5", func := "signalbench/signalbenchlaw48.MeasureOne", spec := "measureOne", recurses := true, apart := false, narrowed := true }
def MeasureOneUptoSaid : Prop := measureOneUptoRow.holds Try.pinned (OpenSpec.upto measureOneSpec)

/-- 'signalbenchlaw48.MeasurePulses', WHERE WHAT IT READS IS OF BULK AT MOST 1048576: true; the input reads as it did. -/
def measurePulsesUptoRow : OpenClaim := { program := "ytdbbmjfiglcfhaa", sum := "8af0c4ab69f3c027080874720a733f413f9d477965c9f5034caa7e7145f6a4f5", func := "signalbench/signalbenchlaw48.MeasurePulses", spec := "measurePulses", apart := false, narrowed := true }
def MeasurePulsesUptoSaid : Prop := measurePulsesUptoRow.holds Try.pinned (OpenSpec.upto measurePulsesSpec)

/-- 'signalbenchlaw48.MeasureLists', WHERE WHAT IT READS IS OF BULK AT MOST 1048576: true; the input reads as it did. -/
def measureListsUptoRow : OpenClaim := { program := "ytdbbmjfiglcfhaa", sum := "8af0c4ab69f3c027080874720a733f413f9d477965c9f5034caa7e7145f6a4f5", func := "signalbench/signalbenchlaw48.MeasureLists", spec := "measureLists", recurses := true, apart := false, narrowed := true }
def MeasureListsUptoSaid : Prop := measureListsUptoRow.holds Try.pinned (OpenSpec.upto measureListsSpec)

/-- 'signalbenchlaw48.MeasureWorst', WHERE WHAT IT READS IS OF BULK AT MOST 1048576: true; the input reads as it did. -/
def measureWorstUptoRow : OpenClaim := { program := "ytdbbmjfiglcfhaa", sum := "8af0c4ab69f3c027080874720a733f413f9d477965c9f5034caa7e7145f6a4f5", func := "signalbench/signalbenchlaw48.MeasureWorst", spec := "measureWorst", unfollowed := true, recurses := true, apart := false, narrowed := true }
def MeasureWorstUptoSaid : Prop := measureWorstUptoRow.holds Try.pinned (OpenSpec.upto measureWorstSpec)

/-- 'signalbenchlaw48.MeasureSetup', WHERE WHAT IT READS IS OF BULK AT MOST 1048576: true; the input reads as it did. -/
def measureSetupUptoRow : OpenClaim := { program := "ytdbbmjfiglcfhaa", sum := "8af0c4ab69f3c027080874720a733f413f9d477965c9f5034caa7e7145f6a4f5", func := "signalbench/signalbenchlaw48.MeasureSetup", spec := "measureSetup", unfollowed := true, recurses := true, apart := false, narrowed := true }
def MeasureSetupUptoSaid : Prop := measureSetupUptoRow.holds Try.pinned (OpenSpec.upto measureSetupSpec)

/-- 'signalbenchlaw48.MeasureTwo', WHERE WHAT IT READS IS OF BULK AT MOST 1048576: true; the input reads as it did. -/
def measureTwoUptoRow : OpenClaim := { program := "ytdbbmjfiglcfhaa", sum := "8af0c4ab69f3c027080874720a733f413f9d477965c9f5034caa7e7145f6a4f5", func := "signalbench/signalbenchlaw48.MeasureTwo", spec := "measureTwo", unfollowed := true, recurses := true, apart := false, narrowed := true }
def MeasureTwoUptoSaid : Prop := measureTwoUptoRow.holds Try.pinned (OpenSpec.upto measureTwoSpec)

end Rows
end Go.Proofs.Ytdbbmjfiglcfhaa
