/-
  No cell of these rows narrows 'for every input' (looked for: loops, veiled, ifaces, maps, wideKeys, modest, calm, conditions, laid).
  DERIVED. THE GIVEN ROWS OF THIS SEAT. 8 by the template 'for every input the law returns true; each argument reads behind the call as it read before'; 0 by the template 'total and deterministic' (their statements: YtakjoggjggcdpaaTotals.lean).
  GIVEN WITH THE SEED: the statements are not yours to turn. If you find one false, say at which input.
  Laid BY PROGRAM, IN A SANDBOX (cutbox-rows.mjs): the forced cells as the released guide's own fill.sh prints them over the translation 6dfc6eba4baecb24… (all of the seat's roots in one cut). By AI agents, Wed Nov 11 2026. No macro, syntax, notation, axiom, sorry.
-/
import Derived.Test.YtakjoggjggcdpaaChecked
import GoSem.Claim
import GoSem.ClaimJoined
import GoSem.ClaimMapViews
import Derived.JoinedTies
import Derived.KernelRfl
namespace Go.Proofs.Ytakjoggjggcdpaa
/- THE CELL 'sum', in the pinned program and in every row, IS THE sha256 OF THE DUMP (.gsa) THAT YtakjoggjggcdpaaProg.lean LOADS. Nothing in Lean hashes anything: it is a label: what it is worth is what the hold of that sum in a sandbox is worth. -/
noncomputable def Try.pinned : Pinned := { name := "ytakjoggjggcdpaa", sum := "6dfc6eba4baecb245410c3bce6a8fd533c06b649ee4a74c4fd98df1cfca0a90e", checked := Try.checked }
namespace Rows
def none {H : Type} : Left H := { results := [], args := [] }

/-- 'signalbenchlaw08.WaveEdges': WHATEVER THE INPUT: true; the input reads as it did. -/
def waveEdgesSpec : ChangeSpec := { name := "waveEdges", fn := fun _ => fun
  | [d] => { results := [.lit (.bool true)], args := [d] }
  | _ => none }
def waveEdgesRow : OpenClaim := { program := "ytakjoggjggcdpaa", sum := "6dfc6eba4baecb245410c3bce6a8fd533c06b649ee4a74c4fd98df1cfca0a90e", func := "signalbench/signalbenchlaw08.WaveEdges", spec := "waveEdges", apart := false }
def WaveEdgesSaid : Prop := waveEdgesRow.holds Try.pinned (OpenSpec.ofChange waveEdgesSpec)

/-- ITS FALSE NEIGHBOUR: 'it returns false'. Refute it at one input. -/
def waveEdgesWrong : ChangeSpec := { name := "waveEdges", fn := fun _ => fun
  | [d] => { results := [.lit (.bool false)], args := [d] }
  | _ => none }
def WaveEdgesWrongFalsely : Prop := waveEdgesRow.holds Try.pinned (OpenSpec.ofChange waveEdgesWrong)

/-- 'signalbenchlaw08.WaveReads': WHATEVER THE INPUT: true; the input reads as it did. -/
def waveReadsSpec : ChangeSpec := { name := "waveReads", fn := fun _ => fun
  | [d1, d2] => { results := [.lit (.bool true)], args := [d1, d2] }
  | _ => none }
def waveReadsRow : OpenClaim := { program := "ytakjoggjggcdpaa", sum := "6dfc6eba4baecb245410c3bce6a8fd533c06b649ee4a74c4fd98df1cfca0a90e", func := "signalbench/signalbenchlaw08.WaveReads", spec := "waveReads", apart := false }
def WaveReadsSaid : Prop := waveReadsRow.holds Try.pinned (OpenSpec.ofChange waveReadsSpec)

/-- ITS FALSE NEIGHBOUR: 'it returns false'. Refute it at one input. -/
def waveReadsWrong : ChangeSpec := { name := "waveReads", fn := fun _ => fun
  | [d1, d2] => { results := [.lit (.bool false)], args := [d1, d2] }
  | _ => none }
def WaveReadsWrongFalsely : Prop := waveReadsRow.holds Try.pinned (OpenSpec.ofChange waveReadsWrong)

/-- 'signalbenchlaw08.WaveMakes': WHATEVER THE INPUT: true; the input reads as it did. -/
def waveMakesSpec : ChangeSpec := { name := "waveMakes", fn := fun _ => fun
  | [d1, d2, d3] => { results := [.lit (.bool true)], args := [d1, d2, d3] }
  | _ => none }
def waveMakesRow : OpenClaim := { program := "ytakjoggjggcdpaa", sum := "6dfc6eba4baecb245410c3bce6a8fd533c06b649ee4a74c4fd98df1cfca0a90e", func := "signalbench/signalbenchlaw08.WaveMakes", spec := "waveMakes", apart := false }
def WaveMakesSaid : Prop := waveMakesRow.holds Try.pinned (OpenSpec.ofChange waveMakesSpec)

/-- ITS FALSE NEIGHBOUR: 'it returns false'. Refute it at one input. -/
def waveMakesWrong : ChangeSpec := { name := "waveMakes", fn := fun _ => fun
  | [d1, d2, d3] => { results := [.lit (.bool false)], args := [d1, d2, d3] }
  | _ => none }
def WaveMakesWrongFalsely : Prop := waveMakesRow.holds Try.pinned (OpenSpec.ofChange waveMakesWrong)

/-- 'signalbenchlaw08.WaveCleans': WHATEVER THE INPUT: true; the input reads as it did. -/
def waveCleansSpec : ChangeSpec := { name := "waveCleans", fn := fun _ => fun
  | [d] => { results := [.lit (.bool true)], args := [d] }
  | _ => none }
def waveCleansRow : OpenClaim := { program := "ytakjoggjggcdpaa", sum := "6dfc6eba4baecb245410c3bce6a8fd533c06b649ee4a74c4fd98df1cfca0a90e", func := "signalbench/signalbenchlaw08.WaveCleans", spec := "waveCleans", apart := false }
def WaveCleansSaid : Prop := waveCleansRow.holds Try.pinned (OpenSpec.ofChange waveCleansSpec)

/-- ITS FALSE NEIGHBOUR: 'it returns false'. Refute it at one input. -/
def waveCleansWrong : ChangeSpec := { name := "waveCleans", fn := fun _ => fun
  | [d] => { results := [.lit (.bool false)], args := [d] }
  | _ => none }
def WaveCleansWrongFalsely : Prop := waveCleansRow.holds Try.pinned (OpenSpec.ofChange waveCleansWrong)

/-- 'signalbenchlaw08.WaveKeeps': WHATEVER THE INPUT: true; the input reads as it did. -/
def waveKeepsSpec : ChangeSpec := { name := "waveKeeps", fn := fun _ => fun
  | [d1, d2] => { results := [.lit (.bool true)], args := [d1, d2] }
  | _ => none }
def waveKeepsRow : OpenClaim := { program := "ytakjoggjggcdpaa", sum := "6dfc6eba4baecb245410c3bce6a8fd533c06b649ee4a74c4fd98df1cfca0a90e", func := "signalbench/signalbenchlaw08.WaveKeeps", spec := "waveKeeps", apart := false }
def WaveKeepsSaid : Prop := waveKeepsRow.holds Try.pinned (OpenSpec.ofChange waveKeepsSpec)

/-- ITS FALSE NEIGHBOUR: 'it returns false'. Refute it at one input. -/
def waveKeepsWrong : ChangeSpec := { name := "waveKeeps", fn := fun _ => fun
  | [d1, d2] => { results := [.lit (.bool false)], args := [d1, d2] }
  | _ => none }
def WaveKeepsWrongFalsely : Prop := waveKeepsRow.holds Try.pinned (OpenSpec.ofChange waveKeepsWrong)

/-- 'signalbenchlaw08.WaveSlices': WHATEVER THE INPUT: true; the input reads as it did. -/
def waveSlicesSpec : ChangeSpec := { name := "waveSlices", fn := fun _ => fun
  | [d1, d2, d3] => { results := [.lit (.bool true)], args := [d1, d2, d3] }
  | _ => none }
def waveSlicesRow : OpenClaim := { program := "ytakjoggjggcdpaa", sum := "6dfc6eba4baecb245410c3bce6a8fd533c06b649ee4a74c4fd98df1cfca0a90e", func := "signalbench/signalbenchlaw08.WaveSlices", spec := "waveSlices", apart := false }
def WaveSlicesSaid : Prop := waveSlicesRow.holds Try.pinned (OpenSpec.ofChange waveSlicesSpec)

/-- ITS FALSE NEIGHBOUR: 'it returns false'. Refute it at one input. -/
def waveSlicesWrong : ChangeSpec := { name := "waveSlices", fn := fun _ => fun
  | [d1, d2, d3] => { results := [.lit (.bool false)], args := [d1, d2, d3] }
  | _ => none }
def WaveSlicesWrongFalsely : Prop := waveSlicesRow.holds Try.pinned (OpenSpec.ofChange waveSlicesWrong)

/-- 'signalbenchlaw08.WaveJoins': WHATEVER THE INPUT: true; the input reads as it did. -/
def waveJoinsSpec : ChangeSpec := { name := "waveJoins", fn := fun _ => fun
  | [d1, d2] => { results := [.lit (.bool true)], args := [d1, d2] }
  | _ => none }
def waveJoinsRow : OpenClaim := { program := "ytakjoggjggcdpaa", sum := "6dfc6eba4baecb245410c3bce6a8fd533c06b649ee4a74c4fd98df1cfca0a90e", func := "signalbench/signalbenchlaw08.WaveJoins", spec := "waveJoins", apart := false }
def WaveJoinsSaid : Prop := waveJoinsRow.holds Try.pinned (OpenSpec.ofChange waveJoinsSpec)

/-- ITS FALSE NEIGHBOUR: 'it returns false'. Refute it at one input. -/
def waveJoinsWrong : ChangeSpec := { name := "waveJoins", fn := fun _ => fun
  | [d1, d2] => { results := [.lit (.bool false)], args := [d1, d2] }
  | _ => none }
def WaveJoinsWrongFalsely : Prop := waveJoinsRow.holds Try.pinned (OpenSpec.ofChange waveJoinsWrong)

/-- 'signalbenchlaw08.WaveParts': WHATEVER THE INPUT: true; the input reads as it did. -/
def wavePartsSpec : ChangeSpec := { name := "waveParts", fn := fun _ => fun
  | [d1, d2] => { results := [.lit (.bool true)], args := [d1, d2] }
  | _ => none }
def wavePartsRow : OpenClaim := { program := "ytakjoggjggcdpaa", sum := "6dfc6eba4baecb245410c3bce6a8fd533c06b649ee4a74c4fd98df1cfca0a90e", func := "signalbench/signalbenchlaw08.WaveParts", spec := "waveParts", apart := false }
def WavePartsSaid : Prop := wavePartsRow.holds Try.pinned (OpenSpec.ofChange wavePartsSpec)

/-- ITS FALSE NEIGHBOUR: 'it returns false'. Refute it at one input. -/
def wavePartsWrong : ChangeSpec := { name := "waveParts", fn := fun _ => fun
  | [d1, d2] => { results := [.lit (.bool false)], args := [d1, d2] }
  | _ => none }
def WavePartsWrongFalsely : Prop := wavePartsRow.holds Try.pinned (OpenSpec.ofChange wavePartsWrong)

/- THE SECOND FORM. 'bulk': how many values and letters a reading holds, each counted each time it is reached (what is shared counts as often as it is met; a slice's spare places count too). A statement '..UptoSaid' is the law's where the arguments, and the package variables that the reading takes, are together of bulk at most 1048576: NARROWER than '..Said'. Prove '..Said' where nothing that the law and all that it calls make is longer than what came in: it says more and counts as full. Else prove '..UptoSaid'. A law counts once. -/
mutual
def uptoBulk {H : Type} : DataW H → Nat
  | .lit (.string bytes) => bytes.length + 1
  | .lit _ => 1
  | .nil => 1
  | .ptr d => uptoBulk d + 1
  | .slice elems spare => uptoBulkAll elems + uptoBulkAll spare + 1
  | .agg parts => uptoBulkAll parts + 1
  | .iface _ d => uptoBulk d + 1
  | .map entries => uptoBulkEntries entries + 1
  | .held _ => 1
def uptoBulkAll {H : Type} : List (DataW H) → Nat
  | [] => 0
  | d :: r => uptoBulk d + uptoBulkAll r
def uptoBulkEntries {H : Type} : List (Lit × DataW H) → Nat
  | [] => 0
  | x :: r => uptoBulkEntry x + uptoBulkEntries r
def uptoBulkEntry {H : Type} : Lit × DataW H → Nat
  | (.string bytes, d) => bytes.length + uptoBulk d + 1
  | (_, d) => uptoBulk d + 1
 end
def uptoSmall : (H : Type) → List (DataW H) → Bool := fun _ ds => decide (uptoBulkAll ds ≤ 1048576)
def OpenSpec.upto (s : _root_.Go.ChangeSpec) : _root_.Go.OpenSpec := { _root_.Go.OpenSpec.ofChange s with cond := some uptoSmall }

/-- 'signalbenchlaw08.WaveEdges', WHERE WHAT IT READS IS OF BULK AT MOST 1048576: true; the input reads as it did. -/
def waveEdgesUptoRow : OpenClaim := { program := "ytakjoggjggcdpaa", sum := "6dfc6eba4baecb245410c3bce6a8fd533c06b649ee4a74c4fd98df1cfca0a90e", func := "signalbench/signalbenchlaw08.WaveEdges", spec := "waveEdges", apart := false, narrowed := true }
def WaveEdgesUptoSaid : Prop := waveEdgesUptoRow.holds Try.pinned (OpenSpec.upto waveEdgesSpec)

/-- 'signalbenchlaw08.WaveReads', WHERE WHAT IT READS IS OF BULK AT MOST 1048576: true; the input reads as it did. -/
def waveReadsUptoRow : OpenClaim := { program := "ytakjoggjggcdpaa", sum := "6dfc6eba4baecb245410c3bce6a8fd533c06b649ee4a74c4fd98df1cfca0a90e", func := "signalbench/signalbenchlaw08.WaveReads", spec := "waveReads", apart := false, narrowed := true }
def WaveReadsUptoSaid : Prop := waveReadsUptoRow.holds Try.pinned (OpenSpec.upto waveReadsSpec)

/-- 'signalbenchlaw08.WaveMakes', WHERE WHAT IT READS IS OF BULK AT MOST 1048576: true; the input reads as it did. -/
def waveMakesUptoRow : OpenClaim := { program := "ytakjoggjggcdpaa", sum := "6dfc6eba4baecb245410c3bce6a8fd533c06b649ee4a74c4fd98df1cfca0a90e", func := "signalbench/signalbenchlaw08.WaveMakes", spec := "waveMakes", apart := false, narrowed := true }
def WaveMakesUptoSaid : Prop := waveMakesUptoRow.holds Try.pinned (OpenSpec.upto waveMakesSpec)

/-- 'signalbenchlaw08.WaveCleans', WHERE WHAT IT READS IS OF BULK AT MOST 1048576: true; the input reads as it did. -/
def waveCleansUptoRow : OpenClaim := { program := "ytakjoggjggcdpaa", sum := "6dfc6eba4baecb245410c3bce6a8fd533c06b649ee4a74c4fd98df1cfca0a90e", func := "signalbench/signalbenchlaw08.WaveCleans", spec := "waveCleans", apart := false, narrowed := true }
def WaveCleansUptoSaid : Prop := waveCleansUptoRow.holds Try.pinned (OpenSpec.upto waveCleansSpec)

/-- 'signalbenchlaw08.WaveKeeps', WHERE WHAT IT READS IS OF BULK AT MOST 1048576: true; the input reads as it did. -/
def waveKeepsUptoRow : OpenClaim := { program := "ytakjoggjggcdpaa", sum := "6dfc6eba4baecb245410c3bce6a8fd533c06b649ee4a74c4fd98df1cfca0a90e", func := "signalbench/signalbenchlaw08.WaveKeeps", spec := "waveKeeps", apart := false, narrowed := true }
def WaveKeepsUptoSaid : Prop := waveKeepsUptoRow.holds Try.pinned (OpenSpec.upto waveKeepsSpec)

/-- 'signalbenchlaw08.WaveSlices', WHERE WHAT IT READS IS OF BULK AT MOST 1048576: true; the input reads as it did. -/
def waveSlicesUptoRow : OpenClaim := { program := "ytakjoggjggcdpaa", sum := "6dfc6eba4baecb245410c3bce6a8fd533c06b649ee4a74c4fd98df1cfca0a90e", func := "signalbench/signalbenchlaw08.WaveSlices", spec := "waveSlices", apart := false, narrowed := true }
def WaveSlicesUptoSaid : Prop := waveSlicesUptoRow.holds Try.pinned (OpenSpec.upto waveSlicesSpec)

/-- 'signalbenchlaw08.WaveJoins', WHERE WHAT IT READS IS OF BULK AT MOST 1048576: true; the input reads as it did. -/
def waveJoinsUptoRow : OpenClaim := { program := "ytakjoggjggcdpaa", sum := "6dfc6eba4baecb245410c3bce6a8fd533c06b649ee4a74c4fd98df1cfca0a90e", func := "signalbench/signalbenchlaw08.WaveJoins", spec := "waveJoins", apart := false, narrowed := true }
def WaveJoinsUptoSaid : Prop := waveJoinsUptoRow.holds Try.pinned (OpenSpec.upto waveJoinsSpec)

/-- 'signalbenchlaw08.WaveParts', WHERE WHAT IT READS IS OF BULK AT MOST 1048576: true; the input reads as it did. -/
def wavePartsUptoRow : OpenClaim := { program := "ytakjoggjggcdpaa", sum := "6dfc6eba4baecb245410c3bce6a8fd533c06b649ee4a74c4fd98df1cfca0a90e", func := "signalbench/signalbenchlaw08.WaveParts", spec := "waveParts", apart := false, narrowed := true }
def WavePartsUptoSaid : Prop := wavePartsUptoRow.holds Try.pinned (OpenSpec.upto wavePartsSpec)

end Rows
end Go.Proofs.Ytakjoggjggcdpaa
