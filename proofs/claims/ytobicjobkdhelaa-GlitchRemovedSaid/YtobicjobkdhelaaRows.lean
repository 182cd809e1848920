/-
  No cell of these rows narrows 'for every input' (looked for: loops, veiled, ifaces, maps, wideKeys, modest, calm, conditions, laid).
  DERIVED. THE GIVEN ROWS OF THIS SEAT. 8 by the template 'for every input the law returns true; each argument reads behind the call as it read before'; 0 by the template 'total and deterministic' (their statements: YtobicjobkdhelaaTotals.lean).
  GIVEN WITH THE SEED: the statements are not yours to turn. If you find one false, say at which input.
  Laid BY PROGRAM, IN A SANDBOX (cutbox-rows.mjs): the forced cells as the released guide's own fill.sh prints them over the translation 1993ee9ab26dd67c… (all of the seat's roots in one cut). By AI agents, Wed Nov 11 2026. No macro, syntax, notation, axiom, sorry.
-/
import Derived.Test.YtobicjobkdhelaaChecked
import GoSem.Claim
import GoSem.ClaimJoined
import GoSem.ClaimMapViews
import Derived.JoinedTies
import Derived.KernelRfl
namespace Go.Proofs.Ytobicjobkdhelaa
/- THE CELL 'sum', in the pinned program and in every row, IS THE sha256 OF THE DUMP (.gsa) THAT YtobicjobkdhelaaProg.lean LOADS. Nothing in Lean hashes anything: it is a label: what it is worth is what the hold of that sum in a sandbox is worth. -/
noncomputable def Try.pinned : Pinned := { name := "ytobicjobkdhelaa", sum := "1993ee9ab26dd67c137c04f376241f9a03ffead7a23ac67fba11311ef249eb90", checked := Try.checked }
namespace Rows
def none {H : Type} : Left H := { results := [], args := [] }

/-- 'signalbenchlaw13.GlitchCounts': WHATEVER THE INPUT: true; the input reads as it did. -/
def glitchCountsSpec : ChangeSpec := { name := "glitchCounts", fn := fun _ => fun
  | [d1, d2] => { results := [.lit (.bool true)], args := [d1, d2] }
  | _ => none }
def glitchCountsRow : OpenClaim := { program := "ytobicjobkdhelaa", sum := "1993ee9ab26dd67c137c04f376241f9a03ffead7a23ac67fba11311ef249eb90", func := "signalbench/signalbenchlaw13.GlitchCounts", spec := "glitchCounts", unfollowed := true, recurses := true, apart := false }
def GlitchCountsSaid : Prop := glitchCountsRow.holds Try.pinned (OpenSpec.ofChange glitchCountsSpec)

/-- ITS FALSE NEIGHBOUR: 'it returns false'. Refute it at one input. -/
def glitchCountsWrong : ChangeSpec := { name := "glitchCounts", fn := fun _ => fun
  | [d1, d2] => { results := [.lit (.bool false)], args := [d1, d2] }
  | _ => none }
def GlitchCountsWrongFalsely : Prop := glitchCountsRow.holds Try.pinned (OpenSpec.ofChange glitchCountsWrong)

/-- 'signalbenchlaw13.GlitchFiltered': WHATEVER THE INPUT: true; the input reads as it did. -/
def glitchFilteredSpec : ChangeSpec := { name := "glitchFiltered", fn := fun _ => fun
  | [d1, d2] => { results := [.lit (.bool true)], args := [d1, d2] }
  | _ => none }
def glitchFilteredRow : OpenClaim := { program := "ytobicjobkdhelaa", sum := "1993ee9ab26dd67c137c04f376241f9a03ffead7a23ac67fba11311ef249eb90", func := "signalbench/signalbenchlaw13.GlitchFiltered", spec := "glitchFiltered", unfollowed := true, recurses := true, apart := false }
def GlitchFilteredSaid : Prop := glitchFilteredRow.holds Try.pinned (OpenSpec.ofChange glitchFilteredSpec)

/-- ITS FALSE NEIGHBOUR: 'it returns false'. Refute it at one input. -/
def glitchFilteredWrong : ChangeSpec := { name := "glitchFiltered", fn := fun _ => fun
  | [d1, d2] => { results := [.lit (.bool false)], args := [d1, d2] }
  | _ => none }
def GlitchFilteredWrongFalsely : Prop := glitchFilteredRow.holds Try.pinned (OpenSpec.ofChange glitchFilteredWrong)

/-- 'signalbenchlaw13.GlitchInserts': WHATEVER THE INPUT: true; the input reads as it did. -/
def glitchInsertsSpec : ChangeSpec := { name := "glitchInserts", fn := fun _ => fun
  | [d1, d2, d3] => { results := [.lit (.bool true)], args := [d1, d2, d3] }
  | _ => none }
def glitchInsertsRow : OpenClaim := { program := "ytobicjobkdhelaa", sum := "1993ee9ab26dd67c137c04f376241f9a03ffead7a23ac67fba11311ef249eb90", func := "signalbench/signalbenchlaw13.GlitchInserts", spec := "glitchInserts", unfollowed := true, recurses := true, apart := false }
def GlitchInsertsSaid : Prop := glitchInsertsRow.holds Try.pinned (OpenSpec.ofChange glitchInsertsSpec)

/-- ITS FALSE NEIGHBOUR: 'it returns false'. Refute it at one input. -/
def glitchInsertsWrong : ChangeSpec := { name := "glitchInserts", fn := fun _ => fun
  | [d1, d2, d3] => { results := [.lit (.bool false)], args := [d1, d2, d3] }
  | _ => none }
def GlitchInsertsWrongFalsely : Prop := glitchInsertsRow.holds Try.pinned (OpenSpec.ofChange glitchInsertsWrong)

/-- 'signalbenchlaw13.GlitchFilters': WHATEVER THE INPUT: true; the input reads as it did. -/
def glitchFiltersSpec : ChangeSpec := { name := "glitchFilters", fn := fun _ => fun
  | [d1, d2] => { results := [.lit (.bool true)], args := [d1, d2] }
  | _ => none }
def glitchFiltersRow : OpenClaim := { program := "ytobicjobkdhelaa", sum := "1993ee9ab26dd67c137c04f376241f9a03ffead7a23ac67fba11311ef249eb90", func := "signalbench/signalbenchlaw13.GlitchFilters", spec := "glitchFilters", unfollowed := true, recurses := true, apart := false }
def GlitchFiltersSaid : Prop := glitchFiltersRow.holds Try.pinned (OpenSpec.ofChange glitchFiltersSpec)

/-- ITS FALSE NEIGHBOUR: 'it returns false'. Refute it at one input. -/
def glitchFiltersWrong : ChangeSpec := { name := "glitchFilters", fn := fun _ => fun
  | [d1, d2] => { results := [.lit (.bool false)], args := [d1, d2] }
  | _ => none }
def GlitchFiltersWrongFalsely : Prop := glitchFiltersRow.holds Try.pinned (OpenSpec.ofChange glitchFiltersWrong)

/-- 'signalbenchlaw13.GlitchTwice': WHATEVER THE INPUT: true; the input reads as it did. -/
def glitchTwiceSpec : ChangeSpec := { name := "glitchTwice", fn := fun _ => fun
  | [d1, d2, d3] => { results := [.lit (.bool true)], args := [d1, d2, d3] }
  | _ => none }
def glitchTwiceRow : OpenClaim := { program := "ytobicjobkdhelaa", sum := "1993ee9ab26dd67c137c04f376241f9a03ffead7a23ac67fba11311ef249eb90", func := "signalbench/signalbenchlaw13.GlitchTwice", spec := "glitchTwice", unfollowed := true, recurses := true, apart := false }
def GlitchTwiceSaid : Prop := glitchTwiceRow.holds Try.pinned (OpenSpec.ofChange glitchTwiceSpec)

/-- ITS FALSE NEIGHBOUR: 'it returns false'. Refute it at one input. -/
def glitchTwiceWrong : ChangeSpec := { name := "glitchTwice", fn := fun _ => fun
  | [d1, d2, d3] => { results := [.lit (.bool false)], args := [d1, d2, d3] }
  | _ => none }
def GlitchTwiceWrongFalsely : Prop := glitchTwiceRow.holds Try.pinned (OpenSpec.ofChange glitchTwiceWrong)

/-- 'signalbenchlaw13.GlitchRemoved': WHATEVER THE INPUT: true; the input reads as it did. -/
def glitchRemovedSpec : ChangeSpec := { name := "glitchRemoved", fn := fun _ => fun
  | [d1, d2, d3] => { results := [.lit (.bool true)], args := [d1, d2, d3] }
  | _ => none }
def glitchRemovedRow : OpenClaim := { program := "ytobicjobkdhelaa", sum := "1993ee9ab26dd67c137c04f376241f9a03ffead7a23ac67fba11311ef249eb90", func := "signalbench/signalbenchlaw13.GlitchRemoved", spec := "glitchRemoved", unfollowed := true, recurses := true, apart := false }
def GlitchRemovedSaid : Prop := glitchRemovedRow.holds Try.pinned (OpenSpec.ofChange glitchRemovedSpec)

/-- ITS FALSE NEIGHBOUR: 'it returns false'. Refute it at one input. -/
def glitchRemovedWrong : ChangeSpec := { name := "glitchRemoved", fn := fun _ => fun
  | [d1, d2, d3] => { results := [.lit (.bool false)], args := [d1, d2, d3] }
  | _ => none }
def GlitchRemovedWrongFalsely : Prop := glitchRemovedRow.holds Try.pinned (OpenSpec.ofChange glitchRemovedWrong)

/-- 'signalbenchlaw13.GlitchAll': WHATEVER THE INPUT: true; the input reads as it did. -/
def glitchAllSpec : ChangeSpec := { name := "glitchAll", fn := fun _ => fun
  | [d1, d2] => { results := [.lit (.bool true)], args := [d1, d2] }
  | _ => none }
def glitchAllRow : OpenClaim := { program := "ytobicjobkdhelaa", sum := "1993ee9ab26dd67c137c04f376241f9a03ffead7a23ac67fba11311ef249eb90", func := "signalbench/signalbenchlaw13.GlitchAll", spec := "glitchAll", unfollowed := true, recurses := true, apart := false }
def GlitchAllSaid : Prop := glitchAllRow.holds Try.pinned (OpenSpec.ofChange glitchAllSpec)

/-- ITS FALSE NEIGHBOUR: 'it returns false'. Refute it at one input. -/
def glitchAllWrong : ChangeSpec := { name := "glitchAll", fn := fun _ => fun
  | [d1, d2] => { results := [.lit (.bool false)], args := [d1, d2] }
  | _ => none }
def GlitchAllWrongFalsely : Prop := glitchAllRow.holds Try.pinned (OpenSpec.ofChange glitchAllWrong)

/-- 'signalbenchlaw13.GlitchChannels': WHATEVER THE INPUT: true; the input reads as it did. -/
def glitchChannelsSpec : ChangeSpec := { name := "glitchChannels", fn := fun _ => fun
  | [d1, d2] => { results := [.lit (.bool true)], args := [d1, d2] }
  | _ => none }
def glitchChannelsRow : OpenClaim := { program := "ytobicjobkdhelaa", sum := "1993ee9ab26dd67c137c04f376241f9a03ffead7a23ac67fba11311ef249eb90", func := "signalbench/signalbenchlaw13.GlitchChannels", spec := "glitchChannels", unfollowed := true, recurses := true, apart := false }
def GlitchChannelsSaid : Prop := glitchChannelsRow.holds Try.pinned (OpenSpec.ofChange glitchChannelsSpec)

/-- ITS FALSE NEIGHBOUR: 'it returns false'. Refute it at one input. -/
def glitchChannelsWrong : ChangeSpec := { name := "glitchChannels", fn := fun _ => fun
  | [d1, d2] => { results := [.lit (.bool false)], args := [d1, d2] }
  | _ => none }
def GlitchChannelsWrongFalsely : Prop := glitchChannelsRow.holds Try.pinned (OpenSpec.ofChange glitchChannelsWrong)

/- THE SECOND FORM. 'bulk': how many values and letters a reading holds, each counted each time it is reached (what is shared counts as often as it is met; a slice's spare places count too). A statement '..UptoSaid' is the law's where the arguments, and the package variables that the reading takes, are together of bulk at most 1048576: NARROWER than '..Said'. Prove '..Said' where nothing that the law and all that it calls make is longer than what came in: it says more and counts as full. Else prove '..UptoSaid'. A law counts once. -/
mutual
def uptoBulk {H : Type} : DataW H → Nat
  | .lit (.string bytes) => bytes.length + 1
  | .lit _ => 1
  | .nil => 1
  | .ptr d => uptoBulk d + 1
  | .slice elems spare => uptoBulkAll elems + uptoBulkAll spare + 1
  | .agg parts => uptoBulkAll parts + 1
  | .iface _ d => uptoBulk d + 1
  | .map entries => uptoBulkEntries entries + 1
  | .held _ => 1
def uptoBulkAll {H : Type} : List (DataW H) → Nat
  | [] => 0
  | d :: r => uptoBulk d + uptoBulkAll r
def uptoBulkEntries {H : Type} : List (Lit × DataW H) → Nat
  | [] => 0
  | x :: r => uptoBulkEntry x + uptoBulkEntries r
def uptoBulkEntry {H : Type} : Lit × DataW H → Nat
  | (.string bytes, d) => bytes.length + uptoBulk d + 1
  | (_, d) => uptoBulk d + 1
 end
def uptoSmall : (H : Type) → List (DataW H) → Bool := fun _ ds => decide (uptoBulkAll ds ≤ 1048576)
def OpenSpec.upto (s : _root_.Go.ChangeSpec) : _root_.Go.OpenSpec := { _root_.Go.OpenSpec.ofChange s with cond := some uptoSmall }

/-- 'signalbenchlaw13.GlitchCounts', WHERE WHAT IT READS IS OF BULK AT MOST 1048576: true; the input reads as it did. -/
def glitchCountsUptoRow : OpenClaim := { program := "ytobicjobkdhelaa", sum := "1993ee9ab26dd67c137c04f376241f9a03ffead7a23ac67fba11311ef249eb90", func := "signalbench/signalbenchlaw13.GlitchCounts", spec := "glitchCounts", unfollowed := true, recurses := true, apart := false, narrowed := true }
def GlitchCountsUptoSaid : Prop := glitchCountsUptoRow.holds Try.pinned (OpenSpec.upto glitchCountsSpec)

/-- 'signalbenchlaw13.GlitchFiltered', WHERE WHAT IT READS IS OF BULK AT MOST 1048576: true; the input reads as it did. -/
def glitchFilteredUptoRow : OpenClaim := { program := "ytobicjobkdhelaa", sum := "1993ee9ab26dd67c137c04f376241f9a03ffead7a23ac67fba11311ef249eb90", func := "signalbench/signalbenchlaw13.GlitchFiltered", spec := "glitchFiltered", unfollowed := true, recurses := true, apart := false, narrowed := true }
def GlitchFilteredUptoSaid : Prop := glitchFilteredUptoRow.holds Try.pinned (OpenSpec.upto glitchFilteredSpec)

/-- 'signalbenchlaw13.GlitchInserts', WHERE WHAT IT READS IS OF BULK AT MOST 1048576: true; the input reads as it did. -/
def glitchInsertsUptoRow : OpenClaim := { program := "ytobicjobkdhelaa", sum := "1993ee9ab26dd67c137c04f376241f9a03ffead7a23ac67fba11311ef249eb90", func := "signalbench/signalbenchlaw13.GlitchInserts", spec := "glitchInserts", unfollowed := true, recurses := true, apart := false, narrowed := true }
def GlitchInsertsUptoSaid : Prop := glitchInsertsUptoRow.holds Try.pinned (OpenSpec.upto glitchInsertsSpec)

/-- 'signalbenchlaw13.GlitchFilters', WHERE WHAT IT READS IS OF BULK AT MOST 1048576: true; the input reads as it did. -/
def glitchFiltersUptoRow : OpenClaim := { program := "ytobicjobkdhelaa", sum := "1993ee9ab26dd67c137c04f376241f9a03ffead7a23ac67fba11311ef249eb90", func := "signalbench/signalbenchlaw13.GlitchFilters", spec := "glitchFilters", unfollowed := true, recurses := true, apart := false, narrowed := true }
def GlitchFiltersUptoSaid : Prop := glitchFiltersUptoRow.holds Try.pinned (OpenSpec.upto glitchFiltersSpec)

/-- 'signalbenchlaw13.GlitchTwice', WHERE WHAT IT READS IS OF BULK AT MOST 1048576: true; the input reads as it did. -/
def glitchTwiceUptoRow : OpenClaim := { program := "ytobicjobkdhelaa", sum := "1993ee9ab26dd67c137c04f376241f9a03ffead7a23ac67fba11311ef249eb90", func := "signalbench/signalbenchlaw13.GlitchTwice", spec := "glitchTwice", unfollowed := true, recurses := true, apart := false, narrowed := true }
def GlitchTwiceUptoSaid : Prop := glitchTwiceUptoRow.holds Try.pinned (OpenSpec.upto glitchTwiceSpec)

/-- 'signalbenchlaw13.GlitchRemoved', WHERE WHAT IT READS IS OF BULK AT MOST 1048576: true; the input reads as it did. -/
def glitchRemovedUptoRow : OpenClaim := { program := "ytobicjobkdhelaa", sum := "1993ee9ab26dd67c137c04f376241f9a03ffead7a23ac67fba11311ef249eb90", func := "signalbench/signalbenchlaw13.GlitchRemoved", spec := "glitchRemoved", unfollowed := true, recurses := true, apart := false, narrowed := true }
def GlitchRemovedUptoSaid : Prop := glitchRemovedUptoRow.holds Try.pinned (OpenSpec.upto glitchRemovedSpec)

/-- 'signalbenchlaw13.GlitchAll', WHERE WHAT IT READS IS OF BULK AT MOST 1048576: true; the input reads as it did. -/
def glitchAllUptoRow : OpenClaim := { program := "ytobicjobkdhelaa", sum := "1993ee9ab26dd67c137c04f376241f9a03ffead7a23ac67fba11311ef249eb90", func := "signalbench/signalbenchlaw13.GlitchAll", spec := "glitchAll", unfollowed := true, recurses := true, apart := false, narrowed := true }
def GlitchAllUptoSaid : Prop := glitchAllUptoRow.holds Try.pinned (OpenSpec.upto glitchAllSpec)

/-- 'signalbenchlaw13.GlitchChannels', WHERE WHAT IT READS IS OF BULK AT MOST 1048576: true; the input reads as it did. -/
def glitchChannelsUptoRow : OpenClaim := { program := "ytobicjobkdhelaa", sum := "1993ee9ab26dd67c137c04f376241f9a03ffead7a23ac67fba11311ef249eb90", func := "signalbench/signalbenchlaw13.GlitchChannels", spec := "glitchChannels", unfollowed := true, recurses := true, apart := false, narrowed := true }
def GlitchChannelsUptoSaid : Prop := glitchChannelsUptoRow.holds Try.pinned (OpenSpec.upto glitchChannelsSpec)

end Rows
end Go.Proofs.Ytobicjobkdhelaa
