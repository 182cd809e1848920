/-
  No cell of these rows narrows 'for every input' (looked for: loops, veiled, ifaces, maps, wideKeys, modest, calm, conditions, laid).
  DERIVED. THE GIVEN ROWS OF THIS SEAT. 6 by the template 'for every input the law returns true; each argument reads behind the call as it read before'; 0 by the template 'total and deterministic' (their statements: YtkcekcnnjheamaaTotals.lean).
  GIVEN WITH THE SEED: the statements are not yours to turn. If you find one false, say at which input.
  Laid BY PROGRAM, IN A SANDBOX (cutbox-rows.mjs): the forced cells as the released guide's own fill.sh prints them over the translation db66e81164ed1691… (all of the seat's roots in one cut). By AI agents, Wed Nov 11 2026. No macro, syntax, notation, axiom, sorry.
-/
import Derived.Test.YtkcekcnnjheamaaChecked
import GoSem.Claim
import GoSem.ClaimJoined
import GoSem.ClaimMapViews
import Derived.JoinedTies
import Derived.KernelRfl
namespace Go.Proofs.Ytkcekcnnjheamaa
/- THE CELL 'sum', in the pinned program and in every row, IS THE sha256 OF THE DUMP (.gsa) THAT YtkcekcnnjheamaaProg.lean LOADS. Nothing in Lean hashes anything: it is a label: what it is worth is what the hold of that sum in a sandbox is worth. -/
noncomputable def Try.pinned : Pinned := { name := "ytkcekcnnjheamaa", sum := "db66e81164ed16912774cdecb0aa50772ddff2bf65d980612af1ad3de29a5207", checked := Try.checked }
namespace Rows
def none {H : Type} : Left H := { results := [], args := [] }

/-- 'signalbenchlaw50.InjectFaults': WHATEVER THE INPUT: true; the input reads as it did. -/
def injectFaultsSpec : ChangeSpec := { name := "injectFaults", fn := fun _ => fun
  | [d1, d2, d3] => { results := [.lit (.bool true)], args := [d1, d2, d3] }
  | _ => none }
def injectFaultsRow : OpenClaim := { program := "ytkcekcnnjheamaa", sum := "db66e81164ed16912774cdecb0aa50772ddff2bf65d980612af1ad3de29a5207", func := "signalbench/signalbenchlaw50.InjectFaults", spec := "injectFaults", unfollowed := true, recurses := true, apart := false }
def InjectFaultsSaid : Prop := injectFaultsRow.holds Try.pinned (OpenSpec.ofChange injectFaultsSpec)

/-- ITS FALSE NEIGHBOUR: 'it returns false'. Refute it at one input. -/
def injectFaultsWrong : ChangeSpec := { name := "injectFaults", fn := fun _ => fun
  | [d1, d2, d3] => { results := [.lit (.bool false)], args := [d1, d2, d3] }
  | _ => none }
def InjectFaultsWrongFalsely : Prop := injectFaultsRow.holds Try.pinned (OpenSpec.ofChange injectFaultsWrong)

/-- 'signalbenchlaw50.InjectApplies': WHATEVER THE INPUT: true; the input reads as it did. -/
def injectAppliesSpec : ChangeSpec := { name := "injectApplies", fn := fun _ => fun
  | [d1, d2, d3] => { results := [.lit (.bool true)], args := [d1, d2, d3] }
  | _ => none }
def injectAppliesRow : OpenClaim := { program := "ytkcekcnnjheamaa", sum := "db66e81164ed16912774cdecb0aa50772ddff2bf65d980612af1ad3de29a5207", func := "signalbench/signalbenchlaw50.InjectApplies", spec := "injectApplies", unfollowed := true, recurses := true, apart := false }
def InjectAppliesSaid : Prop := injectAppliesRow.holds Try.pinned (OpenSpec.ofChange injectAppliesSpec)

/-- ITS FALSE NEIGHBOUR: 'it returns false'. Refute it at one input. -/
def injectAppliesWrong : ChangeSpec := { name := "injectApplies", fn := fun _ => fun
  | [d1, d2, d3] => { results := [.lit (.bool false)], args := [d1, d2, d3] }
  | _ => none }
def InjectAppliesWrongFalsely : Prop := injectAppliesRow.holds Try.pinned (OpenSpec.ofChange injectAppliesWrong)

/-- 'signalbenchlaw50.InjectPlaces': WHATEVER THE INPUT: true; the input reads as it did. -/
def injectPlacesSpec : ChangeSpec := { name := "injectPlaces", fn := fun _ => fun
  | [d1, d2, d3] => { results := [.lit (.bool true)], args := [d1, d2, d3] }
  | _ => none }
def injectPlacesRow : OpenClaim := { program := "ytkcekcnnjheamaa", sum := "db66e81164ed16912774cdecb0aa50772ddff2bf65d980612af1ad3de29a5207", func := "signalbench/signalbenchlaw50.InjectPlaces", spec := "injectPlaces", unfollowed := true, recurses := true, apart := false }
def InjectPlacesSaid : Prop := injectPlacesRow.holds Try.pinned (OpenSpec.ofChange injectPlacesSpec)

/-- ITS FALSE NEIGHBOUR: 'it returns false'. Refute it at one input. -/
def injectPlacesWrong : ChangeSpec := { name := "injectPlaces", fn := fun _ => fun
  | [d1, d2, d3] => { results := [.lit (.bool false)], args := [d1, d2, d3] }
  | _ => none }
def InjectPlacesWrongFalsely : Prop := injectPlacesRow.holds Try.pinned (OpenSpec.ofChange injectPlacesWrong)

/-- 'signalbenchlaw50.InjectGlitches': WHATEVER THE INPUT: true; the input reads as it did. -/
def injectGlitchesSpec : ChangeSpec := { name := "injectGlitches", fn := fun _ => fun
  | [d1, d2] => { results := [.lit (.bool true)], args := [d1, d2] }
  | _ => none }
def injectGlitchesRow : OpenClaim := { program := "ytkcekcnnjheamaa", sum := "db66e81164ed16912774cdecb0aa50772ddff2bf65d980612af1ad3de29a5207", func := "signalbench/signalbenchlaw50.InjectGlitches", spec := "injectGlitches", unfollowed := true, recurses := true, apart := false }
def InjectGlitchesSaid : Prop := injectGlitchesRow.holds Try.pinned (OpenSpec.ofChange injectGlitchesSpec)

/-- ITS FALSE NEIGHBOUR: 'it returns false'. Refute it at one input. -/
def injectGlitchesWrong : ChangeSpec := { name := "injectGlitches", fn := fun _ => fun
  | [d1, d2] => { results := [.lit (.bool false)], args := [d1, d2] }
  | _ => none }
def InjectGlitchesWrongFalsely : Prop := injectGlitchesRow.holds Try.pinned (OpenSpec.ofChange injectGlitchesWrong)

/-- 'signalbenchlaw50.InjectUndoes': WHATEVER THE INPUT: true; the input reads as it did. -/
def injectUndoesSpec : ChangeSpec := { name := "injectUndoes", fn := fun _ => fun
  | [d1, d2, d3] => { results := [.lit (.bool true)], args := [d1, d2, d3] }
  | _ => none }
def injectUndoesRow : OpenClaim := { program := "ytkcekcnnjheamaa", sum := "db66e81164ed16912774cdecb0aa50772ddff2bf65d980612af1ad3de29a5207", func := "signalbench/signalbenchlaw50.InjectUndoes", spec := "injectUndoes", unfollowed := true, recurses := true, apart := false }
def InjectUndoesSaid : Prop := injectUndoesRow.holds Try.pinned (OpenSpec.ofChange injectUndoesSpec)

/-- ITS FALSE NEIGHBOUR: 'it returns false'. Refute it at one input. -/
def injectUndoesWrong : ChangeSpec := { name := "injectUndoes", fn := fun _ => fun
  | [d1, d2, d3] => { results := [.lit (.bool false)], args := [d1, d2, d3] }
  | _ => none }
def InjectUndoesWrongFalsely : Prop := injectUndoesRow.holds Try.pinned (OpenSpec.ofChange injectUndoesWrong)

/-- 'signalbenchlaw50.InjectSent': WHATEVER THE INPUT: true; the input reads as it did. -/
def injectSentSpec : ChangeSpec := { name := "injectSent", fn := fun _ => fun
  | [d1, d2, d3] => { results := [.lit (.bool true)], args := [d1, d2, d3] }
  | _ => none }
def injectSentRow : OpenClaim := { program := "ytkcekcnnjheamaa", sum := "db66e81164ed16912774cdecb0aa50772ddff2bf65d980612af1ad3de29a5207", func := "signalbench/signalbenchlaw50.InjectSent", spec := "injectSent", unfollowed := true, recurses := true, apart := false }
def InjectSentSaid : Prop := injectSentRow.holds Try.pinned (OpenSpec.ofChange injectSentSpec)

/-- ITS FALSE NEIGHBOUR: 'it returns false'. Refute it at one input. -/
def injectSentWrong : ChangeSpec := { name := "injectSent", fn := fun _ => fun
  | [d1, d2, d3] => { results := [.lit (.bool false)], args := [d1, d2, d3] }
  | _ => none }
def InjectSentWrongFalsely : Prop := injectSentRow.holds Try.pinned (OpenSpec.ofChange injectSentWrong)

/- THE SECOND FORM. 'bulk': how many values and letters a reading holds, each counted each time it is reached (what is shared counts as often as it is met; a slice's spare places count too). A statement '..UptoSaid' is the law's where the arguments, and the package variables that the reading takes, are together of bulk at most 1048576: NARROWER than '..Said'. Prove '..Said' where nothing that the law and all that it calls make is longer than what came in: it says more and counts as full. Else prove '..UptoSaid'. A law counts once. -/
mutual
def uptoBulk {H : Type} : DataW H → Nat
  | .lit (.string bytes) => bytes.length + 1
  | .lit _ => 1
  | .nil => 1
  | .ptr d => uptoBulk d + 1
  | .slice elems spare => uptoBulkAll elems + uptoBulkAll spare + 1
  | .agg parts => uptoBulkAll parts + 1
  | .iface _ d => uptoBulk d + 1
  | .map entries => uptoBulkEntries entries + 1
  | .held _ => 1
def uptoBulkAll {H : Type} : List (DataW H) → Nat
  | [] => 0
  | d :: r => uptoBulk d + uptoBulkAll r
def uptoBulkEntries {H : Type} : List (Lit × DataW H) → Nat
  | [] => 0
  | x :: r => uptoBulkEntry x + uptoBulkEntries r
def uptoBulkEntry {H : Type} : Lit × DataW H → Nat
  | (.string bytes, d) => bytes.length + uptoBulk d + 1
  | (_, d) => uptoBulk d + 1
 end
def uptoSmall : (H : Type) → List (DataW H) → Bool := fun _ ds => decide (uptoBulkAll ds ≤ 1048576)
def OpenSpec.upto (s : _root_.Go.ChangeSpec) : _root_.Go.OpenSpec := { _root_.Go.OpenSpec.ofChange s with cond := some uptoSmall }

/-- 'signalbenchlaw50.InjectFaults', WHERE WHAT IT READS IS OF BULK AT MOST 1048576: true; the input reads as it did. -/
def injectFaultsUptoRow : OpenClaim := { program := "ytkcekcnnjheamaa", sum := "db66e81164ed16912774cdecb0aa50772ddff2bf65d980612af1ad3de29a5207", func := "signalbench/signalbenchlaw50.InjectFaults", spec := "injectFaults", unfollowed := true, recurses := true, apart := false, narrowed := true }
def InjectFaultsUptoSaid : Prop := injectFaultsUptoRow.holds Try.pinned (OpenSpec.upto injectFaultsSpec)

/-- 'signalbenchlaw50.InjectApplies', WHERE WHAT IT READS IS OF BULK AT MOST 1048576: true; the input reads as it did. -/
def injectAppliesUptoRow : OpenClaim := { program := "ytkcekcnnjheamaa", sum := "db66e81164ed16912774cdecb0aa50772ddff2bf65d980612af1ad3de29a5207", func := "signalbench/signalbenchlaw50.InjectApplies", spec := "injectApplies", unfollowed := true, recurses := true, apart := false, narrowed := true }
def InjectAppliesUptoSaid : Prop := injectAppliesUptoRow.holds Try.pinned (OpenSpec.upto injectAppliesSpec)

/-- 'signalbenchlaw50.InjectPlaces', WHERE WHAT IT READS IS OF BULK AT MOST 1048576: true; the input reads as it did. -/
def injectPlacesUptoRow : OpenClaim := { program := "ytkcekcnnjheamaa", sum := "db66e81164ed16912774cdecb0aa50772ddff2bf65d980612af1ad3de29a5207", func := "signalbench/signalbenchlaw50.InjectPlaces", spec := "injectPlaces", unfollowed := true, recurses := true, apart := false, narrowed := true }
def InjectPlacesUptoSaid : Prop := injectPlacesUptoRow.holds Try.pinned (OpenSpec.upto injectPlacesSpec)

/-- 'signalbenchlaw50.InjectGlitches', WHERE WHAT IT READS IS OF BULK AT MOST 1048576: true; the input reads as it did. -/
def injectGlitchesUptoRow : OpenClaim := { program := "ytkcekcnnjheamaa", sum := "db66e81164ed16912774cdecb0aa50772ddff2bf65d980612af1ad3de29a5207", func := "signalbench/signalbenchlaw50.InjectGlitches", spec := "injectGlitches", unfollowed := true, recurses := true, apart := false, narrowed := true }
def InjectGlitchesUptoSaid : Prop := injectGlitchesUptoRow.holds Try.pinned (OpenSpec.upto injectGlitchesSpec)

/-- 'signalbenchlaw50.InjectUndoes', WHERE WHAT IT READS IS OF BULK AT MOST 1048576: true; the input reads as it did. -/
def injectUndoesUptoRow : OpenClaim := { program := "ytkcekcnnjheamaa", sum := "db66e81164ed16912774cdecb0aa50772ddff2bf65d980612af1ad3de29a5207", func := "signalbench/signalbenchlaw50.InjectUndoes", spec := "injectUndoes", unfollowed := true, recurses := true, apart := false, narrowed := true }
def InjectUndoesUptoSaid : Prop := injectUndoesUptoRow.holds Try.pinned (OpenSpec.upto injectUndoesSpec)

/-- 'signalbenchlaw50.InjectSent', WHERE WHAT IT READS IS OF BULK AT MOST 1048576: true; the input reads as it did. -/
def injectSentUptoRow : OpenClaim := { program := "ytkcekcnnjheamaa", sum := "db66e81164ed16912774cdecb0aa50772ddff2bf65d980612af1ad3de29a5207", func := "signalbench/signalbenchlaw50.InjectSent", spec := "injectSent", unfollowed := true, recurses := true, apart := false, narrowed := true }
def InjectSentUptoSaid : Prop := injectSentUptoRow.holds Try.pinned (OpenSpec.upto injectSentSpec)

end Rows
end Go.Proofs.Ytkcekcnnjheamaa
