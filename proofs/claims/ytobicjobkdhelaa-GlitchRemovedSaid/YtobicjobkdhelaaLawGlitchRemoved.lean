/- GlitchRemoved holds: a pulse that is inserted well apart from all edges is removed by the filter; for every list of runs, every place and every length, no condition. -/
import Derived.Test.YtobicjobkdhelaaRows
import Derived.Test.YtobicjobkdhelaaQx16
import Derived.Test.YtobicjobkdhelaaOpen
import Derived.Test.YtobicjobkdhelaaPuGlitchRemoved
import Derived.WalkKit
import Derived.ProofKit
import Derived.OpenShut
import Derived.ShutString
import Derived.ChangeOld
import Derived.Below
import Derived.SizedLaws
namespace Go.Proofs.Ytobicjobkdhelaa.glitchRemoved
open Go.ChangeShapes Go.WideShapes Go.ChangeAt Go.RowKit Go.Proofs.YtobicjobkdhelaaW.PrintWords Go.Proofs.YtobicjobkdhelaaW.PrintLast Go.Proofs.Ytobicjobkdhelaa.Q
open Go.ChangeMaps (open_string shut_string)
set_option linter.unusedVariables false
theorem own : ownKnob Try.prog.godebug = none := by kernel_rfl
theorem laidOut : laidOutB Try.prog = true := by kernel_rfl
theorem opens3 : Opens Try.prog 3 (Kd.int .i64) (fun n => (Lit.int .i64 n).wf = true) := opens_int Try.underlying3
def G48 (x : S48) : Prop := (fun n => (Lit.int .i64 n).wf = true) x.f0 ∧ (fun n => (Lit.int .i64 n).wf = true) x.f1
theorem opens48 : Opens Try.prog 48 k48 G48 := opens_iso (opens_struct Try.underlying48 (opensL_cons opens3 rfl (by kernel_rfl) (opensL_one opens3 rfl (by kernel_rfl)) (by decide +kernel)) (by kernel_rfl)) (fun x : S48 => (x.f0, x.f1)) (fun p => ⟨p.1, p.2⟩) (fun _ => rfl)
theorem opens22 : Opens Try.prog 22 (Kd.slice 48 k48) (fun xs => xs.length ≤ maxLen ∧ xs.length * 16 ≤ 140737488351232 ∧ ∀ x ∈ xs, G48 x) := opens_slice Try.underlying22 opens48 (by kernel_rfl) (by kernel_rfl)
theorem popens35 : Opens Try.prog 35 (Kd.pair (Kd.int .i64) (Kd.int .i64)) (fun v => (fun n => (Lit.int .i64 n).wf = true) v.1 ∧ (fun n => (Lit.int .i64 n).wf = true) v.2) := opens_arr2 Try.underlying35 Try.underlying3 (by kernel_rfl) (by kernel_rfl)
set_option maxRecDepth 100000 in
theorem lifted (os : Os) (started : os.Started) (H : Type) (enc : TypeId × Value → H) :
    ReturnsInHanded {} Try.checked os 8 .any (Rows.glitchRemovedSpec.pre6 enc Try.prog Try.f8 Rows.glitchRemovedRow.domain false) (Rows.glitchRemovedSpec.post enc Try.prog Try.f8 false true false false) := by
  refine returnsInHanded_of_change_sized (C := Try.checked) own started (by kernel_rfl) Try.func8
    (ChangeSpec.witness6 (enc := enc) (C := Try.checked) false ⟨#[], #[.slice none 0 0, .agg #[.int .i64 0, .int .i64 0], .int .i64 0], []⟩ 8 (by kernel_rfl) (by kernel_rfl) (by kernel_rfl) (by kernel_rfl)) ?_
  intro W base args ds gs before hval0 hW hcnd hsz0 _
  have hsz : (DataW.weightsEach Try.prog (Try.f8.params.toList ++ Rows.glitchRemovedSpec.plain.varTypes Try.prog) (ds ++ gs)).all (· ≤ reachBytes) = true := hsz0
  have hval : ∀ (j : Nat) t v, Try.f8.params[j]? = some t → args[j]? = some v → Value.okWide Try.prog W .any base t v := hval0
  have hW' := hW
  obtain ⟨p, q, hA0, hV, rfl, hfz, hnd⟩ := hW
  have hA : DataW.TrodAll enc Try.prog W 0 (fun _ => true) true Try.f8.params.toList args.toList ds p := hA0
  rw [Try.params8] at hA hval hsz
  obtain ⟨v0, vs0, d0, ds0, p0, q0, hargs, rfl, rfl, h0, r0⟩ := trodAll_cons hA
  obtain ⟨v1, vs1, d1, ds1, p1, q1, rfl, rfl, rfl, h1, r1⟩ := trodAll_cons r0
  obtain ⟨v2, vs2, d2, ds2, p2, q2, rfl, rfl, rfl, h2, r2⟩ := trodAll_cons r1
  obtain ⟨rfl, rfl, rfl⟩ := trodAll_nil r2
  obtain rfl : args = #[v0, v1, v2] := by cases args; simp_all
  obtain ⟨rfl, rfl⟩ := trodVars_none hV
  obtain ⟨b0, len0, cap0, rfl⟩ := okWide_slice Try.underlying22 (hval 0 22 v0 rfl rfl)
  obtain ⟨l0, ⟨A0, c0, hcs0, hc0, hr0⟩, g0⟩ := opens_arg opens22 hsz (j := 0) rfl rfl h0
  obtain ⟨rfl, rfl, rfl⟩ : b0 = A0 ∧ len0 = l0.length ∧ cap0 = c0 := by simpa [Value.cells] using hcs0
  obtain ⟨cs1, rfl, hz1⟩ := okWide_array Try.underlying35 (hval 1 35 v1 rfl rfl)
  obtain ⟨⟨a1_0, a1_1⟩, ⟨_, _, hcs1, rfl, rfl⟩, ⟨w1_0, w1_1⟩⟩ := opens_arg popens35 hsz (j := 1) rfl rfl h1
  obtain rfl : cs1 = #[.int .i64 a1_0, .int .i64 a1_1] := Array.toList_inj.1 (by simpa [Value.cells] using hcs1)
  obtain ⟨a2, rfl, rfl, rfl, w2⟩ := open_int Try.underlying3 (hval 2 3 v2 rfl rfl) h2
  clear hA0 hval0 hsz0 hsz
  obtain ⟨k, h⟩ := GlitchRemoved_pure (a := a1_0) (t := a1_1) (b := a2) g0.2.2 w1_0 w1_1
  refine (signalbenchlaw13_GlitchRemoved.calls k _ _ l0 a1_0 a1_1 a2 true W hr0 hc0 h).mono fun e W' ⟨he, bel⟩ => ?_
  subst he
  exact ⟨_, rfl, _, _, _, [], _, [], hW', trodAll_mk1 (shut_bool Try.underlying4 _), (trodAll_cons_mk (Below.trod laidOut (by kernel_rfl) (of_decide_eq_true (by kernel_rfl)) h0 bel (lt_arg h0)) (trodAll_cons_mk (Below.trod laidOut (by kernel_rfl) (of_decide_eq_true (by kernel_rfl)) h1 bel (lt_arg h1)) (trodAll_cons_mk (shut_int Try.underlying3 w2) trodAll_mk0))), rfl, bel.frame _, fun h => by cases h⟩
theorem over : Rows.glitchRemovedRow.holds Try.pinned (OpenSpec.ofChange Rows.glitchRemovedSpec) :=
  OpenClaim.holds_of_wide 8 Try.f8 rfl rfl rfl rfl rfl rfl rfl ⟨rfl, rfl, rfl, rfl, rfl⟩ rfl rfl rfl rfl rfl (by kernel_rfl) Try.func8 (by kernel_rfl)
    (of_decide_eq_true (by kernel_rfl)) (by unfold Func.isWrapper; first | (rw [if_pos (by decide +kernel)]; kernel_rfl) | (rw [if_neg (by decide +kernel)]; exact ⟨rfl, rfl⟩))
    (fun os started H enc _ => lifted os started H enc)
theorem proved : Rows.GlitchRemovedSaid := over
#print axioms proved
end Go.Proofs.Ytobicjobkdhelaa.glitchRemoved
namespace Go.Proofs.Ytobicjobkdhelaa
/-- The row, under a short name, for the claim. -/
theorem glitchRemoved_holds : Rows.GlitchRemovedSaid := glitchRemoved.proved
end Go.Proofs.Ytobicjobkdhelaa
