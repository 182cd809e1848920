/- InjectUndoes holds: a glitch inverts the level of its channel only at its ticks, and inserting it twice restores the capture; for every capture, glitch and tick, no condition. -/
import Derived.Test.YtkcekcnnjheamaaRows
import Derived.Test.YtkcekcnnjheamaaQx18
import Derived.Test.YtkcekcnnjheamaaOpen
import Derived.Test.YtkcekcnnjheamaaPuInjectUndoes
import Derived.WalkKit
import Derived.ProofKit
import Derived.OpenShut
import Derived.ShutString
import Derived.ChangeOld
import Derived.Below
import Derived.SizedLaws
namespace Go.Proofs.Ytkcekcnnjheamaa.injectUndoes
open Go.ChangeShapes Go.WideShapes Go.ChangeAt Go.RowKit Go.Proofs.YtkcekcnnjheamaaW.PrintWords Go.Proofs.YtkcekcnnjheamaaW.PrintLast Go.Proofs.Ytkcekcnnjheamaa.Q
open Go.ChangeMaps (open_string shut_string)
set_option linter.unusedVariables false
theorem own : ownKnob Try.prog.godebug = none := by kernel_rfl
theorem laidOut : laidOutB Try.prog = true := by kernel_rfl
theorem opens9 : Opens Try.prog 9 Kd.string (fun s => s.size ≤ 140737488351232) := opens_string Try.underlying9
theorem opens38 : Opens Try.prog 38 (Kd.slice 9 Kd.string) (fun xs => xs.length ≤ maxLen ∧ xs.length * 16 ≤ 140737488351232 ∧ ∀ x ∈ xs, (fun s : ByteArray => s.size ≤ 140737488351232) x) := opens_slice Try.underlying38 opens9 (by kernel_rfl) (by kernel_rfl)
theorem opens3 : Opens Try.prog 3 (Kd.int .i64) (fun n => (Lit.int .i64 n).wf = true) := opens_int Try.underlying3
def G61 (x : S61) : Prop := (fun n => (Lit.int .i64 n).wf = true) x.f0 ∧ (fun n => (Lit.int .i64 n).wf = true) x.f1
theorem opens61 : Opens Try.prog 61 k61 G61 := opens_iso (opens_struct Try.underlying61 (opensL_cons opens3 rfl (by kernel_rfl) (opensL_one opens3 rfl (by kernel_rfl)) (by decide +kernel)) (by kernel_rfl)) (fun x : S61 => (x.f0, x.f1)) (fun p => ⟨p.1, p.2⟩) (fun _ => rfl)
theorem opens39 : Opens Try.prog 39 (Kd.slice 61 k61) (fun xs => xs.length ≤ maxLen ∧ xs.length * 16 ≤ 140737488351232 ∧ ∀ x ∈ xs, G61 x) := opens_slice Try.underlying39 opens61 (by kernel_rfl) (by kernel_rfl)
theorem popens41 : Opens Try.prog 41 (Kd.pair (Kd.slice 9 Kd.string) (Kd.slice 61 k61)) (fun v => (fun xs : (List ByteArray) => xs.length ≤ maxLen ∧ xs.length * 16 ≤ 140737488351232 ∧ ∀ x ∈ xs, (fun s : ByteArray => s.size ≤ 140737488351232) x) v.1 ∧ (fun xs : (List S61) => xs.length ≤ maxLen ∧ xs.length * 16 ≤ 140737488351232 ∧ ∀ x ∈ xs, G61 x) v.2) := opens_imp (opens_struct Try.underlying41 (opensL_cons opens38 rfl (by kernel_rfl) (opensL_one opens39 rfl (by kernel_rfl)) (by decide +kernel)) (by kernel_rfl)) (fun _ h => h)
theorem popens49 : Opens Try.prog 49 (Kd.pair Kd.string (Kd.pair (Kd.int .i64) (Kd.int .i64))) (fun v => (fun s : ByteArray => s.size ≤ 140737488351232) v.1 ∧ (fun v => (fun n => (Lit.int .i64 n).wf = true) v.1 ∧ (fun n => (Lit.int .i64 n).wf = true) v.2) v.2) := opens_imp (opens_struct Try.underlying49 (opensL_cons opens9 rfl (by kernel_rfl) (opensL_cons opens3 rfl (by kernel_rfl) (opensL_one opens3 rfl (by kernel_rfl)) (by decide +kernel)) (by decide +kernel)) (by kernel_rfl)) (fun _ h => h)
set_option maxRecDepth 100000 in
theorem lifted (os : Os) (started : os.Started) (H : Type) (enc : TypeId × Value → H) :
    ReturnsInHanded {} Try.checked os 7 .any (Rows.injectUndoesSpec.pre6 enc Try.prog Try.f7 Rows.injectUndoesRow.domain false) (Rows.injectUndoesSpec.post enc Try.prog Try.f7 false true false false) := by
  refine returnsInHanded_of_change_sized (C := Try.checked) own started (by kernel_rfl) Try.func7
    (ChangeSpec.witness6 (enc := enc) (C := Try.checked) false ⟨#[], #[.agg #[.slice none 0 0, .slice none 0 0], .agg #[.string ByteArray.empty, .int .i64 0, .int .i64 0], .int .i64 0], []⟩ 8 (by kernel_rfl) (by kernel_rfl) (by kernel_rfl) (by kernel_rfl)) ?_
  intro W base args ds gs before hval0 hW hcnd hsz0 _
  have hsz : (DataW.weightsEach Try.prog (Try.f7.params.toList ++ Rows.injectUndoesSpec.plain.varTypes Try.prog) (ds ++ gs)).all (· ≤ reachBytes) = true := hsz0
  have hval : ∀ (j : Nat) t v, Try.f7.params[j]? = some t → args[j]? = some v → Value.okWide Try.prog W .any base t v := hval0
  have hW' := hW
  obtain ⟨p, q, hA0, hV, rfl, hfz, hnd⟩ := hW
  have hA : DataW.TrodAll enc Try.prog W 0 (fun _ => true) true Try.f7.params.toList args.toList ds p := hA0
  rw [Try.params7] at hA hval hsz
  obtain ⟨v0, vs0, d0, ds0, p0, q0, hargs, rfl, rfl, h0, r0⟩ := trodAll_cons hA
  obtain ⟨v1, vs1, d1, ds1, p1, q1, rfl, rfl, rfl, h1, r1⟩ := trodAll_cons r0
  obtain ⟨v2, vs2, d2, ds2, p2, q2, rfl, rfl, rfl, h2, r2⟩ := trodAll_cons r1
  obtain ⟨rfl, rfl, rfl⟩ := trodAll_nil r2
  obtain rfl : args = #[v0, v1, v2] := by cases args; simp_all
  obtain ⟨rfl, rfl⟩ := trodVars_none hV
  obtain ⟨cs0, rfl, hz0⟩ := okWide_struct Try.underlying41 (hval 0 41 v0 rfl rfl)
  obtain ⟨⟨l0_0, l0_1⟩, ⟨_, _, hcs0, ⟨A0_0, c0_0, rfl, hc0_0, hr0_0⟩, ⟨A0_1, c0_1, rfl, hc0_1, hr0_1⟩⟩, ⟨g0_0, g0_1⟩⟩ := opens_arg popens41 hsz (j := 0) rfl rfl h0
  obtain rfl : cs0 = #[.slice A0_0 l0_0.length c0_0, .slice A0_1 l0_1.length c0_1] := Array.toList_inj.1 (by simpa [Value.cells] using hcs0)
  obtain ⟨cs1, rfl, hz1⟩ := okWide_struct Try.underlying49 (hval 1 49 v1 rfl rfl)
  obtain ⟨⟨a1_0, ⟨a1_1, a1_2⟩⟩, ⟨_, _, hcs1, rfl, ⟨_, _, rfl, rfl, rfl⟩⟩, ⟨w1_0, ⟨w1_1, w1_2⟩⟩⟩ := opens_arg popens49 hsz (j := 1) rfl rfl h1
  obtain rfl : cs1 = #[.string a1_0, .int .i64 a1_1, .int .i64 a1_2] := Array.toList_inj.1 (by simpa [Value.cells] using hcs1)
  obtain ⟨a2, rfl, rfl, rfl, w2⟩ := open_int Try.underlying3 (hval 2 3 v2 rfl rfl) h2
  clear hA0 hval0 hsz0 hsz
  obtain ⟨k, h⟩ := InjectUndoes_pure (l := l0_0) (r := l0_1) (g := a1_0) (a := a1_1) (t := a1_2) (u := a2) g0_0.2.2 (by have : l0_0.length * 16 ≤ 140737488351232 := g0_0.2.1; omega) (by have : l0_1.length * 16 ≤ 140737488351232 := g0_1.2.1; omega) w1_1 w1_2 w2
  refine (lw_InjectUndoes.calls k _ _ l0_0 _ _ l0_1 a1_0 a1_1 a1_2 a2 true W hr0_0 hc0_0 hr0_1 hc0_1 h).mono fun e W' ⟨he, bel⟩ => ?_
  subst he
  exact ⟨_, rfl, _, _, _, [], _, [], hW', trodAll_mk1 (shut_bool Try.underlying4 _), (trodAll_cons_mk (Below.trod laidOut (by kernel_rfl) (of_decide_eq_true (by kernel_rfl)) h0 bel (lt_arg h0)) (trodAll_cons_mk (Below.trod laidOut (by kernel_rfl) (of_decide_eq_true (by kernel_rfl)) h1 bel (lt_arg h1)) (trodAll_cons_mk (shut_int Try.underlying3 w2) trodAll_mk0))), rfl, bel.frame _, fun h => by cases h⟩
theorem over : Rows.injectUndoesRow.holds Try.pinned (OpenSpec.ofChange Rows.injectUndoesSpec) :=
  OpenClaim.holds_of_wide 7 Try.f7 rfl rfl rfl rfl rfl rfl rfl ⟨rfl, rfl, rfl, rfl, rfl⟩ rfl rfl rfl rfl rfl (by kernel_rfl) Try.func7 (by kernel_rfl)
    (of_decide_eq_true (by kernel_rfl)) (by unfold Func.isWrapper; first | (rw [if_pos (by decide +kernel)]; kernel_rfl) | (rw [if_neg (by decide +kernel)]; exact ⟨rfl, rfl⟩))
    (fun os started H enc _ => lifted os started H enc)
theorem proved : Rows.InjectUndoesSaid := over
#print axioms proved
end Go.Proofs.Ytkcekcnnjheamaa.injectUndoes
namespace Go.Proofs.Ytkcekcnnjheamaa
/-- The row, under a short name, for the claim. -/
theorem injectUndoes_holds : Rows.InjectUndoesSaid := injectUndoes.proved
end Go.Proofs.Ytkcekcnnjheamaa
