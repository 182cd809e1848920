/- I2cEncodes holds: which levels are sent for any items, or which error is returned, and what is expected of them, are those of the reference; for every configuration and every list of items, no condition. -/
import Derived.Test.YtdbpablakhfdcaaRows
import Derived.Test.YtdbpablakhfdcaaQx20
import Derived.Test.YtdbpablakhfdcaaOpen
import Derived.Test.YtdbpablakhfdcaaPuI2cEncodes
import Derived.WalkKit
import Derived.ProofKit
import Derived.OpenShut
import Derived.ShutString
import Derived.ChangeOld
import Derived.Below
import Derived.SizedLaws
namespace Go.Proofs.Ytdbpablakhfdcaa.i2cEncodes
open Go.ChangeShapes Go.WideShapes Go.ChangeAt Go.RowKit Go.Proofs.YtdbpablakhfdcaaW.PrintWords Go.Proofs.YtdbpablakhfdcaaW.PrintLast Go.Proofs.Ytdbpablakhfdcaa.Q
open Go.ChangeMaps (open_string shut_string)
set_option linter.unusedVariables false
theorem own : ownKnob Try.prog.godebug = none := by kernel_rfl
theorem laidOut : laidOutB Try.prog = true := by kernel_rfl
theorem opens3 : Opens Try.prog 3 (Kd.int .i64) (fun n => (Lit.int .i64 n).wf = true) := opens_int Try.underlying3
theorem popens23 : Opens Try.prog 23 (Kd.int .i64) (fun n => (Lit.int .i64 n).wf = true) := opens_imp (opens_struct Try.underlying23 (opensL_one opens3 rfl (by kernel_rfl)) (by kernel_rfl)) (fun _ h => h)
theorem opens9 : Opens Try.prog 9 Kd.string (fun s => s.size ≤ 140737488351232) := opens_string Try.underlying9
def G49 (x : S49) : Prop := (fun n => (Lit.int .i64 n).wf = true) x.f0 ∧ (fun n => (Lit.int .i64 n).wf = true) x.f1 ∧ (fun n => (Lit.int .i64 n).wf = true) x.f2 ∧ (fun s : ByteArray => s.size ≤ 140737488351232) x.f3 ∧ (fun n => (Lit.int .i64 n).wf = true) x.f4
theorem opens49 : Opens Try.prog 49 k49 G49 := opens_iso (opens_struct Try.underlying49 (opensL_cons opens3 rfl (by kernel_rfl) (opensL_cons opens3 rfl (by kernel_rfl) (opensL_cons opens3 rfl (by kernel_rfl) (opensL_cons opens9 rfl (by kernel_rfl) (opensL_one opens3 rfl (by kernel_rfl)) (by decide +kernel)) (by decide +kernel)) (by decide +kernel)) (by decide +kernel)) (by kernel_rfl)) (fun x : S49 => (x.f0, x.f1, x.f2, x.f3, x.f4)) (fun p => ⟨p.1, p.2.1, p.2.2.1, p.2.2.2.1, p.2.2.2.2⟩) (fun _ => rfl)
theorem opens45 : Opens Try.prog 45 (Kd.slice 49 k49) (fun xs => xs.length ≤ maxLen ∧ xs.length * 48 ≤ 140737488351232 ∧ ∀ x ∈ xs, G49 x) := opens_slice Try.underlying45 opens49 (by kernel_rfl) (by kernel_rfl)
set_option maxRecDepth 100000 in
theorem lifted (os : Os) (started : os.Started) (H : Type) (enc : TypeId × Value → H) :
    ReturnsInHanded {} Try.checked os 5 .any (Rows.i2cEncodesSpec.pre6 enc Try.prog Try.f5 Rows.i2cEncodesRow.domain false) (Rows.i2cEncodesSpec.post enc Try.prog Try.f5 false true false false) := by
  refine returnsInHanded_of_change_sized (C := Try.checked) own started (by kernel_rfl) Try.func5
    (ChangeSpec.witness6 (enc := enc) (C := Try.checked) false ⟨#[], #[.agg #[.int .i64 0], .slice none 0 0], []⟩ 8 (by kernel_rfl) (by kernel_rfl) (by kernel_rfl) (by kernel_rfl)) ?_
  intro W base args ds gs before hval0 hW hcnd hsz0 _
  have hsz : (DataW.weightsEach Try.prog (Try.f5.params.toList ++ Rows.i2cEncodesSpec.plain.varTypes Try.prog) (ds ++ gs)).all (· ≤ reachBytes) = true := hsz0
  have hval : ∀ (j : Nat) t v, Try.f5.params[j]? = some t → args[j]? = some v → Value.okWide Try.prog W .any base t v := hval0
  have hW' := hW
  obtain ⟨p, q, hA0, hV, rfl, hfz, hnd⟩ := hW
  have hA : DataW.TrodAll enc Try.prog W 0 (fun _ => true) true Try.f5.params.toList args.toList ds p := hA0
  rw [Try.params5] at hA hval hsz
  obtain ⟨v0, vs0, d0, ds0, p0, q0, hargs, rfl, rfl, h0, r0⟩ := trodAll_cons hA
  obtain ⟨v1, vs1, d1, ds1, p1, q1, rfl, rfl, rfl, h1, r1⟩ := trodAll_cons r0
  obtain ⟨rfl, rfl, rfl⟩ := trodAll_nil r1
  obtain rfl : args = #[v0, v1] := by cases args; simp_all
  obtain ⟨rfl, rfl⟩ := trodVars_none hV
  obtain ⟨cs0, rfl, hz0⟩ := okWide_struct Try.underlying23 (hval 0 23 v0 rfl rfl)
  obtain ⟨a0_0, hcs0, w0_0⟩ := opens_arg popens23 hsz (j := 0) rfl rfl h0
  replace hcs0 : (Value.agg cs0).cells.toList = [.int .i64 a0_0] := hcs0
  obtain rfl : cs0 = #[.int .i64 a0_0] := Array.toList_inj.1 (by simpa [Value.cells] using hcs0)
  obtain ⟨b1, len1, cap1, rfl⟩ := okWide_slice Try.underlying45 (hval 1 45 v1 rfl rfl)
  obtain ⟨l1, ⟨A1, c1, hcs1, hc1, hr1⟩, g1⟩ := opens_arg opens45 hsz (j := 1) rfl rfl h1
  obtain ⟨rfl, rfl, rfl⟩ : b1 = A1 ∧ len1 = l1.length ∧ cap1 = c1 := by simpa [Value.cells] using hcs1
  clear hA0 hval0 hsz0 hsz
  obtain ⟨k, h⟩ := I2cEncodes_pure (l := l1) a0_0 (by have := g1.2.1; omega)
  refine (lw_I2cEncodes.calls k a0_0 _ _ l1 true W hr1 hc1 h).mono fun e W' ⟨he, bel⟩ => ?_
  subst he
  exact ⟨_, rfl, _, _, _, [], _, [], hW', trodAll_mk1 (shut_bool Try.underlying4 _), (trodAll_cons_mk (Below.trod laidOut (by kernel_rfl) (of_decide_eq_true (by kernel_rfl)) h0 bel (lt_arg h0)) (trodAll_cons_mk (Below.trod laidOut (by kernel_rfl) (of_decide_eq_true (by kernel_rfl)) h1 bel (lt_arg h1)) trodAll_mk0)), rfl, bel.frame _, fun h => by cases h⟩
theorem over : Rows.i2cEncodesRow.holds Try.pinned (OpenSpec.ofChange Rows.i2cEncodesSpec) :=
  OpenClaim.holds_of_wide 5 Try.f5 rfl rfl rfl rfl rfl rfl rfl ⟨rfl, rfl, rfl, rfl, rfl⟩ rfl rfl rfl rfl rfl (by kernel_rfl) Try.func5 (by kernel_rfl)
    (of_decide_eq_true (by kernel_rfl)) (by unfold Func.isWrapper; first | (rw [if_pos (by decide +kernel)]; kernel_rfl) | (rw [if_neg (by decide +kernel)]; exact ⟨rfl, rfl⟩))
    (fun os started H enc _ => lifted os started H enc)
theorem proved : Rows.I2cEncodesSaid := over
#print axioms proved
end Go.Proofs.Ytdbpablakhfdcaa.i2cEncodes
namespace Go.Proofs.Ytdbpablakhfdcaa
/-- The row, under a short name, for the claim. -/
theorem i2cEncodes_holds : Rows.I2cEncodesSaid := i2cEncodes.proved
end Go.Proofs.Ytdbpablakhfdcaa
