/- Small plain facts on whole numbers, bits and rounds that the pure proofs of this seat share; no condition beside those that each bears. -/
import Derived.Laws.BitsAllLaws
import Derived.WalkKit
import Derived.Test.YtakjoggjggcdpaaWMore
namespace Go.Proofs.Ytakjoggjggcdpaa
open Go Go.RowKit Go.Proofs.YtakjoggjggcdpaaW.PrintWords Go.Proofs.YtakjoggjggcdpaaW.PrintLast
set_option linter.unusedVariables false
theorem w64 {x : Int} (h0 : -9223372036854775808 ≤ x) (h1 : x ≤ 9223372036854775807) : wrap64 x = x := by
  unfold wrap64
  omega
theorem wf64 {x : Int} (h : (Lit.int .i64 x).wf = true) : -9223372036854775808 ≤ x ∧ x ≤ 9223372036854775807 := by
  simp [Lit.wf, IntKind.min, IntKind.max, IntKind.bits, IntKind.signed] at h
  omega
theorem andNot1 {a : Int} (h : (Lit.int .i64 a).wf = true) : Go.bits .andNot .i64 a 1 = 0 ↔ a = 0 ∨ a = 1 := by
  have hw := wf64 h
  have e1 : Go.bits .andNot .i64 a 1 = IntKind.i64.wrap (((BitVec.ofInt 64 a &&& ~~~BitVec.ofInt 64 1).toNat : Nat) : Int) := rfl
  have e2 : (BitVec.ofInt 64 a &&& ~~~BitVec.ofInt 64 1).toNat = (BitVec.ofInt 64 a).toNat &&& 18446744073709551614 := by
    rw [BitVec.toNat_and]
    rfl
  have e3 : ((BitVec.ofInt 64 a).toNat : Int) = a % 18446744073709551616 := by
    rw [BitVec.toNat_ofInt]
    omega
  rw [e1, e2, nat_hi64_1, IntKind.wrap_i64]
  omega
theorem xor1_0 : Go.bits .xor .i64 0 1 = 1 := by decide
theorem xor1_1 : Go.bits .xor .i64 1 1 = 0 := by decide
theorem ev_if_pos {α : Type} {g f : Nat → Option α} {p : Prop} [Decidable p] {r : α} (hp : p) (h : Ev g r) : Ev (fun k => if p then g k else f k) r := by
  simp only [if_pos hp]
  exact h
theorem ev_if_neg {α : Type} {g f : Nat → Option α} {p : Prop} [Decidable p] {r : α} (hp : ¬ p) (h : Ev f r) : Ev (fun k => if p then g k else f k) r := by
  simp only [if_neg hp]
  exact h
theorem succ_mid {α : Type} (pre : List α) (x : α) (h : pre.length ≤ 9223372036854775806) : wrap64 ((pre.length : Int) + 1) = ((pre ++ [x]).length : Int) := by
  rw [w64 (by omega) (by omega)]
  simp
theorem wrap01 : wrap64 (0 + 1) = 1 := by
  unfold wrap64
  rfl
theorem mid_snoc {α : Type} (pre post : List α) (x : α) : pre ++ x :: post = (pre ++ [x]) ++ post := by simp
end Go.Proofs.Ytakjoggjggcdpaa
