/- A slice that is made with a length and a capacity of its own, and a row of structs that is copied into one of the call's own rows. -/
import Derived.Laws.CopyRow
import Derived.Laws.IdiomCopy
import Derived.Test.YteafkdadpdofjaaWNEv
import Derived.Test.YteafkdadpdofjaaWMore
import Derived.Test.YteafkdadpdofjaaWRepsOne
namespace Go.Proofs.YteafkdadpdofjaaW.PrintWords
open Go.RowKit
set_option linter.unusedVariables false
namespace Kd
section
variable {α : Type}
theorem R_made (d : Kd α) {W : World} (base e : Nat) {xs : List α} {inner : List Value} {ok okp : Nat → Prop}
    (hrep : Reps (d.M W base okp) d.sz xs inner) (hok : ∀ k, okp k → ok k) (hfresh : ok W.heap.size) (hbase : base ≤ W.heap.size) (hm : xs.length ≤ 9223372036854775807) :
    d.R e (W.alloc (.cells inner.toArray e)) base ok (.slice (some ⟨W.heap.size, 0, none⟩) xs.length xs.length) xs := by
  refine ⟨fun k hk => ?_, inner, ?_, ?_⟩
  · have : W.heap.size = k := by simpa [Value.ownBlock] using hk
    subst this
    exact hfresh
  · have h2 := World.ownsRow_lit (base := base) (e := e) (size := d.sz) W inner.toArray xs.length hbase (by simpa [maxLen] using hm) (by simpa using hrep.1)
    simpa using h2
  · refine hrep.imp_ (fun p c hp => d.M_mono (fun k hk => ⟨hok k hk.1, fun he => ?_⟩) (M_below (d.M_bound hp) (below_alloc (Below.refl _ _) _)))
    have h3 : k = W.heap.size := by simpa [Value.ownBlock] using he
    have := hk.2.2.1
    omega
end
section
variable {P : Program} {ops : Array Oper} {rest : List Oper} {o : Oper} {a : Act} {Q : Exit → Act → World → Prop} {α : Type}
end
section
variable {P : Program} {ops : Array Oper} {o : Oper} {a : Act} {Q : Exit → Act → World → Prop} {Kc : Act → World → Prop} {α : Type}
end
section
variable {P : Program} {ops : Array Oper} {rest : List Oper} {o : Oper} {a : Act} {Q : Exit → Act → World → Prop} {α : Type}
/-- What copy leaves of the row that is copied into. -/
def copyL (xs ys : List α) : List α := ys.take xs.length ++ xs.drop ys.length
end
section
variable {P : Program} {ops : Array Oper} {rest : List Oper} {o : Oper} {a : Act} {Q : Exit → Act → World → Prop} {α : Type}
/-- The base of a slice. -/
def baseOf : Value → Option Addr
  | .slice a _ _ => a
  | _ => none
@[go_sem, simp] theorem baseOf_slice (a : Option Addr) (n c : Nat) : baseOf (.slice a n c) = a := rfl
/-- A local array of whole numbers: its cells, told as a row of the call's own whose block bears the array's type. -/
theorem R_allocarr (k : IntKind) {w0 W : World} (base e : Nat) (hgd : o.guard = none) {N : Tmp} (_hd : o.dst = some N) (ho : o.op = .alloc e) (m : Nat) (hinfo : (P.info? e).map (fun i => (i.zero, i.size)) = some (some (.agg (List.replicate m (.int k 0)).toArray), m)) (hm : m ≤ 281474976710656)
    {ok : Nat → Prop} (hfresh : ok W.heap.size) (HB : Below base w0 W) (hbase : base ≤ W.heap.size)
    (h : ∀ v1 w1, (Kd.int k).R e w1 base ok v1 (List.replicate m 0) → Below base w0 w1 → W.grownBy w1 none → (∃ a, v1 = .slice (some a) m m) → wpList P ops Q rest (a.put o.dst (.pointer (baseOf v1))) w1) : wpList P ops Q (o :: rest) a W := by
  obtain ⟨i0, hi, hzz⟩ := Option.map_eq_some_iff.1 hinfo
  simp only [Prod.mk.injEq] at hzz
  obtain ⟨hz0, hz1⟩ := hzz
  refine wpList_plain hgd fun K hK => ?_
  have hr : (Instr.alloc e true (.tuple #[])).run P W = .ok (.pointer (some ⟨W.heap.size, 0, none⟩)) (W.alloc (.cells (List.replicate m (.int k 0)).toArray e)) := by
    simp [Instr.alloc, zeroValue, typeInfo, hi, hz0, newVar, newRow, Value.cells]
  unfold Oper.wp execOp
  simp only [ho, hr, Sem.run_bind, Sem.run_pure, Result.andThen_ok]
  refine hK _ _ (h (.slice (some ⟨W.heap.size, 0, none⟩) m m) _ ?_ (HB.alloc hbase _) (World.grownBy_alloc W _ none) ⟨_, rfl⟩)
  have h1 := R_made (Kd.int k) base e (W := W) (xs := List.replicate m 0) (inner := List.replicate m (.int k 0)) (okp := ok) (ok := ok) ?_ (fun _ h => h) hfresh hbase (by simp; omega)
  · simpa using h1
  · clear hinfo hi hz0 hz1 hm hr hK h
    induction m with
    | zero => exact Reps.none _ _
    | succ m ih => exact Reps.one rfl ih
/-- By types alone, where the block's cells need not be known. -/
theorem R_types_ex {d : Kd α} {w : World} {base e : Nat} {ok : Nat → Prop} {v : Value} {xs : List α} (h : d.R e w base ok v xs) {g t : Nat} (hb : ∃ cells, w.heap[g]? = some (.cells cells t (0, 0))) (ht : ∀ q, q ∈ e :: d.E → q ≠ t) : d.R e w base (fun k => ok k ∧ k ≠ g) v xs :=
  hb.elim fun _ hb => R_types h hb ht
end
end Kd
end Go.Proofs.YteafkdadpdofjaaW.PrintWords
