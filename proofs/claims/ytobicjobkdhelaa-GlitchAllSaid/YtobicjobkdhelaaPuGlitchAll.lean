/- The law GlitchAll as a plain statement on numbers and lists: with enough rounds it answers true; conditions: each number is one of its kind, no list or string is longer than its memory allows. -/
import Derived.Laws.BitsAllLaws
import Derived.WalkKit
import Derived.Test.YtobicjobkdhelaaWMore
import Derived.Laws.Strings
import Derived.Test.YtobicjobkdhelaaQx0
import Derived.Test.YtobicjobkdhelaaQx2
import Derived.Test.YtobicjobkdhelaaQx3
import Derived.Test.YtobicjobkdhelaaQx4
import Derived.Test.YtobicjobkdhelaaQx6
import Derived.Test.YtobicjobkdhelaaQx7
import Derived.Test.YtobicjobkdhelaaQx8
import Derived.Test.YtobicjobkdhelaaQx9
import Derived.Test.YtobicjobkdhelaaQx10
import Derived.Test.YtobicjobkdhelaaQx11
import Derived.Test.YtobicjobkdhelaaQx12
import Derived.Test.YtobicjobkdhelaaQx13
import Derived.Test.YtobicjobkdhelaaQx14
import Derived.Test.YtobicjobkdhelaaQx15
import Derived.Test.YtobicjobkdhelaaQx16
import Derived.Test.YtobicjobkdhelaaQx17
import Derived.Test.YtobicjobkdhelaaQx18
import Derived.Test.YtobicjobkdhelaaQx19
import Derived.Test.YtobicjobkdhelaaQx20
import Derived.Test.YtobicjobkdhelaaQx21
import Derived.Test.YtobicjobkdhelaaQx22
import Derived.Test.YtobicjobkdhelaaQx23
import Derived.Test.YtobicjobkdhelaaQx24
import Derived.Test.YtobicjobkdhelaaQx26
import Derived.Test.YtobicjobkdhelaaQx27
import Derived.Test.YtobicjobkdhelaaQx28
import Derived.Test.YtobicjobkdhelaaQx29
import Derived.Test.YtobicjobkdhelaaQx30
namespace Go.Proofs.Ytobicjobkdhelaa
open Go Go.RowKit Go.Proofs.YtobicjobkdhelaaW.PrintWords Go.Proofs.YtobicjobkdhelaaW.PrintLast Go.Proofs.Ytobicjobkdhelaa.Q
set_option linter.unusedVariables false
theorem w64 {x : Int} (h0 : -9223372036854775808 ≤ x) (h1 : x ≤ 9223372036854775807) : wrap64 x = x := by
 unfold wrap64
 omega
theorem wf64 {x : Int} (h : (Lit.int .i64 x).wf = true) : -9223372036854775808 ≤ x ∧ x ≤ 9223372036854775807 := by
 simp [Lit.wf, IntKind.min, IntKind.max, IntKind.bits, IntKind.signed] at h
 omega
theorem andNot1 {a : Int} (h : (Lit.int .i64 a).wf = true) : Go.bits .andNot .i64 a 1 = 0 ↔ a = 0 ∨ a = 1 := by
 have hw := wf64 h
 have e1 : Go.bits .andNot .i64 a 1 = IntKind.i64.wrap (((BitVec.ofInt 64 a &&& ~~~BitVec.ofInt 64 1).toNat : Nat) : Int) := rfl
 have e2 : (BitVec.ofInt 64 a &&& ~~~BitVec.ofInt 64 1).toNat = (BitVec.ofInt 64 a).toNat &&& 18446744073709551614 := by
  rw [BitVec.toNat_and]
  rfl
 have e3 : ((BitVec.ofInt 64 a).toNat : Int) = a % 18446744073709551616 := by
  rw [BitVec.toNat_ofInt]
  omega
 rw [e1, e2, nat_hi64_1, IntKind.wrap_i64]
 omega
theorem succ_mid {α : Type} (pre : List α) (x : α) (h : pre.length ≤ 9223372036854775806) : wrap64 ((pre.length : Int) + 1) = ((pre ++ [x]).length : Int) := by
 rw [w64 (by omega) (by omega)]
 simp
theorem wrap01 : wrap64 (0 + 1) = 1 := by
 unfold wrap64
 rfl
theorem mid_snoc {α : Type} (pre post : List α) (x : α) : pre ++ x :: post = (pre ++ [x]) ++ post := by simp
def sm : List S48 → Int
 | [] => 0
 | x :: l => x.f1 + sm l
def vldF (left : Int) : List S48 → Bool
 | [] => true
 | x :: l => if (x.f0 = 0 ∨ x.f0 = 1) ∧ 1 ≤ x.f1 ∧ x.f1 ≤ left then vldF (left - x.f1) l else false
def vld (l : List S48) : Bool := if l.length ≤ 262144 then vldF 1099511627776 l else false
def RunWf (x : S48) : Prop := (Lit.int .i64 x.f0).wf = true ∧ (Lit.int .i64 x.f1).wf = true
def RunsWf (l : List S48) : Prop := ∀ x ∈ l, RunWf x
def RunsOk (l : List S48) : Prop := ∀ x ∈ l, (x.f0 = 0 ∨ x.f0 = 1) ∧ 1 ≤ x.f1
theorem rd_mid (pre post : List S48) (x : S48) : rd_T48 (pre ++ x :: post) (pre.length : Int) = x := by simp [rd_T48, List.getD]
theorem mid_lt (pre post : List S48) (x : S48) : (pre.length : Int) < ((pre ++ x :: post).length : Int) := by
 simp only [List.length_append, List.length_cons]
 omega
theorem sm_nonneg : ∀ {l : List S48}, RunsOk l → 0 ≤ sm l
 | [], _ => Int.le_refl _
 | x :: l, h => by
  have h1 := h x (by simp)
  have h2 := sm_nonneg (l := l) (fun y hy => h y (by simp [hy]))
  simp only [sm]
  omega
theorem sm_append : ∀ (a b : List S48), sm (a ++ b) = sm a + sm b
 | [], b => by simp [sm]
 | x :: a, b => by
  have := sm_append a b
  simp only [List.cons_append, sm]
  omega
theorem vldF_iff : ∀ {l : List S48} {left : Int}, 0 ≤ left → (vldF left l = true ↔ RunsOk l ∧ sm l ≤ left)
 | [], left, h => by simp [vldF, RunsOk, sm, h]
 | x :: l, left, h => by
  unfold vldF
  by_cases c : (x.f0 = 0 ∨ x.f0 = 1) ∧ 1 ≤ x.f1 ∧ x.f1 ≤ left
  ·rw [if_pos c, vldF_iff (l := l) (by omega)]
   simp only [RunsOk, sm, List.mem_cons, forall_eq_or_imp]
   constructor
   ·rintro ⟨h1, h2⟩
    exact ⟨⟨⟨c.1, c.2.1⟩, h1⟩, by omega⟩
   ·rintro ⟨⟨h1, h2⟩, h3⟩
    exact ⟨h2, by omega⟩
  ·rw [if_neg c]
   simp only [Bool.false_eq_true, false_iff]
   rintro ⟨h1, h2⟩
   have h3 := h1 x (by simp)
   have h4 := sm_nonneg (l := l) (fun y hy => h1 y (by simp [hy]))
   simp only [sm] at h2
   exact c ⟨h3.1, h3.2, by omega⟩
theorem vld_iff {l : List S48} : vld l = true ↔ l.length ≤ 262144 ∧ RunsOk l ∧ sm l ≤ 1099511627776 := by
 unfold vld
 by_cases c : l.length ≤ 262144
 ·rw [if_pos c, vldF_iff (by omega)]
  simp [c]
 ·rw [if_neg c]
  simp [c]
theorem RunsOk.cons {x : S48} {l : List S48} (h : RunsOk (x :: l)) : ((x.f0 = 0 ∨ x.f0 = 1) ∧ 1 ≤ x.f1) ∧ RunsOk l := ⟨h x (by simp), fun y hy => h y (by simp [hy])⟩
theorem RunsOk.left {a b : List S48} (h : RunsOk (a ++ b)) : RunsOk a := fun x hx => h x (List.mem_append_left _ hx)
theorem wave_Valid_l0 : ∀ (post pre : List S48) (left : Int), 0 ≤ left → left ≤ 1099511627776 → RunsWf post → (pre ++ post).length ≤ 140737488351232 →
  Ev (fun k => wave_Valid.l0 k left (pre ++ post) ((pre ++ post).length : Int) (pre.length : Int)) (vldF left post)
 | [], pre, left, h0, h1, hw, hl => by
  refine Ev.step (f := fun _ => some true) (fun k => ?_) (Ev.now _)
  simp only [wave_Valid.l0]
  rw [if_neg (by simp)]
 | x :: post, pre, left, h0, h1, hw, hl => by
  have hx := hw x (by simp)
  have hlt := mid_lt pre post x
  have hn : pre.length ≤ 9223372036854775806 := by
   simp only [List.length_append, List.length_cons] at hl
   omega
  by_cases c : (x.f0 = 0 ∨ x.f0 = 1) ∧ 1 ≤ x.f1 ∧ x.f1 ≤ left
  ·have ih := wave_Valid_l0 post (pre ++ [x]) (left - x.f1) (by omega) (by omega) (fun y hy => hw y (by simp [hy])) (by simpa using hl)
   rw [← mid_snoc] at ih
   rw [vldF, if_pos c]
   refine Ev.step (fun k => ?_) ih
   simp only [wave_Valid.l0]
   rw [rd_mid, if_pos hlt, if_pos (by omega), if_pos hlt, if_pos ((andNot1 hx.1).2 c.1), if_neg (by omega), if_neg (by omega), w64 (by omega) (by omega), succ_mid _ _ hn]
  ·rw [vldF, if_neg c]
   refine Ev.step (f := fun _ => some false) (fun k => ?_) (Ev.now _)
   simp only [wave_Valid.l0]
   rw [rd_mid, if_pos hlt, if_pos (by omega), if_pos hlt]
   by_cases c1 : x.f0 = 0 ∨ x.f0 = 1
   ·rw [if_pos ((andNot1 hx.1).2 c1)]
    by_cases c2 : x.f1 < 1
    ·rw [if_pos c2]
    ·rw [if_neg c2, if_pos (by
      have : ¬ (1 ≤ x.f1 ∧ x.f1 ≤ left) := fun h => c ⟨c1, h⟩
      omega)]
   ·rw [if_neg (fun h => c1 ((andNot1 hx.1).1 h))]
theorem wave_Valid_ev {l : List S48} (hw : RunsWf l) (hl : l.length ≤ 140737488351232) : Ev (fun k => wave_Valid.f k l) (vld l) := by
 unfold vld
 by_cases c : l.length ≤ 262144
 ·rw [if_pos c]
  refine Ev.congr (fun k => ?_) (wave_Valid_l0 l [] 1099511627776 (by omega) (by omega) hw (by simpa using hl))
  unfold wave_Valid.f
  rw [if_neg (by omega)]
  rfl
 ·rw [if_neg c]
  refine Ev.congr (fun k => ?_) (Ev.now _)
  unfold wave_Valid.f
  rw [if_pos (by omega)]
theorem ref_Valid_l0 : ∀ (post pre : List S48) (s : Int), 0 ≤ s → s ≤ 1099511627776 → RunsWf post → (pre ++ post).length ≤ 140737488351232 →
  Ev (fun k => signalbenchref08_Valid.l0 k (pre ++ post) s (pre.length : Int)) (vldF (1099511627776 - s) post)
 | [], pre, s, h0, h1, hw, hl => by
  refine Ev.step (f := fun _ => some true) (fun k => ?_) (Ev.now _)
  simp only [signalbenchref08_Valid.l0]
  rw [if_neg (by simp)]
 | x :: post, pre, s, h0, h1, hw, hl => by
  have hx := hw x (by simp)
  have hx1 := wf64 hx.2
  have hlt := mid_lt pre post x
  have hn : pre.length ≤ 9223372036854775806 := by
   simp only [List.length_append, List.length_cons] at hl
   omega
  by_cases c1 : x.f0 = 0 ∨ x.f0 = 1
  ·have e0 : ∀ k, signalbenchref08_Valid.l0 (k + 1) (pre ++ x :: post) s (pre.length : Int) = signalbenchref08_Valid.j1 k (pre ++ x :: post) s (pre.length : Int) false := by
    intro k
    simp only [signalbenchref08_Valid.l0]
    rw [rd_mid, if_pos hlt, if_pos (by omega)]
    rcases c1 with c1 | c1
    ·rw [if_pos c1]
    ·rw [if_neg (by omega), c1]
     rfl
   refine Ev.step e0 ?_
   by_cases c : 1 ≤ x.f1 ∧ x.f1 ≤ 1099511627776 - s
   ·have ih := ref_Valid_l0 post (pre ++ [x]) (s + x.f1) (by omega) (by omega) (fun y hy => hw y (by simp [hy])) (by simpa using hl)
    rw [← mid_snoc] at ih
    rw [vldF, if_pos ⟨c1, c⟩]
    have e1 : 1099511627776 - (s + x.f1) = 1099511627776 - s - x.f1 := by omega
    rw [e1] at ih
    refine Ev.step (fun k => ?_) ih
    simp only [signalbenchref08_Valid.j1]
    rw [rd_mid, if_neg (by simp), if_pos (by omega), if_pos hlt, if_neg (by omega), if_neg (by rw [w64 (by omega) (by omega)]; omega), w64 (by omega) (by omega), succ_mid _ _ hn]
   ·rw [vldF, if_neg (fun h => c h.2)]
    refine Ev.step (f := fun _ => some false) (fun k => ?_) (Ev.now _)
    simp only [signalbenchref08_Valid.j1]
    rw [rd_mid, if_neg (by simp), if_pos (by omega), if_pos hlt]
    by_cases c2 : x.f1 < 1
    ·rw [if_pos c2]
    ·rw [if_neg c2, if_pos (by rw [w64 (by omega) (by omega)]; omega)]
  ·rw [vldF, if_neg (fun h => c1 h.1)]
   refine Ev.step (f := fun k => signalbenchref08_Valid.j1 k (pre ++ x :: post) s (pre.length : Int) true) (fun k => ?_) (Ev.step (f := fun _ => some false) (fun k => ?_) (Ev.now _))
   ·simp only [signalbenchref08_Valid.l0]
    rw [rd_mid, if_pos hlt, if_pos (by omega), if_neg (by omega)]
    congr 1
    simp
    omega
   ·simp only [signalbenchref08_Valid.j1]
    rw [if_pos trivial]
theorem ref_Valid_ev {l : List S48} (hw : RunsWf l) (hl : l.length ≤ 140737488351232) : Ev (fun k => signalbenchref08_Valid.f k l) (vld l) := by
 unfold vld
 by_cases c : l.length ≤ 262144
 ·rw [if_pos c]
  have h := ref_Valid_l0 l [] 0 (by omega) (by omega) hw (by simpa using hl)
  refine Ev.congr (fun k => ?_) h
  unfold signalbenchref08_Valid.f
  rw [if_neg (by omega)]
  rfl
 ·rw [if_neg c]
  refine Ev.congr (fun k => ?_) (Ev.now _)
  unfold signalbenchref08_Valid.f
  rw [if_pos (by omega)]
def longV (l : List S48) : Int := if vld l = true then sm l else 0
theorem wave_sum_l0 : ∀ (post pre : List S48) (s : Int), 0 ≤ s → s + sm post ≤ 4611686018427387904 → RunsOk post → (pre ++ post).length ≤ 140737488351232 →
  Ev (fun k => wave_sum.l0 k s (pre ++ post) ((pre ++ post).length : Int) (pre.length : Int)) (s + sm post)
 | [], pre, s, h0, h1, hw, hl => by
  refine Ev.step (f := fun _ => some s) (fun k => ?_) ?_
  ·simp only [wave_sum.l0]
   rw [if_neg (by simp)]
  ·simp only [sm, Int.add_zero]
   exact Ev.now _
 | x :: post, pre, s, h0, h1, hw, hl => by
  have hx := hw.cons
  have hs := sm_nonneg hx.2
  simp only [sm] at h1
  have hlt := mid_lt pre post x
  have hn : pre.length ≤ 9223372036854775806 := by
   simp only [List.length_append, List.length_cons] at hl
   omega
  have ih := wave_sum_l0 post (pre ++ [x]) (s + x.f1) (by omega) (by omega) hx.2 (by simpa using hl)
  rw [← mid_snoc] at ih
  have e1 : s + sm (x :: post) = s + x.f1 + sm post := by
   simp only [sm]
   omega
  rw [e1]
  refine Ev.step (fun k => ?_) ih
  simp only [wave_sum.l0]
  rw [rd_mid, if_pos hlt, if_pos (by omega), if_pos hlt, w64 (x := s + x.f1) (by omega) (by omega), succ_mid _ _ hn]
theorem wave_sum_ev {l : List S48} (hw : RunsOk l) (hs : sm l ≤ 4611686018427387904) (hl : l.length ≤ 140737488351232) : Ev (fun k => wave_sum.f k l) (sm l) := by
 have h := wave_sum_l0 l [] 0 (by omega) (by omega) hw (by simpa using hl)
 rw [Int.zero_add] at h
 exact Ev.congr (fun k => rfl) h
theorem wave_Long_ev {l : List S48} (hw : RunsWf l) (hl : l.length ≤ 140737488351232) : Ev (fun k => wave_Long.f k l) (longV l) := by
 unfold longV
 refine Ev.bind (wave_Valid_ev hw hl) ?_
 by_cases v : vld l = true
 ·simp only [if_pos v]
  have hv := vld_iff.1 v
  exact Ev.bind (wave_sum_ev hv.2.1 (by omega) hl) (Ev.now _)
 ·simp only [if_neg v]
  exact Ev.now _
def jnc (x : S48) : List S48 → List S48
 | [] => [x]
 | y :: l => if x.f0 = y.f0 then jnc ⟨x.f0, x.f1 + y.f1⟩ l else x :: jnc y l
def jn : List S48 → List S48
 | [] => []
 | x :: l => jnc x l
theorem last_at (o : List S48) (x : S48) (h : o.length ≤ 9223372036854775806) : wrap64 (((o ++ [x]).length : Int) - 1) = (o.length : Int) := by
 rw [w64 (by simp only [List.length_append, List.length_cons, List.length_nil]; omega) (by simp only [List.length_append, List.length_cons, List.length_nil]; omega)]
 simp
theorem rd_last (o : List S48) (x : S48) : rd_T48 (o ++ [x]) (o.length : Int) = x := rd_mid o [] x
theorem set_last (o : List S48) (x y : S48) : (o ++ [x]).set ((o.length : Int)).toNat y = o ++ [y] := by
 rw [Int.toNat_natCast, List.set_append_right _ _ (Nat.le_refl _), Nat.sub_self]
 rfl
theorem snoc_pos (o : List S48) (x : S48) : ((o ++ [x]).length : Int) > 0 := by
 simp only [List.length_append, List.length_cons, List.length_nil]
 omega
theorem last_lt (o : List S48) (x : S48) : (o.length : Int) < ((o ++ [x]).length : Int) := mid_lt o [] x
theorem wave_joined_l0 : ∀ (post pre o : List S48) (x : S48), 0 ≤ x.f1 → x.f1 + sm post ≤ 4611686018427387904 → RunsOk post → (pre ++ post).length ≤ 140737488351232 → o.length + post.length ≤ 4398046511104 →
  Ev (fun k => wave_joined.l0 k (o ++ [x]) (pre ++ post) ((pre ++ post).length : Int) (pre.length : Int)) (o ++ jnc x post)
 | [], pre, o, x, h0, h1, hw, hl, ho => by
  refine Ev.step (f := fun _ => some (o ++ [x])) (fun k => ?_) (Ev.now _)
  simp only [wave_joined.l0]
  rw [if_neg (by simp)]
 | y :: post, pre, o, x, h0, h1, hw, hl, ho => by
  have hy := hw.cons
  have hs := sm_nonneg hy.2
  simp only [sm] at h1
  simp only [List.length_cons] at ho
  have hlt := mid_lt pre post y
  have hn : pre.length ≤ 9223372036854775806 := by
   simp only [List.length_append, List.length_cons] at hl
   omega
  by_cases c : x.f0 = y.f0
  ·have ih := wave_joined_l0 post (pre ++ [y]) o ⟨x.f0, x.f1 + y.f1⟩ (by simp only; omega) (by simp only; omega) hy.2 (by simpa using hl) (by omega)
   rw [← mid_snoc pre post y] at ih
   rw [jnc, if_pos c]
   refine Ev.step (fun k => ?_) ih
   simp only [wave_joined.l0]
   rw [rd_mid, if_pos hlt, if_pos (by omega), if_pos hlt, if_pos (snoc_pos o x), last_at o x (by omega), if_pos (by omega), if_pos (last_lt o x), rd_last, if_pos c, set_last, w64 (x := x.f1 + y.f1) (by omega) (by omega), succ_mid pre y hn]
  ·have ih := wave_joined_l0 post (pre ++ [y]) (o ++ [x]) y (by omega) (by omega) hy.2 (by simpa using hl) (by simp only [List.length_append, List.length_cons, List.length_nil]; omega)
   rw [← mid_snoc pre post y] at ih
   rw [jnc, if_neg c, show o ++ x :: jnc y post = (o ++ [x]) ++ jnc y post by simp]
   refine Ev.step (fun k => ?_) ih
   simp only [wave_joined.l0]
   rw [rd_mid, if_pos hlt, if_pos (by omega), if_pos hlt, if_pos (snoc_pos o x), last_at o x (by omega), if_pos (by omega), if_pos (last_lt o x), rd_last, if_neg c, if_pos (by simp only [List.length_append, List.length_cons, List.length_nil]; omega), succ_mid pre y hn]
theorem wave_joined_ev {l : List S48} (hw : RunsOk l) (hs : sm l ≤ 4611686018427387904) (hl : l.length ≤ 4398046511104) : Ev (fun k => wave_joined.f k l) (jn l) := by
 refine Ev.congr (f := fun k => wave_joined.l0 k [] l (l.length : Int) 0) (fun k => rfl) ?_
 cases l with
 | nil =>
  refine Ev.step (f := fun _ => some []) (fun k => ?_) (Ev.now _)
  simp only [wave_joined.l0]
  rw [if_neg (by simp)]
 | cons x l =>
  have hx := hw.cons
  simp only [sm] at hs
  simp only [List.length_cons] at hl
  have h := wave_joined_l0 l [x] [] x (by omega) (by omega) hx.2 (by simp; omega) (by simp; omega)
  refine Ev.step (fun k => ?_) h
  simp only [wave_joined.l0]
  have e := rd_mid [] l x
  simp only [List.nil_append, List.length_nil] at e
  have e' : rd_T48 (x :: l) 0 = x := e
  rw [e', if_pos (by simp only [List.length_cons]; omega), if_pos (by omega), if_pos (by simp only [List.length_cons]; omega), if_neg (by simp), if_pos (by simp), wrap01]
  rfl
/-- The clean wave. -/
def cleanV (l : List S48) : List S48 := if vld l = true then jn l else []
theorem wave_Clean_ev {l : List S48} (hw : RunsWf l) (hl : l.length ≤ 140737488351232) : Ev (fun k => wave_Clean.f k l) (cleanV l) := by
 unfold cleanV
 refine Ev.bind (wave_Valid_ev hw hl) ?_
 by_cases v : vld l = true
 ·simp only [if_pos v]
  have hv := vld_iff.1 v
  exact Ev.bind (wave_joined_ev hv.2.1 (by omega) (by omega)) (Ev.now _)
 ·simp only [if_neg v]
  exact Ev.now _
theorem ref_joined_l0 : ∀ (post pre o : List S48) (x : S48), 0 ≤ x.f1 → x.f1 + sm post ≤ 4611686018427387904 → RunsOk post → (pre ++ post).length ≤ 140737488351232 → o.length + post.length ≤ 4398046511104 →
  Ev (fun k => signalbenchref08_joined.l0 k (pre ++ post) (o ++ [x]) (pre.length : Int)) (o ++ jnc x post)
 | [], pre, o, x, h0, h1, hw, hl, ho => by
  refine Ev.step (f := fun _ => some (o ++ [x])) (fun k => ?_) (Ev.now _)
  simp only [signalbenchref08_joined.l0]
  rw [if_neg (by simp)]
 | y :: post, pre, o, x, h0, h1, hw, hl, ho => by
  have hy := hw.cons
  have hs := sm_nonneg hy.2
  simp only [sm] at h1
  simp only [List.length_cons] at ho
  have hlt := mid_lt pre post y
  have hn : pre.length ≤ 9223372036854775806 := by
   simp only [List.length_append, List.length_cons] at hl
   omega
  by_cases c : x.f0 = y.f0
  ·have ih := ref_joined_l0 post (pre ++ [y]) o ⟨x.f0, x.f1 + y.f1⟩ (by simp only; omega) (by simp only; omega) hy.2 (by simpa using hl) (by omega)
   rw [← mid_snoc pre post y] at ih
   rw [jnc, if_pos c]
   refine Ev.step (fun k => ?_) ih
   simp only [signalbenchref08_joined.l0]
   rw [rd_mid, if_pos hlt, if_pos (snoc_pos o x), last_at o x (by omega), if_pos (by omega), if_pos (last_lt o x), if_pos (by omega), rd_last, if_pos c, set_last, w64 (x := x.f1 + y.f1) (by omega) (by omega), succ_mid pre y hn]
  ·have ih := ref_joined_l0 post (pre ++ [y]) (o ++ [x]) y (by omega) (by omega) hy.2 (by simpa using hl) (by simp only [List.length_append, List.length_cons, List.length_nil]; omega)
   rw [← mid_snoc pre post y] at ih
   rw [jnc, if_neg c, show o ++ x :: jnc y post = (o ++ [x]) ++ jnc y post by simp]
   refine Ev.step (fun k => ?_) ih
   simp only [signalbenchref08_joined.l0]
   rw [rd_mid, if_pos hlt, if_pos (snoc_pos o x), last_at o x (by omega), if_pos (by omega), if_pos (last_lt o x), if_pos (by omega), rd_last, if_neg c, if_pos (by simp only [List.length_append, List.length_cons, List.length_nil]; omega), succ_mid pre y hn]
theorem ref_joined_ev {l : List S48} (hw : RunsOk l) (hs : sm l ≤ 4611686018427387904) (hl : l.length ≤ 4398046511104) : Ev (fun k => signalbenchref08_joined.f k l) (jn l) := by
 have hf : ∀ k, signalbenchref08_joined.f k l = signalbenchref08_joined.l0 k l [] 0 := fun k => by
  unfold signalbenchref08_joined.f
  rw [if_pos (by omega), if_pos (by omega)]
  rfl
 refine Ev.congr hf ?_
 cases l with
 | nil =>
  refine Ev.step (f := fun _ => some []) (fun k => ?_) (Ev.now _)
  simp only [signalbenchref08_joined.l0]
  rw [if_neg (by simp)]
 | cons x l =>
  have hx := hw.cons
  simp only [sm] at hs
  simp only [List.length_cons] at hl
  have h := ref_joined_l0 l [x] [] x (by omega) (by omega) hx.2 (by simp; omega) (by simp; omega)
  refine Ev.step (fun k => ?_) h
  simp only [signalbenchref08_joined.l0]
  have e := rd_mid [] l x
  simp only [List.nil_append, List.length_nil] at e
  have e' : rd_T48 (x :: l) 0 = x := e
  rw [e', if_pos (by simp only [List.length_cons]; omega), if_neg (by simp), if_pos (by omega), if_pos (by simp), wrap01]
  rfl
theorem ref_Clean_ev {l : List S48} (hw : RunsWf l) (hl : l.length ≤ 140737488351232) : Ev (fun k => signalbenchref08_Clean.f k l) (cleanV l) := by
 unfold cleanV
 refine Ev.bind (ref_Valid_ev hw hl) ?_
 by_cases v : vld l = true
 ·simp only [if_pos v]
  have hv := vld_iff.1 v
  exact Ev.bind (ref_joined_ev hv.2.1 (by omega) (by omega)) (Ev.now _)
 ·simp only [if_neg v]
  exact Ev.now _
theorem jnc_sm : ∀ (l : List S48) (x : S48), sm (jnc x l) = x.f1 + sm l
 | [], x => rfl
 | y :: l, x => by
  unfold jnc
  split
  ·rw [jnc_sm l]
   simp only [sm]
   omega
  ·simp only [sm]
   rw [jnc_sm l y]
theorem jn_sm (l : List S48) : sm (jn l) = sm l := by
 cases l with
 | nil => rfl
 | cons x l => exact jnc_sm l x
theorem jnc_len : ∀ (l : List S48) (x : S48), (jnc x l).length ≤ l.length + 1
 | [], x => Nat.le_refl _
 | y :: l, x => by
  unfold jnc
  split
  ·have := jnc_len l ⟨x.f0, x.f1 + y.f1⟩
   simp only [List.length_cons]
   omega
  ·have := jnc_len l y
   simp only [List.length_cons]
   omega
theorem jn_len (l : List S48) : (jn l).length ≤ l.length := by
 cases l with
 | nil => exact Nat.le_refl _
 | cons x l => exact jnc_len l x
theorem jnc_ok : ∀ (l : List S48) (x : S48), RunsOk (x :: l) → RunsOk (jnc x l)
 | [], x, h => h
 | y :: l, x, h => by
  have hx := h.cons
  have hy := hx.2.cons
  unfold jnc
  split
  ·refine jnc_ok l _ (fun z hz => ?_)
   rcases List.mem_cons.1 hz with rfl | hz
   ·exact ⟨hx.1.1, by simp only; omega⟩
   ·exact hy.2 z hz
  ·intro z hz
   rcases List.mem_cons.1 hz with rfl | hz
   ·exact hx.1
   ·exact jnc_ok l y hx.2 z hz
theorem jn_ok {l : List S48} (h : RunsOk l) : RunsOk (jn l) := by
 cases l with
 | nil => exact h
 | cons x l => exact jnc_ok l x h
/-- No two runs of one level side by side: behind a run of level p. -/
def apartF : Int → List S48 → Prop
 | _, [] => True
 | p, x :: l => p ≠ x.f0 ∧ apartF x.f0 l
def apart : List S48 → Prop
 | [] => True
 | x :: l => apartF x.f0 l
theorem jnc_head : ∀ (l : List S48) (x : S48), ∃ t m, jnc x l = ⟨x.f0, t⟩ :: m
 | [], x => ⟨x.f1, [], rfl⟩
 | y :: l, x => by
  unfold jnc
  split
  ·exact jnc_head l ⟨x.f0, x.f1 + y.f1⟩
  ·exact ⟨x.f1, _, rfl⟩
theorem jnc_apart : ∀ (l : List S48) (x : S48), apart (jnc x l)
 | [], x => trivial
 | y :: l, x => by
  unfold jnc
  split
  ·exact jnc_apart l _
  ·rename_i c
   obtain ⟨t, m, e⟩ := jnc_head l y
   have h := jnc_apart l y
   rw [e] at h ⊢
   exact ⟨c, h⟩
theorem jn_apart (l : List S48) : apart (jn l) := by
 cases l with
 | nil => trivial
 | cons x l => exact jnc_apart l x
theorem jnc_of_apart : ∀ (l : List S48) (x : S48), apartF x.f0 l → jnc x l = x :: l
 | [], x, _ => rfl
 | y :: l, x, h => by
  unfold jnc
  rw [if_neg h.1, jnc_of_apart l y h.2]
theorem rdi_mid (pre post : List Int) (x : Int) : rd (pre ++ x :: post) (pre.length : Int) = x := by simp [rd, List.getD]
theorem midi_lt (pre post : List Int) (x : Int) : (pre.length : Int) < ((pre ++ x :: post).length : Int) := by
 simp only [List.length_append, List.length_cons]
 omega
theorem rdl_mid (pre post : List (List S48)) (x : List S48) : rd_L3 (pre ++ x :: post) (pre.length : Int) = x := by simp [rd_L3, List.getD]
theorem midl_lt (pre post : List (List S48)) (x : List S48) : (pre.length : Int) < ((pre ++ x :: post).length : Int) := by
 simp only [List.length_append, List.length_cons]
 omega
theorem RunsOk.wf {l : List S48} (h : RunsOk l) (hs : sm l ≤ 1099511627776) : RunsWf l := by
 intro x hx
 have h1 := h x hx
 have h2 : x.f1 ≤ sm l := by
  clear h1 hs
  induction l with
  | nil => simp at hx
  | cons y l ih =>
   have hy := h.cons
   have hn := sm_nonneg hy.2
   simp only [sm]
   rcases List.mem_cons.1 hx with rfl | hx
   ·omega
   ·have := ih hy.2 hx
    omega
 have wf : ∀ n : Int, 0 ≤ n → n ≤ 1099511627776 → (Lit.int .i64 n).wf = true := fun n h0 h1 => by
  simp [Lit.wf, IntKind.min, IntKind.max, IntKind.bits, IntKind.signed]
  omega
 exact ⟨wf _ (by omega) (by omega), wf _ (by omega) (by omega)⟩
theorem vld_wf {l : List S48} (v : vld l = true) : RunsWf l := (vld_iff.1 v).2.1.wf (vld_iff.1 v).2.2
def wd (c : Int) : Bool := if 97 ≤ c ∧ c ≤ 122 then true else if 48 ≤ c ∧ c ≤ 57 then true else if c = 95 then true else false
def wAll (s : ByteArray) : Nat → Nat → Bool
 | 0, _ => true
 | m + 1, i => if wd (bt s (i : Int)) = true then wAll s m (i + 1) else false
def nmOk (s : ByteArray) : Bool := if s.size = 0 then false else if 16 < s.size then false else if 97 ≤ bt s 0 ∧ bt s 0 ≤ 122 then wAll s s.size 0 else false
theorem w32 {x : Int} (h0 : 0 ≤ x) (h1 : x ≤ 255) : wrap32 x = x := by
 unfold wrap32
 omega
theorem nil_iff (s : ByteArray) : s.toList = ([] : List UInt8) ↔ s.size = 0 := by
 rw [ByteArray.toList_eq, ← List.length_eq_zero_iff, data_length]
theorem wd_1 {c : Int} (h : 97 ≤ c ∧ c ≤ 122) : wd c = true := by
 unfold wd
 rw [if_pos h]
theorem wd_2 {c : Int} (h : 48 ≤ c ∧ c ≤ 57) : wd c = true := by
 unfold wd
 rw [if_neg (by omega), if_pos h]
theorem wd_3 {c : Int} (h : c = 95) : wd c = true := by
 unfold wd
 rw [if_neg (by omega), if_neg (by omega), if_pos h]
theorem wd_0 {c : Int} (h : ¬ (97 ≤ c ∧ c ≤ 122)) (h1 : ¬ (48 ≤ c ∧ c ≤ 57)) (h2 : ¬ c = 95) : wd c = false := by
 unfold wd
 rw [if_neg h, if_neg h1, if_neg h2]
theorem lex_letter_eq (c : Int) : lex_letter.f c = some (decide (97 ≤ c ∧ c ≤ 122)) := by
 unfold lex_letter.f
 by_cases h : 97 ≤ c <;> simp [h]
theorem lex_word_eq (c : Int) : lex_word.f c = some (wd c) := by
 unfold lex_word.f lex_digit.f wd
 rw [lex_letter_eq]
 by_cases h : 97 ≤ c ∧ c ≤ 122
 ·simp [h]
 ·by_cases h1 : 48 ≤ c
  ·by_cases h2 : c ≤ 57
   ·simp [h, h1, h2]
   ·by_cases h3 : c = 95 <;> simp [h, h1, h2, h3]
  ·by_cases h3 : c = 95 <;> simp [h, h1, h3]
theorem lex_Name_l0 (s : ByteArray) (hs : s.size ≤ 140737488351232) : ∀ (m i : Nat), i + m = s.size → Ev (fun k => lex_Name.l0 k s (s.size : Int) (i : Int)) (wAll s m i)
 | 0, i, h => by
  refine Ev.step (f := fun _ => some true) (fun k => ?_) (Ev.now _)
  simp only [lex_Name.l0]
  rw [if_neg (by omega)]
 | m + 1, i, h => by
  have hb := bt_range s (i : Int)
  have hst : ∀ k, lex_Name.l0 (k + 1) s (s.size : Int) (i : Int) = if wd (bt s (i : Int)) = true then lex_Name.l0 k s (s.size : Int) ((i + 1 : Nat) : Int) else some false := by
   intro k
   simp only [lex_Name.l0]
   rw [if_pos (by omega), if_pos (by omega), if_pos (by omega), lex_word_eq, w32 hb.1 hb.2, Option.bind_some, w64 (by omega) (by omega)]
   rfl
  unfold wAll
  by_cases c : wd (bt s (i : Int)) = true
  ·rw [if_pos c]
   exact Ev.step (fun k => (hst k).trans (if_pos c)) (lex_Name_l0 s hs m (i + 1) (by omega))
  ·rw [if_neg c]
   exact Ev.step (fun k => (hst k).trans (if_neg c)) (Ev.now _)
theorem lex_Name_ev (s : ByteArray) (hs : s.size ≤ 140737488351232) : Ev (fun k => lex_Name.f k s) (nmOk s) := by
 have hb := bt_range s 0
 have hj : Ev (fun k => lex_Name.j0 k s true) false := Ev.step (f := fun _ => some false) (fun k => by simp only [lex_Name.j0]; rfl) (Ev.now _)
 unfold nmOk
 by_cases h0 : s.size = 0
 ·rw [if_pos h0]
  refine Ev.congr (fun k => ?_) hj
  unfold lex_Name.f
  rw [if_pos ((nil_iff s).2 h0)]
 ·rw [if_neg h0]
  have hn : ¬ s.toList = [] := fun h => h0 ((nil_iff s).1 h)
  by_cases h1 : 16 < s.size
  ·rw [if_pos h1]
   refine Ev.congr (fun k => ?_) hj
   unfold lex_Name.f
   rw [if_neg hn, if_pos (by omega)]
  ·rw [if_neg h1]
   have e : ∀ k, lex_Name.f k s = lex_Name.j0 k s (!(decide (97 ≤ bt s 0 ∧ bt s 0 ≤ 122))) := by
    intro k
    unfold lex_Name.f
    rw [if_neg hn, if_neg (by omega), if_pos (by omega), lex_letter_eq, w32 hb.1 hb.2]
    rfl
   refine Ev.congr e ?_
   by_cases h2 : 97 ≤ bt s 0 ∧ bt s 0 ≤ 122
   ·rw [if_pos h2, decide_eq_true h2]
    refine Ev.step (fun k => ?_) (lex_Name_l0 s hs s.size 0 (by omega))
    simp only [lex_Name.j0]
    rw [if_neg (by decide)]
    rfl
   ·rw [if_neg h2, decide_eq_false h2]
    exact hj
theorem ref_name_step (s : ByteArray) (hs : s.size ≤ 140737488351232) (i : Nat) (h : i < s.size) (k : Nat) :
  signalbenchref09_name.l0 (k + 1) s (i : Int) = if wd (bt s (i : Int)) = true then signalbenchref09_name.l0 k s ((i + 1 : Nat) : Int) else some false := by
 have e : wrap64 ((i : Int) + 1) = ((i + 1 : Nat) : Int) := by
  rw [w64 (by omega) (by omega)]
  rfl
 simp only [signalbenchref09_name.l0]
 rw [if_pos (by omega), if_pos (by omega), e]
 generalize bt s (i : Int) = c
 by_cases h1 : c ≥ 97
 ·by_cases h2 : c ≤ 122
  ·rw [if_pos h1, if_pos (by omega), if_pos h2, wd_1 ⟨h1, h2⟩, if_pos rfl]
  ·rw [if_pos h1, if_pos (by omega), if_neg h2, if_neg (by omega), if_neg (by omega), wd_0 (by omega) (by omega) (by omega), if_neg (by decide)]
 ·rw [if_neg h1]
  by_cases h3 : c ≥ 48
  ·rw [if_pos h3]
   by_cases h4 : c ≤ 57
   ·rw [if_pos h4, wd_2 ⟨h3, h4⟩, if_pos rfl]
   ·rw [if_neg h4]
    by_cases h5 : c = 95
    ·rw [if_pos h5, wd_3 h5, if_pos rfl]
    ·rw [if_neg h5, wd_0 (by omega) (by omega) h5, if_neg (by decide)]
  ·rw [if_neg h3]
   by_cases h5 : c = 95
   ·rw [if_pos h5, wd_3 h5, if_pos rfl]
   ·rw [if_neg h5, wd_0 (by omega) (by omega) h5, if_neg (by decide)]
theorem ref_name_l0 (s : ByteArray) (hs : s.size ≤ 140737488351232) : ∀ (m i : Nat), i + m = s.size → Ev (fun k => signalbenchref09_name.l0 k s (i : Int)) (wAll s m i)
 | 0, i, h => by
  refine Ev.step (f := fun _ => some true) (fun k => ?_) (Ev.now _)
  simp only [signalbenchref09_name.l0]
  rw [if_neg (by omega)]
 | m + 1, i, h => by
  have hst := ref_name_step s hs i (by omega)
  unfold wAll
  by_cases c : wd (bt s (i : Int)) = true
  ·rw [if_pos c]
   exact Ev.step (fun k => (hst k).trans (if_pos c)) (ref_name_l0 s hs m (i + 1) (by omega))
  ·rw [if_neg c]
   exact Ev.step (fun k => (hst k).trans (if_neg c)) (Ev.now _)
theorem ref_name_ev (s : ByteArray) (hs : s.size ≤ 140737488351232) : Ev (fun k => signalbenchref09_name.f k s) (nmOk s) := by
 have hj : Ev (fun k => signalbenchref09_name.j0 k s true) false := Ev.step (f := fun _ => some false) (fun k => by simp only [signalbenchref09_name.j0]; rfl) (Ev.now _)
 unfold nmOk
 by_cases h0 : s.size = 0
 ·rw [if_pos h0]
  refine Ev.congr (fun k => ?_) hj
  unfold signalbenchref09_name.f
  rw [if_pos ((nil_iff s).2 h0)]
 ·rw [if_neg h0]
  have hn : ¬ s.toList = [] := fun h => h0 ((nil_iff s).1 h)
  by_cases h1 : 16 < s.size
  ·rw [if_pos h1]
   refine Ev.congr (fun k => ?_) hj
   unfold signalbenchref09_name.f
   rw [if_neg hn, if_pos (by omega)]
  ·rw [if_neg h1]
   by_cases h3 : bt s 0 < 97
   ·rw [if_neg (by omega)]
    refine Ev.congr (fun k => ?_) hj
    unfold signalbenchref09_name.f
    rw [if_neg hn, if_neg (by omega), if_pos (by omega), if_pos h3]
   ·have e : ∀ k, signalbenchref09_name.f k s = signalbenchref09_name.j0 k s (decide (bt s 0 > 122)) := by
     intro k
     unfold signalbenchref09_name.f
     rw [if_neg hn, if_neg (by omega), if_pos (by omega), if_neg h3]
    refine Ev.congr e ?_
    by_cases h2 : bt s 0 > 122
    ·rw [if_neg (by omega), decide_eq_true h2]
     exact hj
    ·rw [if_pos (by omega), decide_eq_false h2]
     refine Ev.step (fun k => ?_) (ref_name_l0 s hs s.size 0 (by omega))
     simp only [signalbenchref09_name.j0]
     rw [if_neg (by decide)]
     rfl
def StrsOk (l : List ByteArray) : Prop := ∀ s ∈ l, s.size ≤ 140737488351232
def nmA : List ByteArray → Bool
 | [] => true
 | s :: l => if nmOk s = true then nmA l else false
theorem rds_mid (pre post : List ByteArray) (x : ByteArray) : rdOf ByteArray.empty (pre ++ x :: post) (pre.length : Int) = x := by simp [rdOf, List.getD]
theorem mids_lt (pre post : List ByteArray) (x : ByteArray) : (pre.length : Int) < ((pre ++ x :: post).length : Int) := by
 simp only [List.length_append, List.length_cons]
 omega
/-- The first place of a name, or -1. -/
def ixS (s : ByteArray) : Nat → List ByteArray → Int
 | _, [] => -1
 | n, t :: l => if s.toList = t.toList then (n : Int) else ixS s (n + 1) l
theorem Index_l0 (s : ByteArray) : ∀ (post pre : List ByteArray), (pre ++ post).length ≤ 140737488351232 →
  Ev (fun k => slices_Index_string.l0 k (pre ++ post) s ((pre ++ post).length : Int) (pre.length : Int)) (ixS s pre.length post)
 | [], pre, hl => by
  refine Ev.step (f := fun _ => some (-1)) (fun k => ?_) (Ev.now _)
  simp only [slices_Index_string.l0]
  rw [if_neg (by simp)]
 | x :: post, pre, hl => by
  have hlt := mids_lt pre post x
  have hn : pre.length ≤ 9223372036854775806 := by
   simp only [List.length_append, List.length_cons] at hl
   omega
  have hst : ∀ k, slices_Index_string.l0 (k + 1) (pre ++ x :: post) s ((pre ++ x :: post).length : Int) (pre.length : Int) = if s.toList = x.toList then some (pre.length : Int) else slices_Index_string.l0 k (pre ++ x :: post) s ((pre ++ x :: post).length : Int) ((pre ++ [x]).length : Int) := by
   intro k
   simp only [slices_Index_string.l0]
   rw [rds_mid, if_pos hlt, if_pos (by omega), if_pos hlt, succ_mid _ _ hn]
  unfold ixS
  by_cases c : s.toList = x.toList
  ·rw [if_pos c]
   exact Ev.step (fun k => (hst k).trans (if_pos c)) (Ev.now _)
  ·rw [if_neg c]
   have ih := Index_l0 s post (pre ++ [x]) (by simpa using hl)
   rw [← mid_snoc] at ih
   have e : (pre ++ [x]).length = pre.length + 1 := by simp
   rw [e] at ih
   refine Ev.step (fun k => (hst k).trans (if_neg c)) ?_
   rw [e]
   exact ih
theorem Index_ev (l : List ByteArray) (s : ByteArray) (hl : l.length ≤ 140737488351232) : Ev (fun k => slices_Index_string.f k l s) (ixS s 0 l) := Ev.congr (fun k => rfl) (Index_l0 s l [] (by simpa using hl))
theorem Contains_ev (l : List ByteArray) (s : ByteArray) (hl : l.length ≤ 140737488351232) : Ev (fun k => slices_Contains_string.f k l s) (decide (ixS s 0 l ≥ 0)) := Ev.bind (Index_ev l s hl) (Ev.now _)
def dupS : List ByteArray → List ByteArray → Bool
 | _, [] => false
 | pre, x :: post => if ixS x 0 pre ≥ 0 then true else dupS (pre ++ [x]) post
def nmsV (l : List ByteArray) : Int := if 16 < l.length then 6 else if l.length = 0 then 1 else if nmA l = true then (if dupS [] l = true then 9 else 0) else 4
theorem checkNames_l1 : ∀ (post pre : List ByteArray), (pre ++ post).length ≤ 140737488351232 →
  Ev (fun k => capture_checkNames.l1 k (pre ++ post) (pre ++ post) ((pre ++ post).length : Int) (pre.length : Int)) (if dupS pre post = true then 9 else 0)
 | [], pre, hl => by
  refine Ev.step (f := fun _ => some 0) (fun k => ?_) ?_
  ·simp only [capture_checkNames.l1]
   rw [if_neg (by simp)]
  ·rw [show (if dupS pre [] = true then (9 : Int) else 0) = 0 from rfl]
   exact Ev.now _
 | x :: post, pre, hl => by
  have hlt := mids_lt pre post x
  have hn : pre.length ≤ 9223372036854775806 := by
   simp only [List.length_append, List.length_cons] at hl
   omega
  have hp : pre.length ≤ 140737488351232 := by
   simp only [List.length_append, List.length_cons] at hl
   omega
  have hst : ∀ k, capture_checkNames.l1 (k + 1) (pre ++ x :: post) (pre ++ x :: post) ((pre ++ x :: post).length : Int) (pre.length : Int) = (slices_Contains_string.f k pre x).bind fun t111 => (if t111 = true then (some 9) else (capture_checkNames.l1 k (pre ++ x :: post) (pre ++ x :: post) ((pre ++ x :: post).length : Int) ((pre ++ [x]).length : Int))) := by
   intro k
   simp only [capture_checkNames.l1]
   rw [rds_mid, if_pos hlt, if_pos (by omega), if_pos hlt, if_pos (by omega), succ_mid _ _ hn, Int.toNat_natCast, List.take_left' rfl]
  refine Ev.step hst (Ev.bind (Contains_ev pre x hp) ?_)
  unfold dupS
  by_cases c : ixS x 0 pre ≥ 0
  ·rw [if_pos c, decide_eq_true c]
   exact Ev.congr (fun k => if_pos rfl) (Ev.now _)
  ·rw [if_neg c, decide_eq_false c]
   have ih := checkNames_l1 post (pre ++ [x]) (by simpa using hl)
   rw [← mid_snoc] at ih
   exact Ev.congr (fun k => if_neg (by decide)) ih
theorem checkNames_l0 : ∀ (post pre : List ByteArray) (R : Int), StrsOk post → (pre ++ post).length ≤ 140737488351232 → Ev (fun k => capture_checkNames.l1 k (pre ++ post) (pre ++ post) ((pre ++ post).length : Int) 0) R →
  Ev (fun k => capture_checkNames.l0 k (pre ++ post) (pre ++ post) ((pre ++ post).length : Int) (pre.length : Int)) (if nmA post = true then R else 4)
 | [], pre, R, hs, hl, hR => by
  refine Ev.step (fun k => ?_) (Ev.congr (fun k => rfl) hR)
  simp only [capture_checkNames.l0]
  rw [if_neg (by simp)]
 | x :: post, pre, R, hs, hl, hR => by
  have hlt := mids_lt pre post x
  have hn : pre.length ≤ 9223372036854775806 := by
   simp only [List.length_append, List.length_cons] at hl
   omega
  have hst : ∀ k, capture_checkNames.l0 (k + 1) (pre ++ x :: post) (pre ++ x :: post) ((pre ++ x :: post).length : Int) (pre.length : Int) = (lex_Name.f k x).bind fun t108 => (if t108 = true then (capture_checkNames.l0 k (pre ++ x :: post) (pre ++ x :: post) ((pre ++ x :: post).length : Int) ((pre ++ [x]).length : Int)) else (some 4)) := by
   intro k
   simp only [capture_checkNames.l0]
   rw [rds_mid, if_pos hlt, if_pos (by omega), if_pos hlt, succ_mid _ _ hn]
  refine Ev.step hst (Ev.bind (lex_Name_ev x (hs x (by simp))) ?_)
  unfold nmA
  by_cases c : nmOk x = true
  ·rw [if_pos c, c]
   have ih := checkNames_l0 post (pre ++ [x]) R (fun y hy => hs y (by simp [hy])) (by simpa using hl) (by rw [← mid_snoc]; exact hR)
   rw [← mid_snoc] at ih
   exact Ev.congr (fun k => if_pos rfl) ih
  ·rw [if_neg c, Bool.eq_false_iff.2 c]
   exact Ev.congr (fun k => if_neg (by decide)) (Ev.now _)
theorem checkNames_ev {l : List ByteArray} (hs : StrsOk l) (hl : l.length ≤ 140737488351232) (h16 : l.length ≤ 16) : Ev (fun k => capture_checkNames.f k l) (nmsV l) := by
 unfold nmsV
 rw [if_neg (by omega)]
 by_cases c : l.length = 0
 ·rw [if_pos c]
  refine Ev.congr (fun k => ?_) (Ev.now _)
  unfold capture_checkNames.f
  rw [if_pos (by omega)]
 ·rw [if_neg c]
  refine Ev.congr (fun k => ?_) (checkNames_l0 l [] _ hs (by simpa using hl) (checkNames_l1 l [] (by simpa using hl)))
  unfold capture_checkNames.f
  rw [if_neg (by omega)]
  rfl
theorem refnames_l2 (x : ByteArray) (post pre : List ByteArray) (R : Int) (hl : (pre ++ x :: post).length ≤ 140737488351232) (hR : Ev (fun k => signalbenchref09_names.l1 k (pre ++ x :: post) ((pre ++ [x]).length : Int)) R) :
  ∀ (p q : List ByteArray), pre = q ++ p → Ev (fun k => signalbenchref09_names.l2 k (pre ++ x :: post) (pre.length : Int) (q.length : Int)) (if ixS x q.length p ≥ 0 then 9 else R)
 | [], q, e => by
  have e1 : pre.length = q.length := by rw [e]; simp
  have hn : pre.length ≤ 9223372036854775806 := by
   simp only [List.length_append, List.length_cons] at hl
   omega
  rw [show (if ixS x q.length [] ≥ 0 then (9 : Int) else R) = R from if_neg (by show ¬ ((-1 : Int) ≥ 0); omega)]
  refine Ev.step (fun k => ?_) hR
  simp only [signalbenchref09_names.l2]
  rw [if_neg (by omega), succ_mid _ _ hn]
 | t :: p, q, e => by
  have e1 : pre.length = q.length + (p.length + 1) := by rw [e]; simp
  have hlt := mids_lt pre post x
  have e2 : rdOf ByteArray.empty (pre ++ x :: post) (q.length : Int) = t := by
   rw [e, List.append_assoc]
   exact rds_mid q (p ++ x :: post) t
  have hn : q.length ≤ 9223372036854775806 := by
   simp only [List.length_append, List.length_cons] at hl
   omega
  have hst : ∀ k, signalbenchref09_names.l2 (k + 1) (pre ++ x :: post) (pre.length : Int) (q.length : Int) = if x.toList = t.toList then some 9 else signalbenchref09_names.l2 k (pre ++ x :: post) (pre.length : Int) ((q ++ [t]).length : Int) := by
   intro k
   simp only [signalbenchref09_names.l2]
   rw [rds_mid, e2, if_pos (by omega), if_pos (by omega), if_pos hlt, if_pos (by omega), if_pos (by omega), succ_mid _ _ hn]
  unfold ixS
  by_cases c : x.toList = t.toList
  ·rw [if_pos c, if_pos (by omega)]
   exact Ev.step (fun k => (hst k).trans (if_pos c)) (Ev.now _)
  ·rw [if_neg c]
   have ih := refnames_l2 x post pre R hl hR p (q ++ [t]) (by rw [e, mid_snoc])
   have e3 : (q ++ [t]).length = q.length + 1 := by simp
   rw [e3] at ih
   refine Ev.step (fun k => (hst k).trans (if_neg c)) ?_
   rw [e3]
   exact ih
theorem refnames_l1 : ∀ (post pre : List ByteArray), (pre ++ post).length ≤ 140737488351232 →
  Ev (fun k => signalbenchref09_names.l1 k (pre ++ post) (pre.length : Int)) (if dupS pre post = true then 9 else 0)
 | [], pre, hl => by
  refine Ev.step (f := fun _ => some 0) (fun k => ?_) ?_
  ·simp only [signalbenchref09_names.l1]
   rw [if_neg (by simp)]
  ·rw [show (if dupS pre [] = true then (9 : Int) else 0) = 0 from rfl]
   exact Ev.now _
 | x :: post, pre, hl => by
  have hlt := mids_lt pre post x
  have ih := refnames_l1 post (pre ++ [x]) (by simpa using hl)
  rw [← mid_snoc] at ih
  have h2 := refnames_l2 x post pre _ hl ih pre [] rfl
  have e : (if dupS pre (x :: post) = true then (9 : Int) else 0) = if ixS x ([] : List ByteArray).length pre ≥ 0 then 9 else if dupS (pre ++ [x]) post = true then 9 else 0 := by
   show (if (if ixS x 0 pre ≥ 0 then true else dupS (pre ++ [x]) post) = true then (9 : Int) else 0) = if ixS x 0 pre ≥ 0 then 9 else _
   by_cases c : ixS x 0 pre ≥ 0
   ·rw [if_pos c, if_pos c, if_pos rfl]
   ·rw [if_neg c, if_neg c]
  rw [e]
  refine Ev.step (fun k => ?_) h2
  simp only [signalbenchref09_names.l1]
  rw [if_pos hlt]
  rfl
theorem refnames_l0 : ∀ (post pre : List ByteArray) (R : Int), StrsOk post → (pre ++ post).length ≤ 140737488351232 → Ev (fun k => signalbenchref09_names.l1 k (pre ++ post) 0) R →
  Ev (fun k => signalbenchref09_names.l0 k (pre ++ post) (pre.length : Int)) (if nmA post = true then R else 4)
 | [], pre, R, hs, hl, hR => by
  refine Ev.step (fun k => ?_) (Ev.congr (fun k => rfl) hR)
  simp only [signalbenchref09_names.l0]
  rw [if_neg (by simp)]
 | x :: post, pre, R, hs, hl, hR => by
  have hlt := mids_lt pre post x
  have hn : pre.length ≤ 9223372036854775806 := by
   simp only [List.length_append, List.length_cons] at hl
   omega
  have hst : ∀ k, signalbenchref09_names.l0 (k + 1) (pre ++ x :: post) (pre.length : Int) = (signalbenchref09_name.f k x).bind fun t108 => (if t108 = true then (signalbenchref09_names.l0 k (pre ++ x :: post) ((pre ++ [x]).length : Int)) else (some 4)) := by
   intro k
   simp only [signalbenchref09_names.l0]
   rw [rds_mid, if_pos hlt, if_pos (by omega), succ_mid _ _ hn]
  refine Ev.step hst (Ev.bind (ref_name_ev x (hs x (by simp))) ?_)
  unfold nmA
  by_cases c : nmOk x = true
  ·rw [if_pos c, c]
   have ih := refnames_l0 post (pre ++ [x]) R (fun y hy => hs y (by simp [hy])) (by simpa using hl) (by rw [← mid_snoc]; exact hR)
   rw [← mid_snoc] at ih
   exact Ev.congr (fun k => if_pos rfl) ih
  ·rw [if_neg c, Bool.eq_false_iff.2 c]
   exact Ev.congr (fun k => if_neg (by decide)) (Ev.now _)
theorem refnames_ev {l : List ByteArray} (hs : StrsOk l) (hl : l.length ≤ 140737488351232) : Ev (fun k => signalbenchref09_names.f k l) (nmsV l) := by
 unfold nmsV
 by_cases h : 16 < l.length
 ·rw [if_pos h]
  refine Ev.congr (fun k => ?_) (Ev.now _)
  unfold signalbenchref09_names.f
  rw [if_pos (by omega)]
 ·rw [if_neg h]
  by_cases c : l.length = 0
  ·rw [if_pos c]
   refine Ev.congr (fun k => ?_) (Ev.now _)
   unfold signalbenchref09_names.f
   rw [if_neg (by omega), if_pos (by omega)]
  ·rw [if_neg c]
   refine Ev.congr (fun k => ?_) (refnames_l0 l [] _ hs (by simpa using hl) (refnames_l1 l [] (by simpa using hl)))
   unfold signalbenchref09_names.f
   rw [if_neg (by omega), if_neg (by omega)]
   rfl
/-- Levels from 0 to m, and at least one tick each. -/
def RunsM (m : Int) (l : List S48) : Prop := ∀ x ∈ l, 0 ≤ x.f0 ∧ x.f0 ≤ m ∧ 1 ≤ x.f1
def rOk (m : Int) : Int → List S48 → Bool
 | left, [] => true
 | left, x :: l => if 0 ≤ x.f0 ∧ x.f0 ≤ m ∧ 1 ≤ x.f1 ∧ x.f1 ≤ left then rOk m (left - x.f1) l else false
theorem RunsM.cons {m : Int} {x : S48} {l : List S48} (h : RunsM m (x :: l)) : (0 ≤ x.f0 ∧ x.f0 ≤ m ∧ 1 ≤ x.f1) ∧ RunsM m l := ⟨h x (by simp), fun y hy => h y (by simp [hy])⟩
theorem smM_nonneg {m : Int} : ∀ {l : List S48}, RunsM m l → 0 ≤ sm l
 | [], _ => Int.le_refl _
 | x :: l, h => by
  have h1 := h.cons
  have h2 := smM_nonneg h1.2
  simp only [sm]
  omega
theorem rOk_iff {m : Int} : ∀ {l : List S48} {left : Int}, 0 ≤ left → (rOk m left l = true ↔ RunsM m l ∧ sm l ≤ left)
 | [], left, h => by simp [rOk, RunsM, sm, h]
 | x :: l, left, h => by
  unfold rOk
  by_cases c : 0 ≤ x.f0 ∧ x.f0 ≤ m ∧ 1 ≤ x.f1 ∧ x.f1 ≤ left
  ·rw [if_pos c, rOk_iff (l := l) (by omega)]
   simp only [RunsM, sm, List.mem_cons, forall_eq_or_imp]
   constructor
   ·rintro ⟨h1, h2⟩
    exact ⟨⟨⟨c.1, c.2.1, c.2.2.1⟩, h1⟩, by omega⟩
   ·rintro ⟨⟨h1, h2⟩, h3⟩
    exact ⟨h2, by omega⟩
  ·rw [if_neg c]
   simp only [Bool.false_eq_true, false_iff]
   rintro ⟨h1, h2⟩
   have h3 := h1.cons
   have h4 := smM_nonneg h3.2
   simp only [sm] at h2
   exact c ⟨h3.1.1, h3.1.2.1, h3.1.2.2, by omega⟩
def mk (l : List ByteArray) : Int := wrap64 ((shl .i64 1 (l.length : Int)) - 1)
def chkV (l : List ByteArray) (r : List S48) : Int := if 262144 < r.length then 6 else if nmsV l = 0 then (if rOk (mk l) 1099511627776 r = true then 0 else 2) else nmsV l
theorem chk_0 {l : List ByteArray} {r : List S48} (h : chkV l r = 0) : r.length ≤ 262144 ∧ nmsV l = 0 ∧ RunsM (mk l) r ∧ sm r ≤ 1099511627776 := by
 unfold chkV at h
 by_cases c : 262144 < r.length
 ·rw [if_pos c] at h
  omega
 ·rw [if_neg c] at h
  by_cases c1 : nmsV l = 0
  ·rw [if_pos c1] at h
   by_cases c2 : rOk (mk l) 1099511627776 r = true
   ·exact ⟨by omega, c1, (rOk_iff (by omega)).1 c2⟩
   ·rw [if_neg c2] at h
    omega
  ·rw [if_neg c1] at h
   exact absurd h c1
theorem Check_l0 (m : Int) : ∀ (post pre : List S48) (left : Int), 0 ≤ left → left ≤ 1099511627776 → (pre ++ post).length ≤ 140737488351232 →
  Ev (fun k => capture_Check.l0 k m left (pre ++ post) ((pre ++ post).length : Int) (pre.length : Int)) (if rOk m left post = true then 0 else 2)
 | [], pre, left, h0, h1, hl => by
  rw [show (if rOk m left [] = true then (0 : Int) else 2) = 0 from rfl]
  refine Ev.step (f := fun _ => some 0) (fun k => ?_) (Ev.now _)
  simp only [capture_Check.l0]
  rw [if_neg (by simp)]
 | x :: post, pre, left, h0, h1, hl => by
  have hlt := mid_lt pre post x
  have hn : pre.length ≤ 9223372036854775806 := by
   simp only [List.length_append, List.length_cons] at hl
   omega
  unfold rOk
  by_cases c : 0 ≤ x.f0 ∧ x.f0 ≤ m ∧ 1 ≤ x.f1 ∧ x.f1 ≤ left
  ·have ih := Check_l0 m post (pre ++ [x]) (left - x.f1) (by omega) (by omega) (by simpa using hl)
   rw [← mid_snoc] at ih
   rw [if_pos c]
   refine Ev.step (fun k => ?_) ih
   simp only [capture_Check.l0]
   rw [rd_mid, if_pos hlt, if_pos (by omega), if_pos hlt, if_neg (by omega), if_neg (by omega), if_neg (by omega), if_neg (by omega), w64 (by omega) (by omega), succ_mid _ _ hn]
  ·rw [if_neg c, show (if false = true then (0 : Int) else 2) = 2 from rfl]
   refine Ev.step (f := fun _ => some 2) (fun k => ?_) (Ev.now _)
   simp only [capture_Check.l0]
   rw [rd_mid, if_pos hlt, if_pos (by omega), if_pos hlt]
   by_cases c1 : x.f0 < 0
   ·rw [if_pos c1]
   ·rw [if_neg c1]
    by_cases c2 : x.f0 > m
    ·rw [if_pos c2]
    ·rw [if_neg c2]
     by_cases c3 : x.f1 < 1
     ·rw [if_pos c3]
     ·rw [if_neg c3, if_pos (by omega)]
theorem Check_ev {l : List ByteArray} {r : List S48} (hs : StrsOk l) (hl : l.length ≤ 140737488351232) (hr : r.length ≤ 140737488351232) : Ev (fun k => capture_Check.f k l r) (chkV l r) := by
 have hj : Ev (fun k => capture_Check.j0 k true l r) 6 := Ev.step (f := fun _ => some 6) (fun k => by simp only [capture_Check.j0]; rfl) (Ev.now _)
 by_cases c : 16 < l.length
 ·have e : chkV l r = 6 := by
   have e1 : nmsV l = 6 := by
    unfold nmsV
    rw [if_pos c]
   unfold chkV
   rw [e1]
   by_cases c1 : 262144 < r.length
   ·rw [if_pos c1]
   ·rw [if_neg c1]
    rfl
  rw [e]
  refine Ev.congr (fun k => ?_) hj
  unfold capture_Check.f
  rw [if_pos (by omega)]
 ·have e : ∀ k, capture_Check.f k l r = capture_Check.j0 k (decide ((r.length : Int) > 262144)) l r := by
   intro k
   unfold capture_Check.f
   rw [if_neg (by omega)]
  refine Ev.congr e ?_
  unfold chkV
  by_cases c1 : 262144 < r.length
  ·rw [if_pos c1, decide_eq_true (by omega)]
   exact hj
  ·rw [if_neg c1, decide_eq_false (by omega)]
   refine Ev.step (f := fun k => (capture_checkNames.f k l).bind fun t113 => (if t113 = 0 then (capture_Check.l0 k (mk l) 1099511627776 r (r.length : Int) 0) else (some t113))) (fun k => ?_) (Ev.bind (checkNames_ev hs hl (by omega)) ?_)
   ·simp only [capture_Check.j0]
    rw [if_neg (by decide)]
    rfl
   ·by_cases c2 : nmsV l = 0
    ·rw [if_pos c2]
     exact Ev.congr (fun k => if_pos c2) (Check_l0 (mk l) r [] 1099511627776 (by omega) (by omega) (by simpa using hr))
    ·rw [if_neg c2]
     exact Ev.congr (fun k => if_neg c2) (Ev.now _)
theorem refruns_l0 (m : Int) : ∀ (post pre : List S48) (left : Int), 0 ≤ left → left ≤ 1099511627776 → (pre ++ post).length ≤ 140737488351232 →
  Ev (fun k => signalbenchref09_runs.l0 k (pre ++ post) m left (pre.length : Int)) (rOk m left post)
 | [], pre, left, h0, h1, hl => by
  refine Ev.step (f := fun _ => some true) (fun k => ?_) (Ev.now _)
  simp only [signalbenchref09_runs.l0]
  rw [if_neg (by simp)]
 | x :: post, pre, left, h0, h1, hl => by
  have hlt := mid_lt pre post x
  have hn : pre.length ≤ 9223372036854775806 := by
   simp only [List.length_append, List.length_cons] at hl
   omega
  unfold rOk
  by_cases c : 0 ≤ x.f0 ∧ x.f0 ≤ m ∧ 1 ≤ x.f1 ∧ x.f1 ≤ left
  ·have ih := refruns_l0 m post (pre ++ [x]) (left - x.f1) (by omega) (by omega) (by simpa using hl)
   rw [← mid_snoc] at ih
   rw [if_pos c]
   refine Ev.step (fun k => ?_) ih
   simp only [signalbenchref09_runs.l0]
   rw [rd_mid, if_pos hlt, if_pos (by omega), if_neg (by omega), if_neg (by omega), if_neg (by omega), if_neg (by omega), w64 (by omega) (by omega), succ_mid _ _ hn]
  ·rw [if_neg c]
   refine Ev.step (f := fun _ => some false) (fun k => ?_) (Ev.now _)
   simp only [signalbenchref09_runs.l0]
   rw [rd_mid, if_pos hlt, if_pos (by omega)]
   by_cases c1 : x.f0 < 0
   ·rw [if_pos c1]
   ·rw [if_neg c1]
    by_cases c2 : x.f0 > m
    ·rw [if_pos c2]
    ·rw [if_neg c2]
     by_cases c3 : x.f1 < 1
     ·rw [if_pos c3]
     ·rw [if_neg c3, if_pos (by omega)]
theorem refruns_ev (m : Int) {r : List S48} (hr : r.length ≤ 140737488351232) : Ev (fun k => signalbenchref09_runs.f k r m) (rOk m 1099511627776 r) :=
 Ev.congr (fun k => rfl) (refruns_l0 m r [] 1099511627776 (by omega) (by omega) (by simpa using hr))
theorem refCheck_ev {l : List ByteArray} {r : List S48} (hs : StrsOk l) (hl : l.length ≤ 140737488351232) (hr : r.length ≤ 140737488351232) : Ev (fun k => signalbenchref09_Check.f k l r) (chkV l r) := by
 unfold chkV
 by_cases c1 : 262144 < r.length
 ·rw [if_pos c1]
  refine Ev.congr (fun k => ?_) (Ev.now _)
  unfold signalbenchref09_Check.f
  rw [if_pos (by omega)]
 ·rw [if_neg c1]
  refine Ev.congr (f := fun k => (signalbenchref09_names.f k l).bind fun t216 => (if t216 = 0 then ((signalbenchref09_runs.f k r (mk l)).bind fun t217 => (if t217 = true then (some 0) else (some 2))) else (some t216))) (fun k => ?_) (Ev.bind (refnames_ev hs hl) ?_)
  ·unfold signalbenchref09_Check.f
   rw [if_neg (by omega)]
   rfl
  ·by_cases c2 : nmsV l = 0
   ·rw [if_pos c2]
    refine Ev.congr (fun k => if_pos c2) (Ev.bind (refruns_ev (mk l) hr) ?_)
    by_cases c3 : rOk (mk l) 1099511627776 r = true
    ·simp only [if_pos c3]
     exact Ev.now _
    ·simp only [if_neg c3]
     exact Ev.now _
   ·rw [if_neg c2]
    exact Ev.congr (fun k => if_neg c2) (Ev.now _)
theorem total_l0 {m : Int} : ∀ (post pre : List S48) (s : Int), 0 ≤ s → s + sm post ≤ 4611686018427387904 → RunsM m post → (pre ++ post).length ≤ 140737488351232 →
  Ev (fun k => signalbenchref09_total.l0 k (pre ++ post) s (pre.length : Int)) (s + sm post)
 | [], pre, s, h0, h1, hw, hl => by
  refine Ev.step (f := fun _ => some s) (fun k => ?_) ?_
  ·simp only [signalbenchref09_total.l0]
   rw [if_neg (by simp)]
  ·simp only [sm, Int.add_zero]
   exact Ev.now _
 | x :: post, pre, s, h0, h1, hw, hl => by
  have hx := hw.cons
  have hs := smM_nonneg hx.2
  simp only [sm] at h1
  have hlt := mid_lt pre post x
  have hn : pre.length ≤ 9223372036854775806 := by
   simp only [List.length_append, List.length_cons] at hl
   omega
  have ih := total_l0 post (pre ++ [x]) (s + x.f1) (by omega) (by omega) hx.2 (by simpa using hl)
  rw [← mid_snoc] at ih
  have e1 : s + sm (x :: post) = s + x.f1 + sm post := by
   simp only [sm]
   omega
  rw [e1]
  refine Ev.step (fun k => ?_) ih
  simp only [signalbenchref09_total.l0]
  rw [rd_mid, if_pos hlt, if_pos (by omega), w64 (x := s + x.f1) (by omega) (by omega), succ_mid _ _ hn]
theorem total_ev {m : Int} {r : List S48} (h : RunsM m r) (hs : sm r ≤ 1099511627776) (hr : r.length ≤ 140737488351232) : Ev (fun k => signalbenchref09_total.f k r) (sm r) := by
 have h := total_l0 r [] 0 (by omega) (by omega) h (by simpa using hr)
 rw [Int.zero_add] at h
 exact Ev.congr (fun k => rfl) h
/-- A run put behind runs. -/
def putR (o : List S48) (v t : Int) : List S48 :=
 match o.getLast? with
 | some y => if y.f0 = v then o.dropLast ++ [(⟨y.f0, y.f1 + t⟩ : S48)] else o ++ [(⟨v, t⟩ : S48)]
 | none => [(⟨v, t⟩ : S48)]
theorem putR_nil (v t : Int) : putR [] v t = [⟨v, t⟩] := rfl
theorem putR_same (o : List S48) (y : S48) (t : Int) : putR (o ++ [y]) y.f0 t = o ++ [⟨y.f0, y.f1 + t⟩] := by
 simp [putR]
theorem putR_new (o : List S48) (y : S48) {v t : Int} (h : ¬ y.f0 = v) : putR (o ++ [y]) v t = o ++ [y] ++ [⟨v, t⟩] := by
 simp [putR, h]
theorem snoc_cases {α : Type} (o : List α) : o = [] ∨ ∃ q y, o = q ++ [y] := by
 rcases List.eq_nil_or_concat o with h | ⟨q, y, h⟩
 ·exact .inl h
 ·exact .inr ⟨q, y, by simpa using h⟩
theorem join_eq {o : List S48} {v t : Int} (ho : o.length < 8796093022208) (h0 : 0 ≤ t) (hs : ∀ y ∈ o, 0 ≤ y.f1 ∧ y.f1 + t ≤ 9223372036854775807) : capture_join.f o v t = some (putR o v t) := by
 rcases snoc_cases o with rfl | ⟨q, y, rfl⟩
 ·unfold capture_join.f
  rw [if_neg (by simp), if_pos (by simp)]
  rfl
 ·have hy := hs y (by simp)
  have hq : q.length ≤ 9223372036854775806 := by
   simp only [List.length_append, List.length_cons, List.length_nil] at ho
   omega
  have hlt : (q.length : Int) < ((q ++ [y]).length : Int) := mid_lt q [] y
  unfold capture_join.f
  rw [last_at q y hq, rd_last, if_pos (by omega), if_pos (by omega), if_pos hlt]
  by_cases c : y.f0 = v
  ·rw [if_pos c, set_last, w64 (by omega) (by omega), ← c, putR_same]
  ·rw [if_neg c, if_pos ho, putR_new q y c]
theorem refput_eq {o : List S48} {v t : Int} (ho : o.length < 8796093022208) (h0 : 1 ≤ t) (hs : ∀ y ∈ o, 0 ≤ y.f1 ∧ y.f1 + t ≤ 9223372036854775807) : signalbenchref09_put.f o v t = some (putR o v t) := by
 rcases snoc_cases o with rfl | ⟨q, y, rfl⟩
 ·unfold signalbenchref09_put.f
  rw [if_neg (by omega), if_neg (by simp), if_pos (by simp)]
  rfl
 ·have hy := hs y (by simp)
  have hq : q.length ≤ 9223372036854775806 := by
   simp only [List.length_append, List.length_cons, List.length_nil] at ho
   omega
  have hlt : (q.length : Int) < ((q ++ [y]).length : Int) := mid_lt q [] y
  unfold signalbenchref09_put.f
  rw [last_at q y hq, rd_last, if_neg (by omega), if_pos (by omega), if_pos (by omega), if_pos hlt]
  by_cases c : y.f0 = v
  ·rw [if_pos c, set_last, w64 (by omega) (by omega), ← c, putR_same]
  ·rw [if_neg c, if_pos ho, putR_new q y c]
theorem putR_sm (o : List S48) (v t : Int) : sm (putR o v t) = sm o + t := by
 rcases snoc_cases o with rfl | ⟨q, y, rfl⟩
 ·simp [putR_nil, sm]
 ·by_cases c : y.f0 = v
  ·rw [← c, putR_same]
   simp only [sm_append, sm]
   omega
  ·rw [putR_new q y c]
   simp only [sm_append, sm]
   omega
theorem putR_len (o : List S48) (v t : Int) : (putR o v t).length ≤ o.length + 1 := by
 rcases snoc_cases o with rfl | ⟨q, y, rfl⟩
 ·simp [putR_nil]
 ·by_cases c : y.f0 = v
  ·rw [← c, putR_same]
   simp
  ·rw [putR_new q y c]
   simp
theorem mn_le (a b : Int) : mn a b ≤ a ∧ mn a b ≤ b ∧ (mn a b = a ∨ mn a b = b) := by
 unfold mn
 by_cases c : b < a
 ·rw [if_pos c]
  omega
 ·rw [if_neg c]
  omega
def Tk (l : List S48) : Prop := ∀ y ∈ l, 1 ≤ y.f1
theorem RunsM.tk {m : Int} {l : List S48} (h : RunsM m l) : Tk l := fun y hy => (h y hy).2.2
theorem Tk.cons {x : S48} {l : List S48} (h : Tk (x :: l)) : 1 ≤ x.f1 ∧ Tk l := ⟨h x (by simp), fun y hy => h y (by simp [hy])⟩
theorem smT_nonneg : ∀ {l : List S48}, Tk l → 0 ≤ sm l
 | [], _ => Int.le_refl _
 | x :: l, h => by
  have h1 := h.cons
  have h2 := smT_nonneg h1.2
  simp only [sm]
  omega
theorem leT_sm : ∀ {l : List S48}, Tk l → ∀ y ∈ l, 0 ≤ y.f1 ∧ y.f1 ≤ sm l
 | [], h, y, hy => by simp at hy
 | x :: l, h, y, hy => by
  have hx := h.cons
  have h0 := smT_nonneg hx.2
  simp only [sm]
  rcases List.mem_cons.1 hy with rfl | hy
  ·omega
  ·have := leT_sm hx.2 y hy
   omega
theorem putR_tk {o : List S48} {v t : Int} (h : Tk o) (ht : 1 ≤ t) : Tk (putR o v t) := by
 rcases snoc_cases o with rfl | ⟨q, y, rfl⟩
 ·intro x hx
  rw [putR_nil, List.mem_singleton] at hx
  subst hx
  exact ht
 ·have hy := h y (by simp)
  by_cases c : y.f0 = v
  ·rw [← c, putR_same]
   intro x hx
   rcases List.mem_append.1 hx with hx | hx
   ·exact h x (by simp [hx])
   ·rw [List.mem_singleton] at hx
    subst hx
    show 1 ≤ y.f1 + t
    omega
  ·rw [putR_new q y c]
   intro x hx
   rcases List.mem_append.1 hx with hx | hx
   ·exact h x hx
   ·rw [List.mem_singleton] at hx
    subst hx
    exact ht
def bit (v i : Int) : Int := Go.bits .and .i64 (shr .i64 v i) 1
def chC (i : Int) : List S48 → List S48 → List S48
 | o, [] => o
 | o, x :: l => chC i (putR o (bit x.f0 i) x.f1) l
theorem Channel_l0 {i : Int} (hi : 0 ≤ i) : ∀ (post pre o : List S48), Tk o → Tk post → sm o + sm post ≤ 1099511627776 → (pre ++ post).length ≤ 262144 → o.length + post.length ≤ 262144 →
  Ev (fun k => capture_Channel.l0 k i o (pre ++ post) ((pre ++ post).length : Int) (pre.length : Int)) (chC i o post, 0)
 | [], pre, o, h0, h1, hs, hl, ho => by
  refine Ev.step (f := fun _ => some (o, 0)) (fun k => ?_) (Ev.now _)
  simp only [capture_Channel.l0]
  rw [if_neg (by simp)]
 | x :: post, pre, o, h0, h1, hs, hl, ho => by
  have hx := h1.cons
  have h2 := smT_nonneg hx.2
  have h3 := smT_nonneg h0
  simp only [sm] at hs
  simp only [List.length_cons] at ho
  have hlt := mid_lt pre post x
  have hn : pre.length ≤ 9223372036854775806 := by
   simp only [List.length_append, List.length_cons] at hl
   omega
  have hj : capture_join.f o (Go.bits .and .i64 (shr .i64 x.f0 i) 1) x.f1 = some (putR o (bit x.f0 i) x.f1) := join_eq (by omega) (by omega) (fun y hy => by have := leT_sm h0 y hy; omega)
  have ih := Channel_l0 hi post (pre ++ [x]) (putR o (bit x.f0 i) x.f1) (putR_tk h0 hx.1) hx.2 (by rw [putR_sm]; omega) (by simpa using hl) (by have := putR_len o (bit x.f0 i) x.f1; omega)
  rw [← mid_snoc] at ih
  refine Ev.step (fun k => ?_) ih
  simp only [capture_Channel.l0]
  rw [rd_mid, if_pos hlt, if_pos (by omega), if_pos hlt, if_pos hi, hj, Option.bind_some, succ_mid _ _ hn]
theorem refChannel_l0 {i : Int} (hi : 0 ≤ i) (n : List ByteArray) : ∀ (post pre o : List S48), Tk o → Tk post → sm o + sm post ≤ 1099511627776 → (pre ++ post).length ≤ 262144 → o.length + post.length ≤ 262144 →
  Ev (fun k => signalbenchref09_Channel.l0 k i o (pre.length : Int) n (pre ++ post)) (chC i o post, 0)
 | [], pre, o, h0, h1, hs, hl, ho => by
  refine Ev.step (f := fun _ => some (o, 0)) (fun k => ?_) (Ev.now _)
  simp only [signalbenchref09_Channel.l0]
  rw [if_neg (by simp)]
 | x :: post, pre, o, h0, h1, hs, hl, ho => by
  have hx := h1.cons
  have h2 := smT_nonneg hx.2
  have h3 := smT_nonneg h0
  simp only [sm] at hs
  simp only [List.length_cons] at ho
  have hlt := mid_lt pre post x
  have hn : pre.length ≤ 9223372036854775806 := by
   simp only [List.length_append, List.length_cons] at hl
   omega
  have hj : signalbenchref09_put.f o (Go.bits .and .i64 (shr .i64 x.f0 i) 1) x.f1 = some (putR o (bit x.f0 i) x.f1) := refput_eq (by omega) hx.1 (fun y hy => by have := leT_sm h0 y hy; omega)
  have ih := refChannel_l0 hi n post (pre ++ [x]) (putR o (bit x.f0 i) x.f1) (putR_tk h0 hx.1) hx.2 (by rw [putR_sm]; omega) (by simpa using hl) (by have := putR_len o (bit x.f0 i) x.f1; omega)
  rw [← mid_snoc] at ih
  refine Ev.step (fun k => ?_) ih
  simp only [signalbenchref09_Channel.l0]
  rw [rd_mid, if_pos hlt, if_pos (by omega), if_pos hi, hj, Option.bind_some, succ_mid _ _ hn]
theorem place_l0 (s : ByteArray) : ∀ (post pre : List ByteArray), (pre ++ post).length ≤ 140737488351232 →
  Ev (fun k => signalbenchref09_place.l0 k (pre ++ post) s (pre.length : Int)) (ixS s pre.length post)
 | [], pre, hl => by
  refine Ev.step (f := fun _ => some (-1)) (fun k => ?_) (Ev.now _)
  simp only [signalbenchref09_place.l0]
  rw [if_neg (by simp)]
 | x :: post, pre, hl => by
  have hlt := mids_lt pre post x
  have hn : pre.length ≤ 9223372036854775806 := by
   simp only [List.length_append, List.length_cons] at hl
   omega
  have hst : ∀ k, signalbenchref09_place.l0 (k + 1) (pre ++ x :: post) s (pre.length : Int) = if x.toList = s.toList then some (pre.length : Int) else signalbenchref09_place.l0 k (pre ++ x :: post) s ((pre ++ [x]).length : Int) := by
   intro k
   simp only [signalbenchref09_place.l0]
   rw [rds_mid, if_pos hlt, if_pos (by omega), succ_mid _ _ hn]
  unfold ixS
  by_cases c : s.toList = x.toList
  ·rw [if_pos c]
   exact Ev.step (fun k => (hst k).trans (if_pos c.symm)) (Ev.now _)
  ·rw [if_neg c]
   have ih := place_l0 s post (pre ++ [x]) (by simpa using hl)
   rw [← mid_snoc] at ih
   have e : (pre ++ [x]).length = pre.length + 1 := by simp
   rw [e] at ih
   refine Ev.step (fun k => (hst k).trans (if_neg (fun h => c h.symm))) ?_
   rw [e]
   exact ih
theorem place_ev (l : List ByteArray) (s : ByteArray) (hl : l.length ≤ 140737488351232) : Ev (fun k => signalbenchref09_place.f k l s) (ixS s 0 l) := Ev.congr (fun k => rfl) (place_l0 s l [] (by simpa using hl))
def chV (l : List ByteArray) (r : List S48) (s : ByteArray) : List S48 × Int := if chkV l r = 0 then (if ixS s 0 l < 0 then ([], 8) else (chC (ixS s 0 l) [] r, 0)) else ([], chkV l r)
theorem Channel_ev {l : List ByteArray} {r : List S48} {s : ByteArray} (hs : StrsOk l) (hl : l.length ≤ 140737488351232) (hr : r.length ≤ 140737488351232) : Ev (fun k => capture_Channel.f k l r s) (chV l r s) := by
 unfold chV
 refine Ev.bind (Check_ev hs hl hr) ?_
 by_cases c : chkV l r = 0
 ·have h := chk_0 c
  rw [if_pos c]
  refine Ev.congr (fun k => if_pos c) (Ev.bind (Index_ev l s hl) ?_)
  by_cases c1 : ixS s 0 l < 0
  ·rw [if_pos c1]
   exact Ev.congr (fun k => if_pos c1) (Ev.now _)
  ·rw [if_neg c1]
   exact Ev.congr (fun k => if_neg c1) (Channel_l0 (by omega) r [] [] (fun x hx => by simp at hx) h.2.2.1.tk (by simp only [sm]; omega) (by simpa using h.1) (by simpa using h.1))
 ·rw [if_neg c]
  exact Ev.congr (fun k => if_neg c) (Ev.now _)
theorem refChannel_ev {l : List ByteArray} {r : List S48} {s : ByteArray} (hs : StrsOk l) (hl : l.length ≤ 140737488351232) (hr : r.length ≤ 140737488351232) : Ev (fun k => signalbenchref09_Channel.f k l r s) (chV l r s) := by
 unfold chV
 refine Ev.bind (refCheck_ev hs hl hr) ?_
 by_cases c : chkV l r = 0
 ·have h := chk_0 c
  rw [if_pos c]
  refine Ev.congr (fun k => if_pos c) (Ev.bind (place_ev l s hl) ?_)
  by_cases c1 : ixS s 0 l < 0
  ·rw [if_pos c1]
   exact Ev.congr (fun k => if_pos c1) (Ev.now _)
  ·rw [if_neg c1]
   exact Ev.congr (fun k => if_neg c1) (refChannel_l0 (by omega) l r [] [] (fun x hx => by simp at hx) h.2.2.1.tk (by simp only [sm]; omega) (by simpa using h.1) (by simpa using h.1))
 ·rw [if_neg c]
  exact Ev.congr (fun k => if_neg c) (Ev.now _)
theorem wrapN {n : Nat} (h : n < 9223372036854775808) : IntKind.i64.wrap (n : Int) = (n : Int) := by
 rw [IntKind.wrap_i64]
 omega
theorem ofIntN {n : Nat} (h : n < 9223372036854775808) : (BitVec.ofInt 64 (n : Int)).toNat = n := by
 rw [BitVec.toNat_ofInt]
 omega
theorem bitN {a i : Nat} (ha : a < 65536) (hi : i < 64) : bit (a : Int) (i : Int) = if a.testBit i = true then 1 else 0 := by
 have e0 : shr .i64 (a : Int) (i : Int) = ((a / 2 ^ i : Nat) : Int) := by
  show (a : Int) / 2 ^ min ((i : Int).toNat) IntKind.i64.bits = _
  rw [Int.toNat_natCast, show IntKind.i64.bits = 64 from rfl, Nat.min_eq_left (by omega)]
  norm_cast
 have h1 : a / 2 ^ i ≤ a := Nat.div_le_self _ _
 have e1 : bit (a : Int) (i : Int) = IntKind.i64.wrap (((BitVec.ofInt 64 (shr .i64 (a : Int) (i : Int)) &&& BitVec.ofInt 64 1).toNat : Nat) : Int) := rfl
 have e2 : (BitVec.ofInt 64 1).toNat = 1 := rfl
 rw [e1, BitVec.toNat_and, e0, ofIntN (by omega), e2, Nat.and_one_is_mod, wrapN (by omega), Nat.testBit_eq_decide_div_mod_eq]
 by_cases c : a / 2 ^ i % 2 = 1
 ·rw [if_pos (by simpa using c), c]
  rfl
 ·rw [if_neg (by simpa using c), show a / 2 ^ i % 2 = 0 by omega]
  rfl
theorem mk_le {l : List ByteArray} (h : l.length ≤ 16) : mk l ≤ 65535 := by
 obtain ⟨n, hn⟩ : ∃ n, n = l.length := ⟨_, rfl⟩
 unfold mk
 rw [← hn] at h ⊢
 clear hn
 have : ∀ n : Fin 17, wrap64 ((shl .i64 1 ((n.val : Nat) : Int)) - 1) ≤ 65535 := by decide +kernel
 exact this ⟨n, by omega⟩
def hd (w : List S48) : S48 := w.headD (⟨0, 0⟩ : S48)
def lvl : Int → Nat → List (List S48) → Int
 | v, _, [] => v
 | v, i, w :: ws => lvl (Go.bits .or .i64 v (shl .i64 (hd w).f0 (i : Int))) (i + 1) ws
def stp : Int → List (List S48) → Int
 | s, [] => s
 | s, w :: ws => stp (mn s (hd w).f1) ws
def cutR (s : Int) : List S48 → List S48
 | [] => []
 | x :: l => if x.f1 = s then l else (⟨x.f0, x.f1 - s⟩ : S48) :: l
theorem cutR_cons (s : Int) (x : S48) (l : List S48) : cutR s (x :: l) = if x.f1 = s then l else (⟨x.f0, x.f1 - s⟩ : S48) :: l := rfl
def mrg : Nat → List S48 → List (List S48) → List S48
 | 0, o, _ => o
 | n + 1, o, ws => if ws.headD [] = [] then o else mrg n (putR o (lvl 0 0 ws) (stp 1099511627776 ws)) (ws.map (cutR (stp 1099511627776 ws)))
/-- Waves that all have T ticks. -/
def Rem (T : Int) (ws : List (List S48)) : Prop := ∀ w ∈ ws, Tk w ∧ sm w = T
theorem Rem.cons {T : Int} {w : List S48} {ws : List (List S48)} (h : Rem T (w :: ws)) : (Tk w ∧ sm w = T) ∧ Rem T ws := ⟨h w (by simp), fun y hy => h y (by simp [hy])⟩
theorem hd_cons (x : S48) (l : List S48) : hd (x :: l) = x := rfl
theorem nonempty_of {w : List S48} (h : 0 < sm w) : ∃ x l, w = x :: l := by
 cases w with
 | nil => simp [sm] at h
 | cons x l => exact ⟨x, l, rfl⟩
theorem empty_of {w : List S48} (ht : Tk w) (h : sm w ≤ 0) : w = [] := by
 cases w with
 | nil => rfl
 | cons x l =>
  have h1 := ht.cons
  have h2 := smT_nonneg h1.2
  simp only [sm] at h
  omega
theorem hd_ok {T : Int} {w : List S48} (h : Tk w ∧ sm w = T) (hT : 0 < T) : 1 ≤ (hd w).f1 ∧ (hd w).f1 ≤ T := by
 obtain ⟨x, l, rfl⟩ := nonempty_of (w := w) (by omega)
 have h1 := h.1.cons
 have h2 := smT_nonneg h1.2
 have h3 := h.2
 simp only [sm] at h3
 rw [hd_cons]
 omega
theorem le_mn {a b c : Int} (h : c ≤ a) (h' : c ≤ b) : c ≤ mn a b := by
 unfold mn
 split <;> omega
theorem stp_le : ∀ (ws : List (List S48)) (s : Int), stp s ws ≤ s ∧ ∀ w ∈ ws, stp s ws ≤ (hd w).f1
 | [], s => ⟨Int.le_refl _, fun w hw => by simp at hw⟩
 | w :: ws, s => by
  have h := stp_le ws (mn s (hd w).f1)
  have h' := mn_le s (hd w).f1
  unfold stp
  refine ⟨by omega, fun y hy => ?_⟩
  rcases List.mem_cons.1 hy with rfl | hy
  ·omega
  ·exact h.2 y hy
theorem le_stp {b : Int} : ∀ (ws : List (List S48)) (s : Int), b ≤ s → (∀ w ∈ ws, b ≤ (hd w).f1) → b ≤ stp s ws
 | [], s, h, _ => h
 | w :: ws, s, h, hw => by
  unfold stp
  have := hw w (by simp)
  exact le_stp ws _ (le_mn h this) (fun y hy => hw y (by simp [hy]))
theorem stp_ok {T : Int} {ws : List (List S48)} (h : Rem T ws) (hT : 0 < T) : 1 ≤ stp 1099511627776 ws :=
 le_stp ws _ (by omega) (fun w hw => (hd_ok (h w hw) hT).1)
theorem cut_ok {T s : Int} {w : List S48} (h : Tk w ∧ sm w = T) (hT : 0 < T) (h1 : 1 ≤ s) (hs : s ≤ (hd w).f1) : Tk (cutR s w) ∧ sm (cutR s w) = T - s := by
 obtain ⟨x, l, rfl⟩ := nonempty_of (w := w) (by omega)
 have h2 := h.1.cons
 have h3 := h.2
 rw [hd_cons] at hs
 simp only [sm] at h3
 rw [cutR_cons]
 by_cases c : x.f1 = s
 ·rw [if_pos c]
  exact ⟨h2.2, by omega⟩
 ·rw [if_neg c]
  refine ⟨fun y hy => ?_, by simp only [sm]; omega⟩
  rcases List.mem_cons.1 hy with rfl | hy
  ·show 1 ≤ x.f1 - s
   omega
  ·exact h2.2 y hy
theorem Rem.cut {T : Int} {ws : List (List S48)} (h : Rem T ws) (hT : 0 < T) : Rem (T - stp 1099511627776 ws) (ws.map (cutR (stp 1099511627776 ws))) := by
 intro w hw
 obtain ⟨v, hv, rfl⟩ := List.mem_map.1 hw
 exact cut_ok (h v hv) hT (stp_ok h hT) ((stp_le ws _).2 v hv)
def pre1 (x : S48) : List S48 → List S48
 | [] => [x]
 | z :: zs => if z.f0 = x.f0 then (⟨x.f0, x.f1 + z.f1⟩ : S48) :: zs else x :: z :: zs
def chR (i : Int) : List S48 → List S48
 | [] => []
 | y :: c => pre1 ⟨bit y.f0 i, y.f1⟩ (chR i c)
theorem pre1_cons (x z : S48) (zs : List S48) : pre1 x (z :: zs) = if z.f0 = x.f0 then (⟨x.f0, x.f1 + z.f1⟩ : S48) :: zs else x :: z :: zs := rfl
theorem pre1_pre1 (b t u : Int) (L : List S48) : pre1 ⟨b, t⟩ (pre1 ⟨b, u⟩ L) = pre1 ⟨b, t + u⟩ L := by
 cases L with
 | nil => simp [pre1]
 | cons z zs =>
  by_cases c : z.f0 = b
  ·simp [pre1, c, Int.add_assoc]
  ·simp [pre1, c]
theorem pre1_new (y x : S48) (L : List S48) (h : ¬ y.f0 = x.f0) : pre1 y (pre1 x L) = y :: pre1 x L := by
 have h' : ¬ x.f0 = y.f0 := fun e => h e.symm
 cases L with
 | nil => simp [pre1, h']
 | cons z zs =>
  by_cases c : z.f0 = x.f0
  ·simp [pre1, c, h']
  ·simp [pre1, c, h']
theorem chC_snoc (i : Int) : ∀ (l q : List S48) (y : S48), chC i (q ++ [y]) l = q ++ pre1 y (chR i l)
 | [], q, y => rfl
 | x :: l, q, y => by
  unfold chC chR
  by_cases c : y.f0 = bit x.f0 i
  ·rw [← c, putR_same, chC_snoc i l q, show y = ⟨y.f0, y.f1⟩ from rfl, pre1_pre1]
  ·rw [putR_new q y c, chC_snoc i l (q ++ [y]), pre1_new y ⟨bit x.f0 i, x.f1⟩ _ c, List.append_assoc]
   rfl
theorem chC_eq (i : Int) (l : List S48) : chC i [] l = chR i l := by
 cases l with
 | nil => rfl
 | cons x l =>
  show chC i (putR [] (bit x.f0 i) x.f1) l = _
  rw [putR_nil]
  exact chC_snoc i l [] _
def chs : Nat → Nat → List S48 → List (List S48)
 | _, 0, _ => []
 | i, n + 1, c => chR (i : Int) c :: chs (i + 1) n c
theorem mem_chs : ∀ (n i : Nat) (c w : List S48), w ∈ chs i n c ↔ ∃ k, i ≤ k ∧ k < i + n ∧ w = chR (k : Int) c
 | 0, i, c, w => by
  simp only [chs, List.not_mem_nil, false_iff]
  rintro ⟨k, h1, h2, _⟩
  omega
 | n + 1, i, c, w => by
  rw [chs, List.mem_cons, mem_chs n (i + 1) c w]
  constructor
  ·rintro (h | ⟨k, h1, h2, h3⟩)
   ·exact ⟨i, by omega, by omega, h⟩
   ·exact ⟨k, by omega, by omega, h3⟩
  ·rintro ⟨k, h1, h2, h3⟩
   by_cases e : k = i
   ·subst e
    exact .inl h3
   ·exact .inr ⟨k, by omega, by omega, h3⟩
theorem pre1_sm (x : S48) (L : List S48) : sm (pre1 x L) = x.f1 + sm L := by
 cases L with
 | nil => rfl
 | cons z zs =>
  by_cases c : z.f0 = x.f0
  ·simp only [pre1, if_pos c, sm]
   omega
  ·simp only [pre1, if_neg c, sm]
theorem chR_sm (i : Int) : ∀ (l : List S48), sm (chR i l) = sm l
 | [] => rfl
 | x :: l => by rw [chR, pre1_sm, chR_sm i l, sm]
def cA (c : List S48 × List S48 × Int) : Int := (c.1.length : Int)
def cU (c : List S48 × List S48 × Int) : Int := c.2.2
def cW (c : List S48 × List S48 × Int) : List S48 := c.1 ++ c.2.1
def shr1 (u : Int) : List S48 → List S48
 | [] => []
 | x :: l => (⟨x.f0, x.f1 - u⟩ : S48) :: l
def cR (c : List S48 × List S48 × Int) : List S48 := shr1 c.2.2 c.2.1
def cOk (c : List S48 × List S48 × Int) : Prop := match c.2.1 with
 | [] => c.2.2 = 0
 | x :: _ => 0 ≤ c.2.2 ∧ c.2.2 < x.f1 ∧ x.f1 ≤ 1099511627776
def cAdv (s : Int) (c : List S48 × List S48 × Int) : List S48 × List S48 × Int := match c with
 | (p, [], u) => (p, [], u)
 | (p, x :: q, u) => if u + s = x.f1 then (p ++ [x], q, 0) else (p, x :: q, u + s)
def cLen (c : List S48 × List S48 × Int) : Prop := (cW c).length ≤ 262144
theorem cAdv_W (s : Int) (c : List S48 × List S48 × Int) : cW (cAdv s c) = cW c := by
 obtain ⟨p, q, u⟩ := c
 cases q with
 | nil => rfl
 | cons x q =>
  by_cases e : u + s = x.f1
  ·simp [cAdv, e, cW]
  ·simp [cAdv, e, cW]
theorem shr1_zero (l : List S48) : shr1 0 l = l := by
 cases l with
 | nil => rfl
 | cons x l => simp [shr1]
theorem cAdv_R (s : Int) (c : List S48 × List S48 × Int) : cR (cAdv s c) = cutR s (cR c) := by
 obtain ⟨p, q, u⟩ := c
 cases q with
 | nil => rfl
 | cons x q =>
  by_cases e : u + s = x.f1
  ·have e' : x.f1 - u = s := by omega
   have e3 : cAdv s (p, x :: q, u) = (p ++ [x], q, 0) := by simp [cAdv, e]
   rw [e3]
   show shr1 0 q = cutR s ((⟨x.f0, x.f1 - u⟩ : S48) :: q)
   rw [shr1_zero, cutR_cons]
   exact (if_pos e').symm
  ·have e' : ¬ x.f1 - u = s := by omega
   have e2 : x.f1 - u - s = x.f1 - (u + s) := by omega
   simp [cAdv, e, cR, shr1, cutR, e', e2]
theorem cAdv_ok {s : Int} {c : List S48 × List S48 × Int} (h : cOk c) (ht : Tk (cR c)) (hs : sm (cW c) ≤ 1099511627776) (hp : Tk (cW c)) (h1 : 1 ≤ s) (h2 : s ≤ (hd (cR c)).f1 ∨ c.2.1 = []) : cOk (cAdv s c) := by
 obtain ⟨p, q, u⟩ := c
 cases q with
 | nil => exact h
 | cons x q =>
  have h0 : 0 ≤ u ∧ u < x.f1 ∧ x.f1 ≤ 1099511627776 := h
  have h3 : s ≤ x.f1 - u := by
   rcases h2 with h2 | h2
   ·exact h2
   ·cases h2
  by_cases e : u + s = x.f1
  ·simp only [cAdv, if_pos e]
   cases q with
   | nil => rfl
   | cons y q =>
    have hy : y ∈ cW (p, x :: y :: q, u) := by simp [cW]
    have := leT_sm hp y hy
    have := hp y hy
    show 0 ≤ (0 : Int) ∧ 0 < y.f1 ∧ y.f1 ≤ 1099511627776
    omega
  ·simp only [cAdv, if_neg e]
   show 0 ≤ u + s ∧ u + s < x.f1 ∧ x.f1 ≤ 1099511627776
   omega
theorem merge_l1 (W : List (List S48)) (A U : List Int) (o : List S48) (R : List S48) : ∀ (t s : List (List S48 × List S48 × Int)) (pa pu : List Int) (v st : Int),
  (∀ c ∈ t, cOk c ∧ c.2.1 ≠ []) → W = (s ++ t).map cW → A = (s ++ t).map cA ++ pa → U = (s ++ t).map cU ++ pu → W.length ≤ 262144 →
  Ev (fun k => (capture_join.f o (lvl v s.length (t.map cR)) (stp st (t.map cR))).bind fun o' => capture_merge.l2 k W A U o' (stp st (t.map cR)) W (W.length : Int) 0) R →
  Ev (fun k => capture_merge.l1 k W A U o v st W (W.length : Int) (s.length : Int)) R
 | [], s, pa, pu, v, st, hc, hW, hA, hU, hl, h => by
  have e : (s.length : Int) = (W.length : Int) := by simp [hW]
  refine Ev.step (fun k => ?_) h
  simp only [capture_merge.l1]
  rw [if_neg (by omega)]
  rfl
 | (p, [], u) :: t, s, pa, pu, v, st, hc, hW, hA, hU, hl, h => absurd rfl (hc _ List.mem_cons_self).2
 | (p, x :: q, u) :: t, s, pa, pu, v, st, hc, hW, hA, hU, hl, h => by
  have h0 : 0 ≤ u ∧ u < x.f1 ∧ x.f1 ≤ 1099511627776 := (hc _ List.mem_cons_self).1
  have eW : W = s.map cW ++ (p ++ x :: q) :: t.map cW := by simp [hW, cW]
  have eA : A = s.map cA ++ (p.length : Int) :: (t.map cA ++ pa) := by simp [hA, cA]
  have eU : U = s.map cU ++ u :: (t.map cU ++ pu) := by simp [hU, cU]
  have nW : ((s.map cW).length : Int) = (s.length : Int) := by simp
  have nA : ((s.map cA).length : Int) = (s.length : Int) := by simp
  have nU : ((s.map cU).length : Int) = (s.length : Int) := by simp
  have rW : rd_L3 W (s.length : Int) = p ++ x :: q := by
   rw [eW, ← nW]
   exact rdl_mid _ _ _
  have rA : rd A (s.length : Int) = (p.length : Int) := by
   rw [eA, ← nA]
   exact rdi_mid _ _ _
  have rU : rd U (s.length : Int) = u := by
   rw [eU, ← nU]
   exact rdi_mid _ _ _
  have lW : (s.length : Int) < (W.length : Int) := by
   rw [eW, ← nW]
   exact midl_lt _ _ _
  have lA : (s.length : Int) < (A.length : Int) := by
   rw [eA, ← nA]
   exact midi_lt _ _ _
  have lU : (s.length : Int) < (U.length : Int) := by
   rw [eU, ← nU]
   exact midi_lt _ _ _
  have e1 : (s ++ [(p, x :: q, u)]).length = s.length + 1 := by simp
  have ih := merge_l1 W A U o R t (s ++ [(p, x :: q, u)]) pa pu (Go.bits .or .i64 v (shl .i64 x.f0 (s.length : Int))) (mn st (x.f1 - u)) (fun c hc' => hc c (by simp [hc'])) (by simpa using hW) (by simpa using hA) (by simpa using hU) hl (by rw [e1]; exact h)
  refine Ev.step (fun k => ?_) ih
  simp only [capture_merge.l1]
  rw [rW, rA, rU, rd_mid, if_pos lW, if_pos (by omega), if_pos lW, if_pos lA, if_pos (by omega), if_pos (mid_lt p q x), if_pos lU, w64 (x := x.f1 - u) (by omega) (by omega), w64 (x := (s.length : Int) + 1) (by omega) (by omega), e1]
  norm_cast
theorem seti_mid (pre post : List Int) (x y : Int) (i : Int) (h : i = (pre.length : Int)) : (pre ++ x :: post).set i.toNat y = pre ++ y :: post := by
 subst h
 rw [Int.toNat_natCast]
 simp
theorem merge_l2 (W : List (List S48)) (o : List S48) (d : Int) (R : List S48) (pa pu : List Int) : ∀ (t s : List (List S48 × List S48 × Int)),
  1 ≤ d → (∀ c ∈ t, cOk c ∧ c.2.1 ≠ [] ∧ d ≤ (hd (cR c)).f1 ∧ cLen c) → W = (s ++ t).map cW → W.length ≤ 262144 →
  Ev (fun k => capture_merge.l0 k W ((s ++ t.map (cAdv d)).map cA ++ pa) ((s ++ t.map (cAdv d)).map cU ++ pu) o) R →
  Ev (fun k => capture_merge.l2 k W ((s ++ t).map cA ++ pa) ((s ++ t).map cU ++ pu) o d W (W.length : Int) (s.length : Int)) R
 | [], s, hd1, hc, hW, hl, h => by
  have e : (s.length : Int) = (W.length : Int) := by simp [hW]
  refine Ev.step (fun k => ?_) h
  simp only [capture_merge.l2]
  rw [if_neg (by omega)]
  rfl
 | (p, [], u) :: t, s, hd1, hc, hW, hl, h => absurd rfl (hc _ List.mem_cons_self).2.1
 | (p, x :: q, u) :: t, s, hd1, hc, hW, hl, h => by
  have hcc := hc _ (List.mem_cons_self)
  have h0 : 0 ≤ u ∧ u < x.f1 ∧ x.f1 ≤ 1099511627776 := hcc.1
  have hdx : d ≤ x.f1 - u := hcc.2.2.1
  have hpl : p.length ≤ 262144 := by
   have : (p ++ x :: q).length ≤ 262144 := hcc.2.2.2
   simp only [List.length_append] at this
   omega
  have eW : W = s.map cW ++ (p ++ x :: q) :: t.map cW := by simp [hW, cW]
  have eA : (s ++ (p, x :: q, u) :: t).map cA ++ pa = s.map cA ++ (p.length : Int) :: (t.map cA ++ pa) := by simp [cA]
  have eU : (s ++ (p, x :: q, u) :: t).map cU ++ pu = s.map cU ++ u :: (t.map cU ++ pu) := by simp [cU]
  have nW : ((s.map cW).length : Int) = (s.length : Int) := by simp
  have nA : ((s.map cA).length : Int) = (s.length : Int) := by simp
  have nU : ((s.map cU).length : Int) = (s.length : Int) := by simp
  have rW : rd_L3 W (s.length : Int) = p ++ x :: q := by
   rw [eW, ← nW]
   exact rdl_mid _ _ _
  have lW : (s.length : Int) < (W.length : Int) := by
   rw [eW, ← nW]
   exact midl_lt _ _ _
  have rA : rd (s.map cA ++ (p.length : Int) :: (t.map cA ++ pa)) (s.length : Int) = (p.length : Int) := by
   rw [← nA]
   exact rdi_mid _ _ _
  have rU : ∀ z, rd (s.map cU ++ z :: (t.map cU ++ pu)) (s.length : Int) = z := by
   intro z
   rw [← nU]
   exact rdi_mid _ _ _
  have lA : (s.length : Int) < ((s.map cA ++ (p.length : Int) :: (t.map cA ++ pa)).length : Int) := by
   have := midi_lt (s.map cA) (t.map cA ++ pa) (p.length : Int)
   omega
  have lU : (s.length : Int) < ((s.map cU ++ u :: (t.map cU ++ pu)).length : Int) := by
   have := midi_lt (s.map cU) (t.map cU ++ pu) u
   omega
  have sU : ∀ z y, (s.map cU ++ z :: (t.map cU ++ pu)).set ((s.length : Int)).toNat y = s.map cU ++ y :: (t.map cU ++ pu) := fun z y => seti_mid _ _ _ _ _ nU.symm
  have sA : ∀ y, (s.map cA ++ (p.length : Int) :: (t.map cA ++ pa)).set ((s.length : Int)).toNat y = s.map cA ++ y :: (t.map cA ++ pa) := fun y => seti_mid _ _ _ _ _ nA.symm
  have e1 : (((s ++ [cAdv d (p, x :: q, u)]).length : Nat) : Int) = (s.length : Int) + 1 := by simp
  have ih := merge_l2 W o d R pa pu t (s ++ [cAdv d (p, x :: q, u)]) hd1 (fun c hc' => hc c (by simp [hc'])) (by rw [hW]; simp [cAdv_W]) hl (by simpa using h)
  rw [e1] at ih
  rw [eA, eU]
  by_cases e : u + d = x.f1
  ·have e2 : cAdv d (p, x :: q, u) = (p ++ [x], q, 0) := by simp [cAdv, e]
   rw [e2] at ih
   have eA' : ((s ++ [(p ++ [x], q, (0 : Int))]) ++ t).map cA ++ pa = s.map cA ++ ((p.length : Int) + 1) :: (t.map cA ++ pa) := by simp [cA]
   have eU' : ((s ++ [(p ++ [x], q, (0 : Int))]) ++ t).map cU ++ pu = s.map cU ++ 0 :: (t.map cU ++ pu) := by simp [cU]
   rw [eA', eU'] at ih
   refine Ev.step (fun k => ?_) ih
   simp only [capture_merge.l2]
   rw [if_pos lW, if_pos (by omega), if_pos lW, if_pos lU, Option.bind_some, if_pos lA, rA, if_pos (by omega), rW, if_pos (mid_lt p q x), sU, rU, rU, rd_mid, w64 (x := u + d) (by omega) (by omega), if_pos e, sA, sU, w64 (x := (s.length : Int) + 1) (by omega) (by omega), w64 (x := (p.length : Int) + 1) (by omega) (by omega)]
  ·have e2 : cAdv d (p, x :: q, u) = (p, x :: q, u + d) := by simp [cAdv, e]
   rw [e2] at ih
   have eA' : ((s ++ [(p, x :: q, u + d)]) ++ t).map cA ++ pa = s.map cA ++ (p.length : Int) :: (t.map cA ++ pa) := by simp [cA]
   have eU' : ((s ++ [(p, x :: q, u + d)]) ++ t).map cU ++ pu = s.map cU ++ (u + d) :: (t.map cU ++ pu) := by simp [cU]
   rw [eA', eU'] at ih
   refine Ev.step (fun k => ?_) ih
   simp only [capture_merge.l2]
   rw [if_pos lW, if_pos (by omega), if_pos lW, if_pos lU, Option.bind_some, if_pos lA, rA, if_pos (by omega), rW, if_pos (mid_lt p q x), sU, rU, rU, rd_mid, w64 (x := u + d) (by omega) (by omega), if_neg e, w64 (x := (s.length : Int) + 1) (by omega) (by omega)]
theorem cR_nonempty {T : Int} {c : List S48 × List S48 × Int} (h : Tk (cR c) ∧ sm (cR c) = T) (hT : 0 < T) : c.2.1 ≠ [] := by
 obtain ⟨p, q, u⟩ := c
 cases q with
 | nil =>
  have := h.2
  simp [cR, shr1, sm] at this
  omega
 | cons x q => simp
theorem merge_l0 (W : List (List S48)) (hl : W.length ≤ 262144) (pa pu : List Int) : ∀ (n : Nat) (σ : List (List S48 × List S48 × Int)) (o : List S48) (T : Int), T ≤ n → 0 ≤ T →
  W = σ.map cW → σ ≠ [] → Rem T (σ.map cR) → (∀ c ∈ σ, cOk c ∧ cLen c ∧ Tk (cW c) ∧ sm (cW c) ≤ 1099511627776) → Tk o → sm o + T ≤ 1099511627776 → o.length + T ≤ 8796093022207 →
  Ev (fun k => capture_merge.l0 k W (σ.map cA ++ pa) (σ.map cU ++ pu) o) (mrg n o (σ.map cR))
 | n, [], o, T, hn, hT, hW, hne, hR, hc, ho, hs, hlo => absurd rfl hne
 | n, c :: σ, o, T, hn, hT, hW, hne, hR, hc, ho, hs, hlo => by
  have hR0 := hR.cons
  have hcc := hc c (by simp)
  have rA : rd ((c :: σ).map cA ++ pa) 0 = cA c := by simp [rd, List.getD]
  have rW : rd_L3 W 0 = cW c := by simp [rd_L3, hW, List.getD]
  have lA : (0 : Int) < (((c :: σ).map cA ++ pa).length : Int) := by
   simp only [List.map_cons, List.cons_append, List.length_cons]
   omega
  have lW : (0 : Int) < (W.length : Int) := by
   rw [hW]
   simp only [List.map_cons, List.length_cons]
   omega
  by_cases hT0 : T = 0
  ·have e : c.2.1 = [] := by
    have h1 := empty_of hR0.1.1 (by omega)
    obtain ⟨p, q, u⟩ := c
    cases q with
    | nil => rfl
    | cons x q => simp [cR, shr1] at h1
   have er : cR c = [] := by
    obtain ⟨p, q, u⟩ := c
    have : q = [] := e
    subst this
    rfl
   have em : mrg n o ((c :: σ).map cR) = o := by
    cases n with
    | zero => rfl
    | succ n =>
     unfold mrg
     rw [if_pos (by simp [er])]
   rw [em]
   refine Ev.step (f := fun _ => some o) (fun k => ?_) (Ev.now _)
   simp only [capture_merge.l0]
   rw [if_pos lA, if_pos lW, rA, rW, if_neg (by simp [cA, cW, e])]
  ·have hTp : 0 < T := by omega
   obtain ⟨n, rfl⟩ : ∃ m, n = m + 1 := ⟨n - 1, by omega⟩
   have hq := cR_nonempty hR0.1 hTp
   have hnr : ¬ (((c :: σ).map cR).headD [] = []) := by
    obtain ⟨p, q, u⟩ := c
    cases q with
    | nil => exact absurd rfl hq
    | cons x q => simp [cR, shr1]
   have h1 := stp_ok hR hTp
   have hle := (stp_le ((c :: σ).map cR) 1099511627776).2
   have hTs : stp 1099511627776 ((c :: σ).map cR) ≤ T := by
    have := hle (cR c) (by simp)
    have := hd_ok hR0.1 hTp
    omega
   have hall : ∀ y ∈ c :: σ, cOk y ∧ y.2.1 ≠ [] ∧ stp 1099511627776 ((c :: σ).map cR) ≤ (hd (cR y)).f1 ∧ cLen y := fun y hy =>
    ⟨(hc y hy).1, cR_nonempty (hR _ (List.mem_map_of_mem hy)) hTp, hle _ (List.mem_map_of_mem hy), (hc y hy).2.1⟩
   have hj : capture_join.f o (lvl 0 0 ((c :: σ).map cR)) (stp 1099511627776 ((c :: σ).map cR)) = some (putR o (lvl 0 0 ((c :: σ).map cR)) (stp 1099511627776 ((c :: σ).map cR))) :=
    join_eq (by omega) (by omega) (fun y hy => by have := leT_sm ho y hy; omega)
   have eR : ((c :: σ).map (cAdv (stp 1099511627776 ((c :: σ).map cR)))).map cR = ((c :: σ).map cR).map (cutR (stp 1099511627776 ((c :: σ).map cR))) := by
    rw [List.map_map, List.map_map]
    exact List.map_congr_left (fun y _ => cAdv_R _ y)
   have eW : ((c :: σ).map (cAdv (stp 1099511627776 ((c :: σ).map cR)))).map cW = (c :: σ).map cW := by
    rw [List.map_map]
    exact List.map_congr_left (fun y _ => cAdv_W _ y)
   have ih := merge_l0 W hl pa pu n ((c :: σ).map (cAdv (stp 1099511627776 ((c :: σ).map cR)))) (putR o (lvl 0 0 ((c :: σ).map cR)) (stp 1099511627776 ((c :: σ).map cR))) (T - stp 1099511627776 ((c :: σ).map cR)) (by omega) (by omega) (by rw [eW]; exact hW) (by simp) (by rw [eR]; exact hR.cut hTp) (fun y hy => by
     obtain ⟨z, hz, rfl⟩ := List.mem_map.1 hy
     have h := hc z hz
     exact ⟨cAdv_ok h.1 (hR _ (List.mem_map_of_mem hz)).1 h.2.2.2 h.2.2.1 h1 (.inl (hall z hz).2.2.1), by unfold cLen; rw [cAdv_W]; exact h.2.1, by rw [cAdv_W]; exact h.2.2.1, by rw [cAdv_W]; exact h.2.2.2⟩) (putR_tk ho h1) (by rw [putR_sm]; omega) (by have := putR_len o (lvl 0 0 ((c :: σ).map cR)) (stp 1099511627776 ((c :: σ).map cR)); omega)
   have e : mrg (n + 1) o ((c :: σ).map cR) = mrg n (putR o (lvl 0 0 ((c :: σ).map cR)) (stp 1099511627776 ((c :: σ).map cR))) (((c :: σ).map cR).map (cutR (stp 1099511627776 ((c :: σ).map cR)))) := by
    rw [mrg, if_neg hnr]
   rw [e, ← eR]
   have h2 := merge_l2 W (putR o (lvl 0 0 ((c :: σ).map cR)) (stp 1099511627776 ((c :: σ).map cR))) (stp 1099511627776 ((c :: σ).map cR)) _ pa pu (c :: σ) [] h1 hall (by simpa using hW) hl ih
   have h3 := merge_l1 W ((c :: σ).map cA ++ pa) ((c :: σ).map cU ++ pu) o _ (c :: σ) [] pa pu 0 1099511627776 (fun y hy => ⟨(hall y hy).1, (hall y hy).2.1⟩) (by simpa using hW) rfl rfl hl (Ev.congr (fun k => by rw [show ([] : List (List S48 × List S48 × Int)).length = 0 from rfl, hj, Option.bind_some]; rfl) h2)
   refine Ev.step (fun k => ?_) h3
   simp only [capture_merge.l0]
   rw [if_pos lA, if_pos lW, rA, rW, if_pos (by
    obtain ⟨p, q, u⟩ := c
    cases q with
    | nil => exact absurd rfl hq
    | cons x q =>
     simp only [cA, cW, List.length_append, List.length_cons]
     omega)]
   rfl
def ini (w : List S48) : List S48 × List S48 × Int := ([], w, 0)
theorem map_iniR (ws : List (List S48)) : (ws.map ini).map cR = ws := by
 rw [List.map_map, List.map_congr_left (g := id) (fun y _ => by show shr1 0 y = y; exact shr1_zero y), List.map_id]
theorem map_iniW (ws : List (List S48)) : (ws.map ini).map cW = ws := by
 rw [List.map_map, List.map_congr_left (g := id) (fun y _ => by show cW (ini y) = y; rfl), List.map_id]
theorem pad16 {α : Type} (ws : List α) (h : ws.length ≤ 16) : List.replicate 16 (0 : Int) = ws.map (fun _ => 0) ++ List.replicate (16 - ws.length) 0 := by
 rw [List.map_const', List.replicate_append_replicate, show ws.length + (16 - ws.length) = 16 by omega]
def WavesOk (T : Int) (ws : List (List S48)) : Prop := ∀ w ∈ ws, w.length ≤ 262144 ∧ Tk w ∧ sm w = T
theorem merge_ev {ws : List (List S48)} {T : Int} (h16 : ws.length ≤ 16) (hne : ws ≠ []) (hT : 0 ≤ T ∧ T ≤ 1099511627776) (h : WavesOk T ws) : Ev (fun k => capture_merge.f k ws) (mrg T.toNat [] ws) := by
 have h0 := merge_l0 ws (by omega) (List.replicate (16 - ws.length) 0) (List.replicate (16 - ws.length) 0) T.toNat (ws.map ini) [] T (by omega) hT.1 (map_iniW ws).symm (by simpa using hne) (by rw [map_iniR]; exact fun w hw => ⟨(h w hw).2.1, (h w hw).2.2⟩) (fun c hc => by
   obtain ⟨w, hw, rfl⟩ := List.mem_map.1 hc
   have hh := h w hw
   refine ⟨?_, hh.1, hh.2.1, by show sm w ≤ _; omega⟩
   cases w with
   | nil => rfl
   | cons x l =>
    have h1 := hh.2.1.cons
    have h2 := leT_sm hh.2.1 x (by simp)
    show 0 ≤ (0 : Int) ∧ 0 < x.f1 ∧ x.f1 ≤ 1099511627776
    omega) (fun y hy => by simp at hy) (by simp only [sm]; omega) (by simp only [List.length_nil]; omega)
 rw [map_iniR] at h0
 refine Ev.congr (fun k => ?_) h0
 unfold capture_merge.f
 rw [if_pos (by omega), pad16 ws h16, List.map_map, List.map_map]
 rfl
def lft (u : Int) : List S48 → List S48
 | [] => []
 | x :: l => if u = 0 then [] else (⟨x.f0, u⟩ : S48) :: l
def dR (c : List S48 × List S48 × Int) : List S48 := lft c.2.2 c.2.1
def dOk (c : List S48 × List S48 × Int) : Prop := match c.2.1 with
 | [] => c.2.2 = 0
 | x :: _ => 0 ≤ c.2.2 ∧ c.2.2 ≤ 1099511627776
def dAdv (s : Int) (c : List S48 × List S48 × Int) : List S48 × List S48 × Int := match c with
 | (p, [], u) => (p, [], u)
 | (p, [x], u) => (p, [x], u - s)
 | (p, x :: y :: q, u) => if u - s = 0 then (p ++ [x], y :: q, y.f1) else (p, x :: y :: q, u - s)
theorem dAdv_W (s : Int) (c : List S48 × List S48 × Int) : cW (dAdv s c) = cW c := by
 obtain ⟨p, q, u⟩ := c
 match q with
 | [] => rfl
 | [x] => rfl
 | x :: y :: q =>
  by_cases e : u - s = 0
  ·simp [dAdv, e, cW]
  ·simp [dAdv, e, cW]
theorem dAdv_R {s : Int} {c : List S48 × List S48 × Int} (hp : Tk (cW c)) (hne : dR c ≠ []) : dR (dAdv s c) = cutR s (dR c) := by
 obtain ⟨p, q, u⟩ := c
 match q with
 | [] => exact absurd rfl hne
 | [x] =>
  have hu : ¬ u = 0 := fun e => hne (by show lft u [x] = []; exact if_pos e)
  show lft (u - s) [x] = cutR s (lft u [x])
  have e1 : lft u [x] = [(⟨x.f0, u⟩ : S48)] := if_neg hu
  rw [e1, cutR_cons]
  by_cases e : u = s
  ·rw [if_pos e]
   exact if_pos (by omega)
  ·rw [if_neg e]
   exact if_neg (by omega)
 | x :: y :: q =>
  have hu : ¬ u = 0 := fun e => hne (by show lft u (x :: y :: q) = []; exact if_pos e)
  have e1 : lft u (x :: y :: q) = (⟨x.f0, u⟩ : S48) :: y :: q := if_neg hu
  show dR (dAdv s (p, x :: y :: q, u)) = cutR s (lft u (x :: y :: q))
  rw [e1, cutR_cons]
  by_cases e : u - s = 0
  ·have e2 : dAdv s (p, x :: y :: q, u) = (p ++ [x], y :: q, y.f1) := if_pos e
   have hy := hp y (by simp [cW])
   rw [e2, if_pos (by show u = s; omega)]
   show lft y.f1 (y :: q) = _
   exact if_neg (by omega)
  ·have e2 : dAdv s (p, x :: y :: q, u) = (p, x :: y :: q, u - s) := if_neg e
   rw [e2, if_neg (by show ¬ u = s; omega)]
   exact if_neg e
theorem dAdv_ok {s : Int} {c : List S48 × List S48 × Int} (h : dOk c) (hs : sm (cW c) ≤ 1099511627776) (hp : Tk (cW c)) (h1 : 1 ≤ s) (hne : dR c ≠ []) (h2 : s ≤ (hd (dR c)).f1) : dOk (dAdv s c) := by
 obtain ⟨p, q, u⟩ := c
 match q with
 | [] => exact h
 | [x] =>
  have hu : ¬ u = 0 := fun e => hne (by show lft u [x] = []; exact if_pos e)
  have h0 : 0 ≤ u ∧ u ≤ 1099511627776 := h
  have e1 : dR (p, [x], u) = [(⟨x.f0, u⟩ : S48)] := if_neg hu
  rw [e1, hd_cons] at h2
  have h3 : s ≤ u := h2
  show 0 ≤ u - s ∧ u - s ≤ 1099511627776
  omega
 | x :: y :: q =>
  have hu : ¬ u = 0 := fun e => hne (by show lft u (x :: y :: q) = []; exact if_pos e)
  have h0 : 0 ≤ u ∧ u ≤ 1099511627776 := h
  have e1 : dR (p, x :: y :: q, u) = (⟨x.f0, u⟩ : S48) :: y :: q := if_neg hu
  rw [e1, hd_cons] at h2
  have h3 : s ≤ u := h2
  by_cases e : u - s = 0
  ·have e2 : dAdv s (p, x :: y :: q, u) = (p ++ [x], y :: q, y.f1) := if_pos e
   have hy := leT_sm hp y (by simp [cW])
   rw [e2]
   show 0 ≤ y.f1 ∧ y.f1 ≤ 1099511627776
   omega
  ·have e2 : dAdv s (p, x :: y :: q, u) = (p, x :: y :: q, u - s) := if_neg e
   rw [e2]
   show 0 ≤ u - s ∧ u - s ≤ 1099511627776
   omega
theorem tog_l0 (A : List Int) (R : List S48) : ∀ (t s : List (List S48)), (s ++ t).length ≤ 262144 →
  Ev (fun k => signalbenchref09_together.l1 k (s ++ t) A ((s ++ t).map (fun w => (hd w).f1)) []) R →
  Ev (fun k => signalbenchref09_together.l0 k (s ++ t) A (s.map (fun w => (hd w).f1) ++ t.map (fun _ => 0)) (s.length : Int)) R
 | [], s, hl, h => by
  rw [List.append_nil] at h ⊢
  rw [List.map_nil, List.append_nil]
  refine Ev.step (fun k => ?_) h
  simp only [signalbenchref09_together.l0]
  rw [if_neg (by omega)]
 | w :: t, s, hl, h => by
  have hsl : s.length ≤ 262144 := by
   simp only [List.length_append] at hl
   omega
  have lW := midl_lt s t w
  have rW := rdl_mid s t w
  have e1 : (((s ++ [w]).length : Nat) : Int) = (s.length : Int) + 1 := by simp
  have ih := tog_l0 A R t (s ++ [w]) (by simpa using hl) (by simpa using h)
  rw [e1, ← mid_snoc] at ih
  have e2 : (s ++ [w]).map (fun w => (hd w).f1) ++ t.map (fun _ => (0 : Int)) = s.map (fun w => (hd w).f1) ++ (hd w).f1 :: t.map (fun _ => (0 : Int)) := by simp
  rw [e2] at ih
  have lU : (s.length : Int) < (((s.map (fun w => (hd w).f1)) ++ (w :: t).map (fun _ => (0 : Int))).length : Int) := by
   simp only [List.length_append, List.length_map, List.length_cons]
   omega
  refine Ev.step (fun k => ?_) ih
  simp only [signalbenchref09_together.l0]
  rw [if_pos lW, if_pos (by omega), rW, w64 (x := (s.length : Int) + 1) (by omega) (by omega)]
  cases w with
  | nil =>
   rw [if_neg (by simp)]
   rfl
  | cons x l =>
   rw [if_pos (by simp only [List.length_cons]; omega), if_pos (by simp only [List.length_cons]; omega), if_pos lU, List.map_cons, seti_mid _ _ _ _ _ (by simp)]
   have : rd_T48 (x :: l) 0 = x := by simp [rd_T48, List.getD]
   rw [this]
   rfl
theorem tog_l2 (W : List (List S48)) (A U : List Int) (o : List S48) (R : List S48) : ∀ (t s : List (List S48 × List S48 × Int)) (v st : Int),
  (∀ c ∈ t, dR c ≠ []) → W = (s ++ t).map cW → A = (s ++ t).map cA → U = (s ++ t).map cU → W.length ≤ 262144 →
  Ev (fun k => (signalbenchref09_put.f o (lvl v s.length (t.map dR)) (stp st (t.map dR))).bind fun o' => signalbenchref09_together.l3 k W A U o' (stp st (t.map dR)) 0) R →
  Ev (fun k => signalbenchref09_together.l2 k W A U o v st (s.length : Int)) R
 | [], s, v, st, hc, hW, hA, hU, hl, h => by
  have e : (s.length : Int) = (W.length : Int) := by simp [hW]
  refine Ev.step (fun k => ?_) h
  simp only [signalbenchref09_together.l2]
  rw [if_neg (by omega)]
  rfl
 | (p, [], u) :: t, s, v, st, hc, hW, hA, hU, hl, h => absurd rfl (hc _ List.mem_cons_self)
 | (p, x :: q, u) :: t, s, v, st, hc, hW, hA, hU, hl, h => by
  have hne := hc _ List.mem_cons_self
  have hu : ¬ u = 0 := fun e => hne (by show lft u (x :: q) = []; exact if_pos e)
  have er : dR (p, x :: q, u) = (⟨x.f0, u⟩ : S48) :: q := if_neg hu
  have eW : W = s.map cW ++ (p ++ x :: q) :: t.map cW := by simp [hW, cW]
  have eA : A = s.map cA ++ (p.length : Int) :: t.map cA := by simp [hA, cA]
  have eU : U = s.map cU ++ u :: t.map cU := by simp [hU, cU]
  have nW : ((s.map cW).length : Int) = (s.length : Int) := by simp
  have nA : ((s.map cA).length : Int) = (s.length : Int) := by simp
  have nU : ((s.map cU).length : Int) = (s.length : Int) := by simp
  have rW : rd_L3 W (s.length : Int) = p ++ x :: q := by
   rw [eW, ← nW]
   exact rdl_mid _ _ _
  have rA : rd A (s.length : Int) = (p.length : Int) := by
   rw [eA, ← nA]
   exact rdi_mid _ _ _
  have rU : rd U (s.length : Int) = u := by
   rw [eU, ← nU]
   exact rdi_mid _ _ _
  have lW : (s.length : Int) < (W.length : Int) := by
   rw [eW, ← nW]
   exact midl_lt _ _ _
  have lA : (s.length : Int) < (A.length : Int) := by
   rw [eA, ← nA]
   exact midi_lt _ _ _
  have lU : (s.length : Int) < (U.length : Int) := by
   rw [eU, ← nU]
   exact midi_lt _ _ _
  have e1 : (s ++ [(p, x :: q, u)]).length = s.length + 1 := by simp
  rw [List.map_cons, er] at h
  have ih := tog_l2 W A U o R t (s ++ [(p, x :: q, u)]) (Go.bits .or .i64 v (shl .i64 x.f0 (s.length : Int))) (mn st u) (fun c hc' => hc c (by simp [hc'])) (by simpa using hW) (by simpa using hA) (by simpa using hU) hl (by rw [e1]; exact h)
  rw [e1] at ih
  have e3 : ((s.length + 1 : Nat) : Int) = (s.length : Int) + 1 := by simp
  rw [e3] at ih
  refine Ev.step (fun k => ?_) ih
  simp only [signalbenchref09_together.l2]
  rw [rW, rA, rU, rd_mid, if_pos lW, if_pos (by omega), if_pos lA, if_pos (by omega), if_pos (mid_lt p q x), if_pos lU, w64 (x := (s.length : Int) + 1) (by omega) (by omega)]
  unfold mn
  by_cases c : u < st
  ·rw [if_pos c, if_pos c]
  ·rw [if_neg c, if_neg c]
theorem tog_l3 (W : List (List S48)) (o : List S48) (d : Int) (R : List S48) : ∀ (t s : List (List S48 × List S48 × Int)),
  1 ≤ d → (∀ c ∈ t, dOk c ∧ dR c ≠ [] ∧ d ≤ (hd (dR c)).f1 ∧ cLen c) → W = (s ++ t).map cW → W.length ≤ 262144 →
  Ev (fun k => signalbenchref09_together.l1 k W ((s ++ t.map (dAdv d)).map cA) ((s ++ t.map (dAdv d)).map cU) o) R →
  Ev (fun k => signalbenchref09_together.l3 k W ((s ++ t).map cA) ((s ++ t).map cU) o d (s.length : Int)) R
 | [], s, hd1, hc, hW, hl, h => by
  have e : (s.length : Int) = (W.length : Int) := by simp [hW]
  refine Ev.step (fun k => ?_) h
  simp only [signalbenchref09_together.l3]
  rw [if_neg (by omega)]
  rfl
 | (p, [], u) :: t, s, hd1, hc, hW, hl, h => absurd rfl (hc _ List.mem_cons_self).2.1
 | (p, x :: q, u) :: t, s, hd1, hc, hW, hl, h => by
  have hcc := hc _ List.mem_cons_self
  have h0 : 0 ≤ u ∧ u ≤ 1099511627776 := hcc.1
  have hu : ¬ u = 0 := fun e => hcc.2.1 (by show lft u (x :: q) = []; exact if_pos e)
  have er : dR (p, x :: q, u) = (⟨x.f0, u⟩ : S48) :: q := if_neg hu
  have hdx : d ≤ u := by
   have h5 := hcc.2.2.1
   rw [er] at h5
   exact h5
  have hpl : (p ++ x :: q).length ≤ 262144 := hcc.2.2.2
  have hpl2 : p.length ≤ 262144 := by
   simp only [List.length_append] at hpl
   omega
  have eW : W = s.map cW ++ (p ++ x :: q) :: t.map cW := by simp [hW, cW]
  have eA : (s ++ (p, x :: q, u) :: t).map cA = s.map cA ++ (p.length : Int) :: t.map cA := by simp [cA]
  have eU : (s ++ (p, x :: q, u) :: t).map cU = s.map cU ++ u :: t.map cU := by simp [cU]
  have nW : ((s.map cW).length : Int) = (s.length : Int) := by simp
  have nA : ((s.map cA).length : Int) = (s.length : Int) := by simp
  have nU : ((s.map cU).length : Int) = (s.length : Int) := by simp
  have rW : rd_L3 W (s.length : Int) = p ++ x :: q := by
   rw [eW, ← nW]
   exact rdl_mid _ _ _
  have lW : (s.length : Int) < (W.length : Int) := by
   rw [eW, ← nW]
   exact midl_lt _ _ _
  have rA : ∀ z, rd (s.map cA ++ z :: t.map cA) (s.length : Int) = z := by
   intro z
   rw [← nA]
   exact rdi_mid _ _ _
  have rU : ∀ z, rd (s.map cU ++ z :: t.map cU) (s.length : Int) = z := by
   intro z
   rw [← nU]
   exact rdi_mid _ _ _
  have lA : (s.length : Int) < ((s.map cA ++ (p.length : Int) :: t.map cA).length : Int) := by
   have := midi_lt (s.map cA) (t.map cA) (p.length : Int)
   omega
  have lU : (s.length : Int) < ((s.map cU ++ u :: t.map cU).length : Int) := by
   have := midi_lt (s.map cU) (t.map cU) u
   omega
  have sU : ∀ z y, (s.map cU ++ z :: t.map cU).set ((s.length : Int)).toNat y = s.map cU ++ y :: t.map cU := fun z y => seti_mid _ _ _ _ _ nU.symm
  have sA : ∀ z y, (s.map cA ++ z :: t.map cA).set ((s.length : Int)).toNat y = s.map cA ++ y :: t.map cA := fun z y => seti_mid _ _ _ _ _ nA.symm
  have e1 : (((s ++ [dAdv d (p, x :: q, u)]).length : Nat) : Int) = (s.length : Int) + 1 := by simp
  have ih := tog_l3 W o d R t (s ++ [dAdv d (p, x :: q, u)]) hd1 (fun c hc' => hc c (by simp [hc'])) (by rw [hW]; simp [dAdv_W]) hl (by simpa using h)
  rw [e1] at ih
  rw [eA, eU]
  have i0 : (0 : Int) ≤ (s.length : Int) := Int.natCast_nonneg _
  have p0 : (0 : Int) ≤ (p.length : Int) + 1 := by omega
  clear hcc hc h
  have nx : wrap64 ((s.length : Int) + 1) = (s.length : Int) + 1 := w64 (by omega) (by omega)
  have px : wrap64 ((p.length : Int) + 1) = (p.length : Int) + 1 := w64 (by omega) (by omega)
  have ux : wrap64 (u - d) = u - d := w64 (by omega) (by omega)
  match q with
  | [] =>
   have eA' : ((s ++ [dAdv d (p, [x], u)]) ++ t).map cA = s.map cA ++ (p.length : Int) :: t.map cA := by simp [cA, dAdv]
   have eU' : ((s ++ [dAdv d (p, [x], u)]) ++ t).map cU = s.map cU ++ (u - d) :: t.map cU := by simp [cU, dAdv]
   rw [eA', eU'] at ih
   refine Ev.step (fun k => ?_) ih
   simp only [signalbenchref09_together.l3]
   rw [if_pos lW, if_pos i0, if_pos lU, Option.bind_some, rU u, ux, sU u (u - d), rU (u - d), nx, if_pos lA, rA (p.length : Int), rW, px]
   by_cases e : u - d = 0
   ·rw [if_pos e, if_neg (by simp)]
   ·rw [if_neg e]
  | y :: q =>
   have l2 : (p.length : Int) + 1 < ((p ++ x :: y :: q).length : Int) := by
    simp only [List.length_append, List.length_cons]
    omega
   have r2 : rd_T48 (p ++ x :: y :: q) ((p.length : Int) + 1) = y := by
    have := rd_mid (p ++ [x]) q y
    rw [← mid_snoc, show (((p ++ [x]).length : Nat) : Int) = (p.length : Int) + 1 by simp] at this
    exact this
   by_cases e : u - d = 0
   ·have e2 : dAdv d (p, x :: y :: q, u) = (p ++ [x], y :: q, y.f1) := if_pos e
    rw [e2] at ih
    have eA' : ((s ++ [(p ++ [x], y :: q, y.f1)]) ++ t).map cA = s.map cA ++ ((p.length : Int) + 1) :: t.map cA := by simp [cA]
    have eU' : ((s ++ [(p ++ [x], y :: q, y.f1)]) ++ t).map cU = s.map cU ++ y.f1 :: t.map cU := by simp [cU]
    rw [eA', eU'] at ih
    refine Ev.step (fun k => ?_) ih
    simp only [signalbenchref09_together.l3]
    rw [if_pos lW, if_pos i0, if_pos lU, Option.bind_some, rU u, ux, sU u (u - d), rU (u - d), nx, if_pos e, if_pos lA, rA (p.length : Int), rW, px, if_pos l2, Option.bind_some, sA (p.length : Int) ((p.length : Int) + 1), rA ((p.length : Int) + 1), if_pos p0, if_pos l2, r2, sU (u - d) y.f1]
   ·have e2 : dAdv d (p, x :: y :: q, u) = (p, x :: y :: q, u - d) := if_neg e
    rw [e2] at ih
    have eA' : ((s ++ [(p, x :: y :: q, u - d)]) ++ t).map cA = s.map cA ++ (p.length : Int) :: t.map cA := by simp [cA]
    have eU' : ((s ++ [(p, x :: y :: q, u - d)]) ++ t).map cU = s.map cU ++ (u - d) :: t.map cU := by simp [cU]
    rw [eA', eU'] at ih
    refine Ev.step (fun k => ?_) ih
    simp only [signalbenchref09_together.l3]
    rw [if_pos lW, if_pos i0, if_pos lU, Option.bind_some, rU u, ux, sU u (u - d), rU (u - d), nx, if_neg e]
theorem dR_nonempty {T : Int} {c : List S48 × List S48 × Int} (h : Tk (dR c) ∧ sm (dR c) = T) (hT : 0 < T) : dR c ≠ [] := by
 intro e
 have := h.2
 rw [e] at this
 simp only [sm] at this
 omega
theorem stp_first {ws : List (List S48)} {w : List S48} (h : (hd w).f1 ≤ 1099511627776) : stp (hd w).f1 (w :: ws) = stp 1099511627776 (w :: ws) := by
 show stp (mn (hd w).f1 (hd w).f1) ws = stp (mn 1099511627776 (hd w).f1) ws
 have e1 : mn (hd w).f1 (hd w).f1 = (hd w).f1 := by unfold mn; split <;> omega
 have e2 : mn 1099511627776 (hd w).f1 = (hd w).f1 := by unfold mn; split <;> omega
 rw [e1, e2]
theorem tog_l1 (W : List (List S48)) (hl : W.length ≤ 262144) : ∀ (n : Nat) (σ : List (List S48 × List S48 × Int)) (o : List S48) (T : Int), T ≤ n → 0 ≤ T → T ≤ 1099511627776 →
  W = σ.map cW → σ ≠ [] → Rem T (σ.map dR) → (∀ c ∈ σ, dOk c ∧ cLen c ∧ Tk (cW c) ∧ sm (cW c) ≤ 1099511627776) → Tk o → sm o + T ≤ 1099511627776 → o.length + T ≤ 8796093022207 →
  Ev (fun k => signalbenchref09_together.l1 k W (σ.map cA) (σ.map cU) o) (mrg n o (σ.map dR))
 | n, [], o, T, hn, hT, hM, hW, hne, hR, hc, ho, hs, hlo => absurd rfl hne
 | n, c :: σ, o, T, hn, hT, hM, hW, hne, hR, hc, ho, hs, hlo => by
  have hR0 := hR.cons
  have hcc := hc c (by simp)
  have rU : rd ((c :: σ).map cU) 0 = cU c := by simp [rd, List.getD]
  have lU : (0 : Int) < (((c :: σ).map cU).length : Int) := by
   simp only [List.map_cons, List.length_cons]
   omega
  by_cases hT0 : T = 0
  ·have er : dR c = [] := empty_of hR0.1.1 (by omega)
   have e : cU c = 0 := by
    obtain ⟨p, q, u⟩ := c
    cases q with
    | nil => exact hcc.1
    | cons x q =>
     apply Classical.byContradiction
     intro hu
     rw [show dR (p, x :: q, u) = (⟨x.f0, u⟩ : S48) :: q from if_neg hu] at er
     cases er
   have em : mrg n o ((c :: σ).map dR) = o := by
    cases n with
    | zero => rfl
    | succ n =>
     unfold mrg
     rw [if_pos (by simp [er])]
   rw [em]
   refine Ev.step (f := fun _ => some o) (fun k => ?_) (Ev.now _)
   simp only [signalbenchref09_together.l1]
   rw [if_pos lU, rU, if_neg (by omega)]
  ·have hTp : 0 < T := by omega
   obtain ⟨n, rfl⟩ : ∃ m, n = m + 1 := ⟨n - 1, by omega⟩
   have hq := dR_nonempty hR0.1 hTp
   have hnr : ¬ (((c :: σ).map dR).headD [] = []) := by simpa using hq
   have h1 := stp_ok hR hTp
   have hle := (stp_le ((c :: σ).map dR) 1099511627776).2
   have hd0 := hd_ok hR0.1 hTp
   have hTs : stp 1099511627776 ((c :: σ).map dR) ≤ T := by
    have := hle (dR c) (by simp)
    omega
   have hall : ∀ y ∈ c :: σ, dOk y ∧ dR y ≠ [] ∧ stp 1099511627776 ((c :: σ).map dR) ≤ (hd (dR y)).f1 ∧ cLen y := fun y hy =>
    ⟨(hc y hy).1, dR_nonempty (hR _ (List.mem_map_of_mem hy)) hTp, hle _ (List.mem_map_of_mem hy), (hc y hy).2.1⟩
   have hj : signalbenchref09_put.f o (lvl 0 0 ((c :: σ).map dR)) (stp 1099511627776 ((c :: σ).map dR)) = some (putR o (lvl 0 0 ((c :: σ).map dR)) (stp 1099511627776 ((c :: σ).map dR))) :=
    refput_eq (by omega) (by omega) (fun y hy => by have := leT_sm ho y hy; omega)
   have eU : cU c = (hd (dR c)).f1 := by
    obtain ⟨p, q, u⟩ := c
    cases q with
    | nil => exact absurd rfl hq
    | cons x q =>
     have hu : ¬ u = 0 := fun e => hq (by show lft u (x :: q) = []; exact if_pos e)
     rw [show dR (p, x :: q, u) = (⟨x.f0, u⟩ : S48) :: q from if_neg hu]
     rfl
   have eR : ((c :: σ).map (dAdv (stp 1099511627776 ((c :: σ).map dR)))).map dR = ((c :: σ).map dR).map (cutR (stp 1099511627776 ((c :: σ).map dR))) := by
    rw [List.map_map, List.map_map]
    exact List.map_congr_left (fun y hy => dAdv_R (hc y hy).2.2.1 (hall y hy).2.1)
   have eW : ((c :: σ).map (dAdv (stp 1099511627776 ((c :: σ).map dR)))).map cW = (c :: σ).map cW := by
    rw [List.map_map]
    exact List.map_congr_left (fun y _ => dAdv_W _ y)
   have ih := tog_l1 W hl n ((c :: σ).map (dAdv (stp 1099511627776 ((c :: σ).map dR)))) (putR o (lvl 0 0 ((c :: σ).map dR)) (stp 1099511627776 ((c :: σ).map dR))) (T - stp 1099511627776 ((c :: σ).map dR)) (by omega) (by omega) (by omega) (by rw [eW]; exact hW) (by simp) (by rw [eR]; exact hR.cut hTp) (fun y hy => by
     obtain ⟨z, hz, rfl⟩ := List.mem_map.1 hy
     have h := hc z hz
     exact ⟨dAdv_ok h.1 h.2.2.2 h.2.2.1 h1 (hall z hz).2.1 (hall z hz).2.2.1, by unfold cLen; rw [dAdv_W]; exact h.2.1, by rw [dAdv_W]; exact h.2.2.1, by rw [dAdv_W]; exact h.2.2.2⟩) (putR_tk ho h1) (by rw [putR_sm]; omega) (by have := putR_len o (lvl 0 0 ((c :: σ).map dR)) (stp 1099511627776 ((c :: σ).map dR)); omega)
   have e : mrg (n + 1) o ((c :: σ).map dR) = mrg n (putR o (lvl 0 0 ((c :: σ).map dR)) (stp 1099511627776 ((c :: σ).map dR))) (((c :: σ).map dR).map (cutR (stp 1099511627776 ((c :: σ).map dR)))) := by
    rw [mrg, if_neg hnr]
   rw [e, ← eR]
   have h2 := tog_l3 W (putR o (lvl 0 0 ((c :: σ).map dR)) (stp 1099511627776 ((c :: σ).map dR))) (stp 1099511627776 ((c :: σ).map dR)) _ (c :: σ) [] h1 hall (by simpa using hW) hl ih
   have e4 : stp (cU c) ((c :: σ).map dR) = stp 1099511627776 ((c :: σ).map dR) := by
    rw [eU, List.map_cons]
    exact stp_first (by omega)
   have h3 := tog_l2 W ((c :: σ).map cA) ((c :: σ).map cU) o _ (c :: σ) [] 0 (cU c) (fun y hy => (hall y hy).2.1) (by simpa using hW) rfl rfl hl (Ev.congr (fun k => by rw [show ([] : List (List S48 × List S48 × Int)).length = 0 from rfl, e4, hj, Option.bind_some]; rfl) h2)
   refine Ev.step (fun k => ?_) h3
   simp only [signalbenchref09_together.l1]
   rw [if_pos lU, rU, if_pos (by omega)]
   rfl
def ini2 (w : List S48) : List S48 × List S48 × Int := ([], w, (hd w).f1)
theorem ini2_R {w : List S48} (h : Tk w) : dR (ini2 w) = w := by
 cases w with
 | nil => rfl
 | cons x l =>
  have := h.cons.1
  show lft x.f1 (x :: l) = _
  exact if_neg (by omega)
theorem together_ev {ws : List (List S48)} {T : Int} (h16 : ws.length ≤ 16) (hne : ws ≠ []) (hT : 0 ≤ T ∧ T ≤ 1099511627776) (h : WavesOk T ws) : Ev (fun k => signalbenchref09_together.f k ws) (mrg T.toNat [] ws) := by
 have eR : (ws.map ini2).map dR = ws := by
  rw [List.map_map, List.map_congr_left (g := id) (fun y hy => by show dR (ini2 y) = y; exact ini2_R (h y hy).2.1), List.map_id]
 have h0 := tog_l1 ws (by omega) T.toNat (ws.map ini2) [] T (by omega) hT.1 hT.2 (by rw [List.map_map, List.map_congr_left (g := id) (fun y _ => by show cW (ini2 y) = y; rfl), List.map_id]) (by simpa using hne) (by rw [eR]; exact fun w hw => ⟨(h w hw).2.1, (h w hw).2.2⟩) (fun c hc => by
   obtain ⟨w, hw, rfl⟩ := List.mem_map.1 hc
   have hh := h w hw
   refine ⟨?_, hh.1, hh.2.1, by show sm w ≤ _; omega⟩
   cases w with
   | nil => rfl
   | cons x l =>
    have h2 := leT_sm hh.2.1 x (by simp)
    show 0 ≤ x.f1 ∧ x.f1 ≤ 1099511627776
    omega) (fun y hy => by simp at hy) (by simp only [sm]; omega) (by simp only [List.length_nil]; omega)
 rw [eR] at h0
 have h1 := tog_l0 (ws.map (fun _ => 0)) (mrg T.toNat [] ws) ws [] (by simp only [List.nil_append]; omega) (by
  rw [List.map_map, List.map_map] at h0
  exact h0)
 refine Ev.congr (fun k => ?_) h1
 unfold signalbenchref09_together.f
 rw [if_pos (by omega), Int.toNat_natCast, if_pos (by omega), ← List.map_const']
 rfl
theorem vldF_rOk : ∀ (l : List S48) (left : Int), vldF left l = rOk 1 left l
 | [], left => rfl
 | x :: l, left => by
  unfold vldF rOk
  by_cases c : (x.f0 = 0 ∨ x.f0 = 1) ∧ 1 ≤ x.f1 ∧ x.f1 ≤ left
  ·rw [if_pos c, if_pos (by omega)]
   exact vldF_rOk l _
  ·rw [if_neg c, if_neg (by omega)]
def allV (ws : List (List S48)) : Bool := ws.all vld
def allS (t : Int) (ws : List (List S48)) : Bool := ws.all (fun w => decide (sm w = t))
def WWf (ws : List (List S48)) : Prop := ∀ w ∈ ws, RunsWf w ∧ w.length ≤ 140737488351232
theorem vld_ok {w : List S48} (h : vld w = true) : w.length ≤ 262144 ∧ Tk w ∧ 0 ≤ sm w ∧ sm w ≤ 1099511627776 := by
 have h1 := vld_iff.1 h
 have h2 : Tk w := fun y hy => (h1.2.1 y hy).2
 exact ⟨h1.1, h2, smT_nonneg h2, h1.2.2⟩
theorem checkWaves_l1 (w0 : List S48) (ws : List (List S48)) (h0 : vld w0 = true) (hw0 : RunsWf w0) (hWs : rd_L3 ws 0 = w0) (hpos : 0 < ws.length) : ∀ (post pre : List (List S48)), WWf post → allV post = true → (pre ++ post).length ≤ 262144 →
  Ev (fun k => capture_checkWaves.l1 k ws (pre ++ post) ((pre ++ post).length : Int) (pre.length : Int)) (if allS (sm w0) post = true then 0 else 17)
 | [], pre, hw, hv, hl => by
  refine Ev.step (f := fun _ => some 0) (fun k => ?_) (Ev.now _)
  simp only [capture_checkWaves.l1]
  rw [if_neg (by simp)]
 | x :: post, pre, hw, hv, hl => by
  have hx := hw x (by simp)
  have hvx : vld x = true ∧ allV post = true := by
   unfold allV at hv
   rw [List.all_cons, Bool.and_eq_true] at hv
   exact hv
  have hlt := midl_lt pre post x
  have hn : pre.length ≤ 262144 := by
   simp only [List.length_append] at hl
   omega
  have o0 := vld_ok h0
  have e1 : longV x = sm x := if_pos hvx.1
  have e2 : longV w0 = sm w0 := if_pos h0
  have l1 := wave_Long_ev hx.1 hx.2
  have l0 := wave_Long_ev hw0 (by have := o0.1; omega)
  rw [e1] at l1
  rw [e2] at l0
  have ih := checkWaves_l1 w0 ws h0 hw0 hWs hpos post (pre ++ [x]) (fun y hy => hw y (by simp [hy])) hvx.2 (by simpa using hl)
  rw [← mid_snoc] at ih
  refine Ev.step (f := fun k => (wave_Long.f k x).bind fun t134 => (wave_Long.f k w0).bind fun t136 => if t134 = t136 then capture_checkWaves.l1 k ws (pre ++ x :: post) ((pre ++ x :: post).length : Int) ((pre ++ [x]).length : Int) else some 17) (fun k => ?_) (Ev.bind l1 (Ev.bind l0 ?_))
  ·simp only [capture_checkWaves.l1]
   rw [if_pos hlt, if_pos (Int.natCast_nonneg _), if_pos hlt, rdl_mid, succ_mid _ _ (by omega), hWs]
   refine congrArg _ (funext fun _ => ?_)
   rw [if_pos (by omega)]
  ·by_cases c : sm x = sm w0
   ·have e : allS (sm w0) (x :: post) = allS (sm w0) post := by
     unfold allS
     rw [List.all_cons, decide_eq_true c, Bool.true_and]
    rw [e]
    exact Ev.congr (fun k => if_pos c) ih
   ·have e : allS (sm w0) (x :: post) = false := by
     unfold allS
     rw [List.all_cons, decide_eq_false c, Bool.false_and]
    rw [e]
    exact Ev.congr (fun k => if_neg c) (Ev.now _)
theorem checkWaves_l0 (ws : List (List S48)) (R : Int) : ∀ (post pre : List (List S48)), WWf post → (pre ++ post).length ≤ 262144 → (allV post = true → Ev (fun k => capture_checkWaves.l1 k ws ws (ws.length : Int) 0) R) →
  Ev (fun k => capture_checkWaves.l0 k ws (pre ++ post) ((pre ++ post).length : Int) (pre.length : Int)) (if allV post = true then R else 1)
 | [], pre, hw, hl, h => by
  have h' := h rfl
  refine Ev.step (fun k => ?_) h'
  simp only [capture_checkWaves.l0]
  rw [if_neg (by simp)]
 | x :: post, pre, hw, hl, h => by
  have hx := hw x (by simp)
  have hlt := midl_lt pre post x
  have hn : pre.length ≤ 262144 := by
   simp only [List.length_append] at hl
   omega
  refine Ev.step (f := fun k => (wave_Valid.f k x).bind fun t132 => if t132 = true then capture_checkWaves.l0 k ws (pre ++ x :: post) ((pre ++ x :: post).length : Int) ((pre ++ [x]).length : Int) else some 1) (fun k => ?_) (Ev.bind (wave_Valid_ev hx.1 hx.2) ?_)
  ·simp only [capture_checkWaves.l0]
   rw [if_pos hlt, if_pos (Int.natCast_nonneg _), if_pos hlt, rdl_mid, succ_mid _ _ (by omega)]
  ·have e0 : allV (x :: post) = (vld x && allV post) := List.all_cons
   by_cases c : vld x = true
   ·have e : allV (x :: post) = allV post := by rw [e0, c, Bool.true_and]
    have ih := checkWaves_l0 ws R post (pre ++ [x]) (fun y hy => hw y (by simp [hy])) (by simpa using hl) (fun hp => h (by rw [e]; exact hp))
    rw [← mid_snoc] at ih
    rw [e]
    exact Ev.congr (fun k => if_pos c) ih
   ·have e : allV (x :: post) = false := by
     rw [e0]
     cases hv : vld x
     ·rfl
     ·exact absurd hv c
    rw [e]
    exact Ev.congr (fun k => if_neg c) (Ev.now _)
def cwV (ws : List (List S48)) : Int := if allV ws = true then (if allS (sm (ws.headD [])) ws = true then 0 else 17) else 1
theorem checkWaves_ev {l : List ByteArray} {ws : List (List S48)} (hw : WWf ws) (hl : ws.length ≤ 262144) (e : ws.length = l.length) (hpos : 0 < ws.length) : Ev (fun k => capture_checkWaves.f k l ws) (cwV ws) := by
 have h := checkWaves_l0 ws (if allS (sm (ws.headD [])) ws = true then 0 else 17) ws [] hw hl (fun hv => by
  cases ws with
  | nil => simp at hpos
  | cons w0 t =>
   have h0 : vld w0 = true := by
    unfold allV at hv
    rw [List.all_cons, Bool.and_eq_true] at hv
    exact hv.1
   exact checkWaves_l1 w0 (w0 :: t) h0 (hw w0 (by simp)).1 (by simp [rd_L3, List.getD]) (by simp) (w0 :: t) [] hw hv hl)
 refine Ev.congr (fun k => ?_) h
 unfold capture_checkWaves.f
 rw [if_pos (by omega)]
 rfl
def bldV (l : List ByteArray) (ws : List (List S48)) : List ByteArray × List S48 × Int :=
 if nmsV l = 0 then (if ws.length = l.length then (if cwV ws = 0 then (if 262144 < (mrg (sm (ws.headD [])).toNat [] ws).length then ([], [], 6) else (l, mrg (sm (ws.headD [])).toNat [] ws, 0)) else ([], [], cwV ws)) else ([], [], 1)) else ([], [], nmsV l)
theorem nms_0 {l : List ByteArray} (h : nmsV l = 0) : l.length ≤ 16 ∧ 0 < l.length := by
 unfold nmsV at h
 by_cases c : 16 < l.length
 ·rw [if_pos c] at h
  omega
 ·rw [if_neg c] at h
  by_cases c1 : l.length = 0
  ·rw [if_pos c1] at h
   omega
  ·omega
theorem nms_6 {l : List ByteArray} (h : 16 < l.length) : nmsV l = 6 := by
 unfold nmsV
 rw [if_pos h]
theorem cw_0 {ws : List (List S48)} (h : cwV ws = 0) : WavesOk (sm (ws.headD [])) ws ∧ (∀ w ∈ ws, vld w = true) := by
 unfold cwV at h
 by_cases c : allV ws = true
 ·rw [if_pos c] at h
  by_cases c1 : allS (sm (ws.headD [])) ws = true
  ·have h1 : ∀ w ∈ ws, vld w = true := List.all_eq_true.1 c
   have h2 : ∀ w ∈ ws, decide (sm w = sm (ws.headD [])) = true := List.all_eq_true.1 c1
   exact ⟨fun w hw => ⟨(vld_ok (h1 w hw)).1, (vld_ok (h1 w hw)).2.1, of_decide_eq_true (h2 w hw)⟩, h1⟩
  ·rw [if_neg c1] at h
   omega
 ·rw [if_neg c] at h
  omega
theorem head_ok {ws : List (List S48)} (hpos : 0 < ws.length) (h : ∀ w ∈ ws, vld w = true) : 0 ≤ sm (ws.headD []) ∧ sm (ws.headD []) ≤ 1099511627776 := by
 cases ws with
 | nil => simp at hpos
 | cons w t => exact (vld_ok (h w (by simp))).2.2
theorem Build_ev {l : List ByteArray} {ws : List (List S48)} (hs : StrsOk l) (hw : WWf ws) (hl : l.length ≤ 140737488351232) (hwl : ws.length ≤ 140737488351232) : Ev (fun k => capture_Build.f k l ws) (bldV l ws) := by
 unfold bldV
 by_cases c16 : 16 < l.length
 ·rw [nms_6 c16, if_neg (by decide)]
  refine Ev.congr (fun k => ?_) (Ev.now _)
  unfold capture_Build.f
  rw [if_pos (by omega)]
 ·refine Ev.congr (fun k => by unfold capture_Build.f; exact if_neg (by omega)) (Ev.bind (checkNames_ev hs hl (by omega)) ?_)
  by_cases c : nmsV l = 0
  ·rw [if_pos c]
   refine Ev.congr (fun k => if_pos c) ?_
   have hn := nms_0 c
   by_cases cl : ws.length = l.length
   ·rw [if_pos cl]
    refine Ev.bind (checkWaves_ev hw (by omega) cl (by omega)) ?_
    by_cases cw : cwV ws = 0
    ·rw [if_pos cw]
     have hk := cw_0 cw
     refine Ev.congr (fun k => if_pos cw) (Ev.bind (merge_ev (by omega) (by intro e; rw [e] at cl; simp at cl; omega) (head_ok (by omega) hk.2) hk.1) ?_)
     by_cases c6 : 262144 < (mrg (sm (ws.headD [])).toNat [] ws).length
     ·rw [if_pos c6]
      exact Ev.congr (fun k => if_pos (by omega)) (Ev.now _)
     ·rw [if_neg c6]
      refine Ev.congr (fun k => (if_neg (by omega)).trans ?_) (Ev.now _)
      unfold slices_Clone_string.f
      rw [if_pos (by omega)]
      rfl
    ·rw [if_neg cw]
     exact Ev.congr (fun k => if_neg cw) (Ev.now _)
   ·rw [if_neg cl]
    have h1 : Ev (fun k => capture_checkWaves.f k l ws) 1 := by
     refine Ev.congr (fun k => ?_) (Ev.now _)
     unfold capture_checkWaves.f
     rw [if_neg (by omega)]
    exact Ev.bind h1 (Ev.congr (fun k => if_neg (by decide)) (Ev.now _))
  ·rw [if_neg c]
   exact Ev.congr (fun k => if_neg c) (Ev.now _)
theorem refBuild_l1 (l : List ByteArray) (w0 : List S48) (ws : List (List S48)) (R : List ByteArray × List S48 × Int) (h0 : vld w0 = true) (hWs : rd_L3 ws 0 = w0) (hpos : 0 < ws.length) (hlen : ws.length ≤ 262144) : ∀ (post pre : List (List S48)), ws = pre ++ post → allV post = true →
  (allS (sm w0) post = true → Ev (fun k => signalbenchref09_Build.l1 k l ws (ws.length : Int)) R) →
  Ev (fun k => signalbenchref09_Build.l1 k l ws (pre.length : Int)) (if allS (sm w0) post = true then R else ([], [], 17))
 | [], pre, hw, hv, hR => by
  have e : ws.length = pre.length := by rw [hw]; simp
  rw [← e]
  exact hR rfl
 | x :: post, pre, hw, hv, hR => by
  have hvx : vld x = true ∧ allV post = true := by
   unfold allV at hv
   rw [List.all_cons, Bool.and_eq_true] at hv
   exact hv
  have hlt : (pre.length : Int) < (ws.length : Int) := by
   rw [hw]
   exact midl_lt pre post x
  have hr : rd_L3 ws (pre.length : Int) = x := by
   rw [hw]
   exact rdl_mid pre post x
  have ox := vld_ok hvx.1
  have o0 := vld_ok h0
  have mx' : RunsM 1 x := fun y hy => by
   have := (vld_iff.1 hvx.1).2.1 y hy
   omega
  have m0 : RunsM 1 w0 := fun y hy => by
   have := (vld_iff.1 h0).2.1 y hy
   omega
  refine Ev.step (f := fun k => (signalbenchref09_total.f k x).bind fun t300 => (signalbenchref09_total.f k w0).bind fun t302 => if t300 = t302 then signalbenchref09_Build.l1 k l ws ((pre ++ [x]).length : Int) else some ([], [], 17)) (fun k => ?_) (Ev.bind (total_ev mx' ox.2.2.2 (by omega)) (Ev.bind (total_ev m0 o0.2.2.2 (by omega)) ?_))
  ·simp only [signalbenchref09_Build.l1]
   rw [if_pos hlt, if_pos (Int.natCast_nonneg _), hr, hWs, succ_mid pre x (by omega)]
   refine congrArg _ (funext fun _ => ?_)
   rw [if_pos (by omega)]
  ·by_cases c : sm x = sm w0
   ·have e : allS (sm w0) (x :: post) = allS (sm w0) post := by
     unfold allS
     rw [List.all_cons, decide_eq_true c, Bool.true_and]
    have ih := refBuild_l1 l w0 ws R h0 hWs hpos hlen post (pre ++ [x]) (by simpa using hw) hvx.2 (fun h => hR (by rw [e]; exact h))
    rw [e]
    exact Ev.congr (fun k => if_pos c) ih
   ·have e : allS (sm w0) (x :: post) = false := by
     unfold allS
     rw [List.all_cons, decide_eq_false c, Bool.false_and]
    rw [e]
    exact Ev.congr (fun k => if_neg c) (Ev.now _)
theorem refBuild_l0 (l : List ByteArray) (ws : List (List S48)) (R : List ByteArray × List S48 × Int) (hlen : ws.length ≤ 262144) : ∀ (post pre : List (List S48)), ws = pre ++ post → WWf post →
  (allV post = true → Ev (fun k => signalbenchref09_Build.l1 k l ws 0) R) →
  Ev (fun k => signalbenchref09_Build.l0 k l ws (pre.length : Int)) (if allV post = true then R else ([], [], 1))
 | [], pre, hw, hf, hR => by
  have e : ws.length = pre.length := by rw [hw]; simp
  refine Ev.step (fun k => ?_) (hR rfl)
  simp only [signalbenchref09_Build.l0]
  rw [if_neg (by omega)]
 | x :: post, pre, hw, hf, hR => by
  have hx := hf x (by simp)
  have hlt : (pre.length : Int) < (ws.length : Int) := by
   rw [hw]
   exact midl_lt pre post x
  have hr : rd_L3 ws (pre.length : Int) = x := by
   rw [hw]
   exact rdl_mid pre post x
  have e0 : allV (x :: post) = (vld x && allV post) := List.all_cons
  have ev : vld x = (if x.length ≤ 262144 then rOk 1 1099511627776 x else false) := by
   unfold vld
   rw [vldF_rOk]
  by_cases cl : x.length ≤ 262144
  ·rw [if_pos cl] at ev
   refine Ev.step (f := fun k => (signalbenchref09_runs.f k x 1).bind fun t289 => if t289 = true then signalbenchref09_Build.l0 k l ws ((pre ++ [x]).length : Int) else some ([], [], 1)) (fun k => ?_) (Ev.bind (refruns_ev 1 hx.2) ?_)
   ·simp only [signalbenchref09_Build.l0]
    rw [if_pos hlt, if_pos (Int.natCast_nonneg _), hr, if_neg (by omega), succ_mid pre x (by omega)]
   ·by_cases c : vld x = true
    ·have e : allV (x :: post) = allV post := by rw [e0, c, Bool.true_and]
     have ih := refBuild_l0 l ws R hlen post (pre ++ [x]) (by simpa using hw) (fun y hy => hf y (by simp [hy])) (fun hp => hR (by rw [e]; exact hp))
     rw [e]
     rw [ev] at c
     exact Ev.congr (fun k => if_pos c) ih
    ·have e : allV (x :: post) = false := by
      rw [e0]
      cases hv : vld x
      ·rfl
      ·exact absurd hv c
     rw [e]
     rw [ev] at c
     exact Ev.congr (fun k => if_neg c) (Ev.now _)
  ·rw [if_neg cl] at ev
   have e : allV (x :: post) = false := by rw [e0, ev, Bool.false_and]
   rw [e]
   refine Ev.step (f := fun _ => some ([], [], 1)) (fun k => ?_) (Ev.now _)
   simp only [signalbenchref09_Build.l0]
   rw [if_pos hlt, if_pos (Int.natCast_nonneg _), hr, if_pos (by omega)]
theorem refBuild_ev {l : List ByteArray} {ws : List (List S48)} (hs : StrsOk l) (hw : WWf ws) (hl : l.length ≤ 140737488351232) (hwl : ws.length ≤ 140737488351232) : Ev (fun k => signalbenchref09_Build.f k l ws) (bldV l ws) := by
 unfold bldV
 refine Ev.bind (refnames_ev hs hl) ?_
 by_cases c : nmsV l = 0
 ·rw [if_pos c]
  refine Ev.congr (fun k => if_pos c) ?_
  have hn := nms_0 c
  by_cases cl : ws.length = l.length
  ·rw [if_pos cl]
   refine Ev.congr (fun k => if_pos (by omega)) ?_
   have hfin : ∀ (h1 : ∀ w ∈ ws, vld w = true), allS (sm (ws.headD [])) ws = true → Ev (fun k => signalbenchref09_Build.l1 k l ws (ws.length : Int)) (if 262144 < (mrg (sm (ws.headD [])).toNat [] ws).length then ([], [], 6) else (l, mrg (sm (ws.headD [])).toNat [] ws, 0)) := by
    intro h1 h2
    have h3 : ∀ w ∈ ws, decide (sm w = sm (ws.headD [])) = true := List.all_eq_true.1 h2
    have hk : WavesOk (sm (ws.headD [])) ws := fun w hw => ⟨(vld_ok (h1 w hw)).1, (vld_ok (h1 w hw)).2.1, of_decide_eq_true (h3 w hw)⟩
    refine Ev.step (f := fun k => (signalbenchref09_together.f k ws).bind fun t290 => if (t290.length : Int) > 262144 then some ([], [], 6) else ((some (([] : List ByteArray) : List ByteArray)).bind fun y293 => if y293.length + l.length < 8796093022208 then some (y293 ++ l, t290, 0) else none)) (fun k => ?_) (Ev.bind (together_ev (by omega) (by intro e; rw [e] at cl; simp at cl; omega) (head_ok (by omega) h1) hk) ?_)
    ·simp only [signalbenchref09_Build.l1]
     rw [if_neg (by omega)]
    ·by_cases c6 : 262144 < (mrg (sm (ws.headD [])).toNat [] ws).length
     ·rw [if_pos c6]
      exact Ev.congr (fun k => if_pos (by omega)) (Ev.now _)
     ·rw [if_neg c6]
      refine Ev.congr (fun k => (if_neg (by omega)).trans ?_) (Ev.now _)
      rw [Option.bind_some, if_pos (by simp only [List.length_nil]; omega)]
      rfl
   have h := refBuild_l0 l ws (if allS (sm (ws.headD [])) ws = true then (if 262144 < (mrg (sm (ws.headD [])).toNat [] ws).length then ([], [], 6) else (l, mrg (sm (ws.headD [])).toNat [] ws, 0)) else ([], [], 17)) (by omega) ws [] rfl hw (fun hv => by
    have h1 : ∀ w ∈ ws, vld w = true := List.all_eq_true.1 hv
    cases ws with
    | nil => simp at cl; omega
    | cons w0 t => exact refBuild_l1 l w0 (w0 :: t) _ (h1 w0 (by simp)) (by simp [rd_L3, List.getD]) (by simp) (by omega) (w0 :: t) [] rfl hv (fun h2 => hfin h1 h2))
   have e : (if allV ws = true then (if allS (sm (ws.headD [])) ws = true then (if 262144 < (mrg (sm (ws.headD [])).toNat [] ws).length then (([] : List ByteArray), ([] : List S48), (6 : Int)) else (l, mrg (sm (ws.headD [])).toNat [] ws, 0)) else ([], [], 17)) else ([], [], 1)) = (if cwV ws = 0 then (if 262144 < (mrg (sm (ws.headD [])).toNat [] ws).length then ([], [], 6) else (l, mrg (sm (ws.headD [])).toNat [] ws, 0)) else ([], [], cwV ws)) := by
    unfold cwV
    by_cases a : allV ws = true
    ·rw [if_pos a, if_pos a]
     by_cases b : allS (sm (ws.headD [])) ws = true
     ·rw [if_pos b, if_pos b]
      rfl
     ·rw [if_neg b, if_neg b]
      rfl
    ·rw [if_neg a, if_neg a]
     rfl
   rw [← e]
   exact h
  ·rw [if_neg cl]
   exact Ev.congr (fun k => if_neg (by omega)) (Ev.now _)
 ·rw [if_neg c]
  exact Ev.congr (fun k => if_neg c) (Ev.now _)
theorem bldV_len (l : List ByteArray) (ws : List (List S48)) : (bldV l ws).1.length ≤ l.length ∧ (bldV l ws).2.1.length ≤ 262144 := by
 unfold bldV
 by_cases c : nmsV l = 0
 ·rw [if_pos c]
  by_cases c1 : ws.length = l.length
  ·rw [if_pos c1]
   by_cases c2 : cwV ws = 0
   ·rw [if_pos c2]
    by_cases c3 : 262144 < (mrg (sm (ws.headD [])).toNat [] ws).length
    ·rw [if_pos c3]
     simp
    ·rw [if_neg c3]
     exact ⟨Nat.le_refl _, by show (mrg (sm (ws.headD [])).toNat [] ws).length ≤ _; omega⟩
   ·rw [if_neg c2]
    simp
  ·rw [if_neg c1]
   simp
 ·rw [if_neg c]
  simp
theorem ixS_app (s : ByteArray) (post : List ByteArray) : ∀ (pre : List ByteArray) (n : Nat), ixS s n pre < 0 → ixS s n (pre ++ post) = ixS s (n + pre.length) post
 | [], n, h => rfl
 | t :: pre, n, h => by
  by_cases c : s.toList = t.toList
  ·unfold ixS at h
   rw [if_pos c] at h
   omega
  ·unfold ixS at h
   rw [if_neg c] at h
   have ih := ixS_app s post pre (n + 1) h
   rw [List.cons_append, ixS, if_neg c, ih, List.length_cons, show n + 1 + pre.length = n + (pre.length + 1) by omega]
theorem ixS_own {pre post : List ByteArray} {x : ByteArray} (h : dupS pre (x :: post) = false) : ixS x 0 (pre ++ x :: post) = (pre.length : Int) ∧ dupS (pre ++ [x]) post = false := by
 unfold dupS at h
 by_cases c : ixS x 0 pre ≥ 0
 ·rw [if_pos c] at h
  cases h
 ·rw [if_neg c] at h
  refine ⟨?_, h⟩
  rw [ixS_app x _ pre 0 (by omega), Nat.zero_add, ixS, if_pos rfl]
theorem nms_dup {l : List ByteArray} (h : nmsV l = 0) : dupS [] l = false := by
 have h1 := nms_0 h
 unfold nmsV at h
 rw [if_neg (by omega), if_neg (by omega)] at h
 by_cases c : nmA l = true
 ·rw [if_pos c] at h
  cases e : dupS [] l
  ·rfl
  ·rw [e] at h
   simp at h
 ·rw [if_neg c] at h
  omega
theorem chs_snoc : ∀ (n i : Nat) (c : List S48), chs i n c ++ [chR ((i + n : Nat) : Int) c] = chs i (n + 1) c
 | 0, i, c => rfl
 | n + 1, i, c => by
  have ih := chs_snoc n (i + 1) c
  rw [show i + 1 + n = i + (n + 1) by omega] at ih
  rw [chs, List.cons_append, ih]
  rfl
theorem chs_len : ∀ (n i : Nat) (c : List S48), (chs i n c).length = n
 | 0, i, c => rfl
 | n + 1, i, c => by rw [chs, List.length_cons, chs_len n (i + 1) c]
theorem pre1_ok {m : Int} {x : S48} {L : List S48} (h : RunsM m L) (hx : 0 ≤ x.f0 ∧ x.f0 ≤ m ∧ 1 ≤ x.f1) : RunsM m (pre1 x L) := by
 cases L with
 | nil =>
  intro y hy
  simp only [pre1, List.mem_singleton] at hy
  subst hy
  exact hx
 | cons z zs =>
  have hz := h.cons
  rw [pre1_cons]
  by_cases c : z.f0 = x.f0
  ·rw [if_pos c]
   intro y hy
   rcases List.mem_cons.1 hy with rfl | hy
   ·exact ⟨hx.1, hx.2.1, by show 1 ≤ x.f1 + z.f1; omega⟩
   ·exact hz.2 y hy
  ·rw [if_neg c]
   intro y hy
   rcases List.mem_cons.1 hy with rfl | hy
   ·exact hx
   ·exact h y hy
theorem bit_01 {v i : Int} (hv : 0 ≤ v ∧ v < 65536) (hi : 0 ≤ i ∧ i < 64) : 0 ≤ bit v i ∧ bit v i ≤ 1 := by
 obtain ⟨a, rfl⟩ := Int.eq_ofNat_of_zero_le hv.1
 obtain ⟨k, rfl⟩ := Int.eq_ofNat_of_zero_le hi.1
 rw [bitN (by omega) (by omega)]
 cases a.testBit k <;> simp
theorem chR_ok {m i : Int} (hm : m < 65536) (hi : 0 ≤ i ∧ i < 64) : ∀ {l : List S48}, RunsM m l → RunsM 1 (chR i l)
 | [], h => fun y hy => by simp [chR] at hy
 | x :: l, h => by
  have hx := h.cons
  have hb := bit_01 (v := x.f0) (i := i) (by omega) hi
  exact pre1_ok (chR_ok hm hi hx.2) ⟨hb.1, hb.2, hx.1.2.2⟩
theorem pre1_len (x : S48) (L : List S48) : (pre1 x L).length ≤ L.length + 1 := by
 cases L with
 | nil => simp [pre1]
 | cons z zs =>
  rw [pre1_cons]
  by_cases c : z.f0 = x.f0
  ·rw [if_pos c]
   simp
  ·rw [if_neg c]
   simp
theorem chR_len (i : Int) : ∀ (l : List S48), (chR i l).length ≤ l.length
 | [] => Nat.le_refl _
 | x :: l => by
  have := pre1_len ⟨bit x.f0 i, x.f1⟩ (chR i l)
  have := chR_len i l
  simp only [chR, List.length_cons]
  omega
theorem vld_of1 {w : List S48} (h : RunsM 1 w) (hl : w.length ≤ 262144) (hs : sm w ≤ 1099511627776) : vld w = true :=
 vld_iff.2 ⟨hl, fun y hy => by have := h y hy; omega, hs⟩
theorem awake13_ev : Ev (fun k => signalbenchlaw13_awake.f k) true := Ev.of (k := 60) (fun k => signalbenchlaw13_awake.mono k) (by decide +kernel)
theorem awake13_then : Ev (fun k => (signalbenchlaw13_awake.f k).bind fun t => some t) true := Ev.bind awake13_ev (Ev.now true)
theorem same13_l0 : ∀ (post pre : List S48), (pre ++ post).length ≤ 140737488351232 → Ev (fun k => signalbenchlaw13_same.l0 k (pre ++ post) (pre ++ post) (pre.length : Int)) true
 | [], pre, hl => by
  refine Ev.step (f := fun _ => some true) (fun k => ?_) (Ev.now _)
  simp only [signalbenchlaw13_same.l0]
  rw [if_neg (by simp)]
 | x :: post, pre, hl => by
  have hlt := mid_lt pre post x
  have hn : pre.length ≤ 9223372036854775806 := by
   simp only [List.length_append, List.length_cons] at hl
   omega
  have ih := same13_l0 post (pre ++ [x]) (by simpa using hl)
  rw [← mid_snoc] at ih
  refine Ev.step (fun k => ?_) ih
  simp only [signalbenchlaw13_same.l0]
  rw [rd_mid, if_pos hlt, if_pos (by omega), if_pos hlt, if_neg (by simp), succ_mid _ _ hn]
theorem same13_ev (l : List S48) (hl : l.length ≤ 140737488351232) : Ev (fun k => signalbenchlaw13_same.f k l l) true := by
 refine Ev.congr (fun k => ?_) (same13_l0 l [] (by simpa using hl))
 unfold signalbenchlaw13_same.f
 rw [if_pos rfl]
 rfl
def cntM (b : Int) : List S48 → Int
 | [] => 0
 | [_] => 0
 | y :: z :: r => (if y.f1 < b then 1 else 0) + cntM b (z :: r)
def cntF (b : Int) : List S48 → Int
 | [] => 0
 | _ :: r => cntM b r
theorem cntM_bound (b : Int) : ∀ (l : List S48), 0 ≤ cntM b l ∧ cntM b l ≤ l.length
 | [] => by simp [cntM]
 | [_] => by simp [cntM]
 | y :: z :: r => by
  have := cntM_bound b (z :: r)
  unfold cntM
  simp only [List.length_cons] at this ⊢
  split <;> omega
theorem clV_len (l : List S48) : (cleanV l).length ≤ 262144 ∧ (cleanV l).length ≤ l.length := by
 unfold cleanV
 by_cases v : vld l = true
 ·rw [if_pos v]
  have hv := vld_iff.1 v
  have := jn_len l
  omega
 ·rw [if_neg v]
  simp
def flt (b : Int) : S48 → List S48 → List S48
 | p, [] => [p]
 | p, [y] => [p, y]
 | p, y :: z :: r => if y.f1 < b then flt b ⟨p.f0, p.f1 + (y.f1 + z.f1)⟩ r else p :: flt b y (z :: r)
def filt (b : Int) : List S48 → List S48
 | [] => []
 | x :: r => flt b x r
def filV (l : List S48) (b : Int) : List S48 := filt b (cleanV l)
theorem Filter_l0 (b : Int) : ∀ (post pre q : List S48) (p : S48), RunsOk post → 0 ≤ p.f1 → p.f1 + sm post ≤ 1099511627776 → (pre ++ post).length ≤ 262144 → q.length + post.length ≤ 262144 →
  Ev (fun k => glitch_Filter.l0 k b (pre ++ post) (q ++ [p]) (pre.length : Int)) (q ++ flt b p post)
 | [], pre, q, p, hw, h0, hs, hl, hq => by
  refine Ev.step (f := fun _ => some (q ++ [p])) (fun k => ?_) (Ev.now _)
  simp only [glitch_Filter.l0]
  rw [if_neg (by simp)]
 | [y], pre, q, p, hw, h0, hs, hl, hq => by
  have hlt := mid_lt pre [] y
  have hll := hl
  simp only [List.length_append, List.length_cons, List.length_nil] at hll hq
  have e : wrap64 ((pre.length : Int) + 1) = ((pre ++ [y]).length : Int) := succ_mid pre y (by omega)
  refine Ev.step (f := fun k => glitch_Filter.l1 k b (pre ++ [y]) (q ++ [p]) (pre.length : Int)) (fun k => ?_) ?_
  ·simp only [glitch_Filter.l0]
   rw [if_pos hlt]
  ·refine Ev.step (f := fun k => glitch_Filter.l0 k b (pre ++ [y]) ((q ++ [p]) ++ [y]) ((pre ++ [y]).length : Int)) (fun k => ?_) ?_
   ·simp only [glitch_Filter.l1]
    rw [e, if_neg (by omega), if_pos (by omega), if_pos hlt, if_pos (by simp only [List.length_append, List.length_cons, List.length_nil]; omega), rd_mid]
   ·rw [flt, show q ++ [p, y] = (q ++ [p]) ++ [y] by simp]
    refine Ev.step (f := fun _ => some ((q ++ [p]) ++ [y])) (fun k => ?_) (Ev.now _)
    simp only [glitch_Filter.l0]
    rw [if_neg (by omega)]
 | y :: z :: r, pre, q, p, hw, h0, hs, hl, hq => by
  have hy := hw.cons
  have hz := hy.2.cons
  have hr := sm_nonneg hz.2
  simp only [sm] at hs
  have hlt := mid_lt pre (z :: r) y
  have hll := hl
  simp only [List.length_append, List.length_cons] at hll hq
  have e : wrap64 ((pre.length : Int) + 1) = ((pre ++ [y]).length : Int) := succ_mid pre y (by omega)
  have hl2 : ((pre ++ [y]).length : Int) < ((pre ++ y :: z :: r).length : Int) := by
   simp only [List.length_append, List.length_cons, List.length_nil]
   omega
  have rz : rd_T48 (pre ++ y :: z :: r) ((pre ++ [y]).length : Int) = z := by
   have := rd_mid (pre ++ [y]) r z
   rw [← mid_snoc] at this
   exact this
  have hst : ∀ k, glitch_Filter.l0 (k + 1) b (pre ++ y :: z :: r) (q ++ [p]) (pre.length : Int) = glitch_Filter.l1 k b (pre ++ y :: z :: r) (q ++ [p]) (pre.length : Int) := by
   intro k
   simp only [glitch_Filter.l0]
   rw [if_pos hlt]
  refine Ev.step hst ?_
  by_cases c : y.f1 < b
  ·have ih := Filter_l0 b r (pre ++ [y, z]) q ⟨p.f0, p.f1 + (y.f1 + z.f1)⟩ hz.2 (by show 0 ≤ p.f1 + (y.f1 + z.f1); omega) (by show p.f1 + (y.f1 + z.f1) + sm r ≤ _; omega) (by simpa using hl) (by omega)
   rw [show (pre ++ [y, z]) ++ r = pre ++ y :: z :: r by simp] at ih
   rw [flt, if_pos c]
   have e2 : wrap64 ((pre.length : Int) + 2) = ((pre ++ [y, z]).length : Int) := by
    rw [w64 (by omega) (by omega)]
    simp
   have el := last_at q p (by omega)
   have hql : (q.length : Int) < ((q ++ [p]).length : Int) := mid_lt q [] p
   refine Ev.step (fun k => ?_) ih
   simp only [glitch_Filter.l1]
   rw [e, if_pos hl2, if_pos (Int.natCast_nonneg _), if_pos hlt, rd_mid, if_pos c, el, if_pos (Int.natCast_nonneg _), if_pos hql, if_pos (Int.natCast_nonneg _), rd_last, rz, set_last, w64 (x := y.f1 + z.f1) (by omega) (by omega), w64 (x := p.f1 + (y.f1 + z.f1)) (by omega) (by omega), e2]
  ·have ih := Filter_l0 b (z :: r) (pre ++ [y]) (q ++ [p]) y hy.2 (by omega) (by simp only [sm]; omega) (by simpa using hl) (by simp only [List.length_append, List.length_cons, List.length_nil]; omega)
   rw [← mid_snoc pre (z :: r) y] at ih
   rw [flt, if_neg c, mid_snoc q (flt b y (z :: r)) p]
   refine Ev.step (fun k => ?_) ih
   simp only [glitch_Filter.l1]
   rw [e, if_pos hl2, if_pos (Int.natCast_nonneg _), if_pos hlt, rd_mid, if_neg c, if_pos (by simp only [List.length_append, List.length_cons, List.length_nil]; omega)]
theorem cleanV_ok (l : List S48) : RunsOk (cleanV l) ∧ sm (cleanV l) ≤ 1099511627776 ∧ apart (cleanV l) := by
 unfold cleanV
 by_cases v : vld l = true
 ·rw [if_pos v]
  have hv := vld_iff.1 v
  exact ⟨jn_ok hv.2.1, by rw [jn_sm]; exact hv.2.2, jn_apart l⟩
 ·rw [if_neg v]
  exact ⟨fun x hx => by simp at hx, by simp [sm], trivial⟩
theorem Filter_ev {l : List S48} {b : Int} (hw : RunsWf l) (hl : l.length ≤ 140737488351232) : Ev (fun k => glitch_Filter.f k l b) (filV l b) := by
 refine Ev.bind (wave_Clean_ev hw hl) ?_
 unfold filV
 have hc := (clV_len l).1
 have ho := cleanV_ok l
 match e : cleanV l with
 | [] => exact Ev.congr (fun k => if_pos (by decide)) (Ev.now _)
 | [x] => exact Ev.congr (fun k => if_pos (by simp)) (Ev.now _)
 | [x, y] => exact Ev.congr (fun k => if_pos (by simp)) (Ev.now _)
 | x :: y :: z :: r =>
  rw [e] at hc ho
  have hx := ho.1.cons
  have h0 := ho.2.1
  simp only [sm] at h0
  have h := Filter_l0 b (y :: z :: r) [x] [] x hx.2 (by omega) (by simp only [sm]; omega) (by simpa using hc) (by simp only [List.length_cons] at hc ⊢; simp only [List.length_nil]; omega)
  refine Ev.congr (fun k => (if_neg (by simp only [List.length_cons]; omega)).trans ((if_pos (by simp only [List.length_cons]; omega)).trans ((if_pos (by rw [Int.toNat_natCast]; omega)).trans ?_))) h
  rw [Option.bind_some, if_pos (by simp only [List.length_cons]; omega), if_pos (by simp)]
  rfl
def shM (b : Int) : Nat → List S48 → Int
 | _, [] => -1
 | _, [_] => -1
 | i, y :: z :: r => if y.f1 < b then (i : Int) else shM b (i + 1) (z :: r)
theorem short_l0 (b : Int) : ∀ (post pre : List S48), (pre ++ post).length ≤ 262144 →
  Ev (fun k => signalbenchref13_short.l0 k (pre ++ post) b (pre.length : Int)) (shM b pre.length post)
 | [], pre, hl => by
  refine Ev.step (f := fun _ => some (-1)) (fun k => ?_) (Ev.now _)
  simp only [signalbenchref13_short.l0]
  simp only [List.append_nil] at hl ⊢
  rw [w64 (by omega) (by omega), if_neg (by omega)]
 | [y], pre, hl => by
  refine Ev.step (f := fun _ => some (-1)) (fun k => ?_) (Ev.now _)
  simp only [signalbenchref13_short.l0]
  simp only [List.length_append, List.length_cons, List.length_nil] at hl ⊢
  rw [w64 (by omega) (by omega), if_neg (by omega)]
 | y :: z :: r, pre, hl => by
  have hlt := mid_lt pre (z :: r) y
  have hll := hl
  simp only [List.length_append, List.length_cons] at hll
  have e : wrap64 ((pre.length : Int) + 1) = ((pre ++ [y]).length : Int) := succ_mid pre y (by omega)
  have e2 : wrap64 (((pre ++ y :: z :: r).length : Int) - 1) = ((pre ++ y :: z :: r).length : Int) - 1 := w64 (by omega) (by omega)
  have hl2 : (pre.length : Int) < ((pre ++ y :: z :: r).length : Int) - 1 := by
   simp only [List.length_append, List.length_cons]
   omega
  have hst : ∀ k, signalbenchref13_short.l0 (k + 1) (pre ++ y :: z :: r) b (pre.length : Int) = if y.f1 < b then some (pre.length : Int) else signalbenchref13_short.l0 k (pre ++ y :: z :: r) b ((pre ++ [y]).length : Int) := by
   intro k
   simp only [signalbenchref13_short.l0]
   rw [e2, rd_mid, if_pos hl2, if_pos (Int.natCast_nonneg _), if_pos hlt, e]
  unfold shM
  by_cases c : y.f1 < b
  ·rw [if_pos c]
   exact Ev.step (fun k => (hst k).trans (if_pos c)) (Ev.now _)
  ·rw [if_neg c]
   have ih := short_l0 b (z :: r) (pre ++ [y]) (by simpa using hl)
   rw [← mid_snoc, show (pre ++ [y]).length = pre.length + 1 by simp] at ih
   refine Ev.step (fun k => (hst k).trans (if_neg c)) ?_
   rw [show (pre ++ [y]).length = pre.length + 1 by simp]
   exact ih
def shV (b : Int) : List S48 → Int
 | [] => -1
 | _ :: r => shM b 1 r
theorem short_ev (b : Int) (c : List S48) (hl : c.length ≤ 262144) : Ev (fun k => signalbenchref13_short.f k c b) (shV b c) := by
 cases c with
 | nil =>
  refine Ev.step (g := fun k => signalbenchref13_short.l0 k [] b 1) (f := fun _ => some (-1)) (fun k => ?_) (Ev.now _)
  simp only [signalbenchref13_short.l0]
  have e : wrap64 ((([] : List S48).length : Int) - 1) = -1 := by
   rw [List.length_nil, w64 (by decide) (by decide)]
   rfl
  rw [e, if_neg (by decide)]
 | cons x r => exact short_l0 b r [x] (by simpa using hl)
/-- One pulse taken out. -/
def red (b : Int) : S48 → List S48 → Option (List S48)
 | _, [] => none
 | _, [_] => none
 | p, y :: z :: r => if y.f1 < b then some ((⟨p.f0, p.f1 + (y.f1 + z.f1)⟩ : S48) :: r) else (red b y (z :: r)).map (fun c => p :: c)
theorem red_none (b : Int) : ∀ (l : List S48) (p : S48) (i : Nat), red b p l = none → shM b i l = -1 ∧ flt b p l = p :: l
 | [], p, i, h => ⟨rfl, rfl⟩
 | [y], p, i, h => ⟨rfl, rfl⟩
 | y :: z :: r, p, i, h => by
  unfold red at h
  by_cases c : y.f1 < b
  ·rw [if_pos c] at h
   cases h
  ·rw [if_neg c] at h
   have h1 := red_none b (z :: r) y (i + 1) (by simpa using h)
   unfold shM flt
   rw [if_neg c, if_neg c]
   exact ⟨h1.1, by rw [h1.2]⟩
theorem red_head (b : Int) : ∀ (l : List S48) (p : S48) (c : List S48), RunsOk l → red b p l = some c → ∃ t m, c = (⟨p.f0, t⟩ : S48) :: m ∧ p.f1 ≤ t
 | [], p, c, hw, h => by cases h
 | [y], p, c, hw, h => by cases h
 | y :: z :: r, p, c, hw, h => by
  have hy := hw.cons
  have hz := hy.2.cons
  unfold red at h
  by_cases k : y.f1 < b
  ·rw [if_pos k] at h
   obtain rfl := Option.some.inj h
   exact ⟨_, _, rfl, by omega⟩
  ·rw [if_neg k] at h
   obtain ⟨m, _, rfl⟩ := Option.map_eq_some_iff.1 h
   exact ⟨p.f1, m, rfl, Int.le_refl _⟩
theorem flt_long {b : Int} {p y : S48} (r : List S48) (h : ¬ y.f1 < b) : flt b p (y :: r) = p :: flt b y r := by
 cases r with
 | nil => rfl
 | cons z r => rw [flt, if_neg h]
theorem red_some (b : Int) : ∀ (l : List S48) (p : S48) (c : List S48), RunsOk (p :: l) → apart (p :: l) → red b p l = some c →
  flt b p l = filt b c ∧ c.length + 1 = l.length ∧ RunsOk c ∧ sm c = p.f1 + sm l ∧ apart c
 | [], p, c, hw, ha, h => by cases h
 | [y], p, c, hw, ha, h => by cases h
 | y :: z :: r, p, c, hw, ha, h => by
  have hp := hw.cons
  have hy := hp.2.cons
  have hz := hy.2.cons
  have ha1 : p.f0 ≠ y.f0 := ha.1
  have ha2 : y.f0 ≠ z.f0 := ha.2.1
  have ha3 : apartF z.f0 r := ha.2.2
  unfold red at h
  by_cases k : y.f1 < b
  ·rw [if_pos k] at h
   obtain rfl := Option.some.inj h
   have e : z.f0 = p.f0 := by omega
   refine ⟨?_, by simp, ?_, ?_, ?_⟩
   ·rw [flt, if_pos k]
    rfl
   ·intro x hx
    rcases List.mem_cons.1 hx with rfl | hx
    ·exact ⟨hp.1.1, by show 1 ≤ p.f1 + (y.f1 + z.f1); omega⟩
    ·exact hz.2 x hx
   ·simp only [sm]
    omega
   ·show apartF p.f0 r
    rw [← e]
    exact ha3
  ·rw [if_neg k] at h
   obtain ⟨m, hm, rfl⟩ := Option.map_eq_some_iff.1 h
   have ih := red_some b (z :: r) y m hp.2 ha.2 hm
   obtain ⟨t, m', rfl, ht⟩ := red_head b (z :: r) y m hy.2 hm
   refine ⟨?_, ?_, ?_, ?_, ?_⟩
   ·rw [flt, if_neg k, ih.1]
    show p :: flt b ⟨y.f0, t⟩ m' = flt b p (⟨y.f0, t⟩ :: m')
    rw [flt_long m' (by show ¬ t < b; omega)]
   ·have := ih.2.1
    simp only [List.length_cons] at this ⊢
    omega
   ·intro x hx
    rcases List.mem_cons.1 hx with rfl | hx
    ·exact hp.1
    ·exact ih.2.2.1 x hx
   ·have := ih.2.2.2.1
    simp only [sm] at this ⊢
    omega
   ·exact ⟨ha1, ih.2.2.2.2⟩
theorem jn_ne (p y : S48) (M : List S48) (h : p.f0 ≠ y.f0) : jn (p :: y :: M) = p :: jn (y :: M) := by
 show jnc p (y :: M) = _
 unfold jnc
 rw [if_neg h]
 rfl
theorem sh_red (b : Int) : ∀ (l : List S48) (p : S48) (i : Nat), RunsOk (p :: l) → apart (p :: l) → shM b i l ≠ -1 →
  ∃ (j : Nat) (u v : S48) (c : List S48), shM b i l = ((i + j : Nat) : Int) ∧ (p :: l)[j]? = some u ∧ (p :: l)[j + 1]? = some v ∧ red b p l = some c ∧ jn ((p :: l).set (j + 1) ⟨u.f0, v.f1⟩) = c
 | [], p, i, hw, ha, h => absurd rfl h
 | [y], p, i, hw, ha, h => absurd rfl h
 | y :: z :: r, p, i, hw, ha, h => by
  have hp := hw.cons
  have hy := hp.2.cons
  have hz := hy.2.cons
  have ha1 : p.f0 ≠ y.f0 := ha.1
  have ha2 : y.f0 ≠ z.f0 := ha.2.1
  have ha3 : apartF z.f0 r := ha.2.2
  by_cases k : y.f1 < b
  ·have e : z.f0 = p.f0 := by omega
   refine ⟨0, p, y, (⟨p.f0, p.f1 + (y.f1 + z.f1)⟩ : S48) :: r, by rw [shM, if_pos k]; rfl, rfl, rfl, by rw [red, if_pos k], ?_⟩
   show jnc p ((⟨p.f0, y.f1⟩ : S48) :: z :: r) = _
   unfold jnc
   rw [if_pos rfl]
   unfold jnc
   rw [if_pos (by show p.f0 = z.f0; exact e.symm), jnc_of_apart r _ (by show apartF p.f0 r; rw [← e]; exact ha3), Int.add_assoc]
  ·rw [shM, if_neg k] at h ⊢
   obtain ⟨j, u, v, c, h1, h2, h3, h4, h5⟩ := sh_red b (z :: r) y (i + 1) hp.2 ha.2 h
   refine ⟨j + 1, u, v, p :: c, ?_, ?_, ?_, by rw [red, if_neg k, h4]; rfl, ?_⟩
   ·rw [h1]
    congr 1
    omega
   ·rw [List.getElem?_cons_succ]
    exact h2
   ·rw [List.getElem?_cons_succ]
    exact h3
   ·rw [List.set_cons_succ]
    have e6 : (y :: z :: r).set (j + 1) ⟨u.f0, v.f1⟩ = y :: (z :: r).set j ⟨u.f0, v.f1⟩ := List.set_cons_succ ..
    rw [e6] at h5 ⊢
    rw [jn_ne p y _ ha1, h5]
theorem rd_get {l : List S48} {j : Nat} {u : S48} (h : l[j]? = some u) : rd_T48 l (j : Int) = u := by simp [rd_T48, List.getD, h]
theorem get_lt {l : List S48} {j : Nat} {u : S48} (h : l[j]? = some u) : j < l.length := by
 apply Classical.byContradiction
 intro hn
 rw [List.getElem?_eq_none (by omega)] at h
 cases h
theorem refFilter_l0 (l : List S48) (b : Int) (hl : l.length ≤ 262144) : ∀ (n : Nat) (c : List S48) (i : Nat), c.length ≤ n → i + n = l.length → RunsOk c → sm c ≤ 1099511627776 → apart c →
  Ev (fun k => signalbenchref13_Filter.l0 k l b c (i : Int)) (filt b c)
 | 0, c, i, hc, hi, hw, hs, ha => by
  have e : c = [] := List.eq_nil_of_length_eq_zero (by omega)
  subst e
  refine Ev.step (f := fun _ => some []) (fun k => ?_) (Ev.now _)
  simp only [signalbenchref13_Filter.l0]
  rw [if_neg (by omega)]
 | n + 1, c, i, hc, hi, hw, hs, ha => by
  have hsh := short_ev b c (by omega)
  have hlt : (i : Int) < (l.length : Int) := by omega
  cases c with
  | nil =>
   refine Ev.step (f := fun k => (signalbenchref13_short.f k [] b).bind fun t => if t < 0 then some [] else none) (fun k => ?_) (Ev.bind hsh (Ev.congr (fun k => if_pos (by show (-1 : Int) < 0; decide)) (Ev.now _)))
   simp only [signalbenchref13_Filter.l0]
   rw [if_pos hlt]
   refine congrArg _ (funext fun t => ?_)
   by_cases ct : t < 0
   ·rw [if_pos ct, if_pos ct]
   ·rw [if_neg ct, if_neg ct, Option.bind_some, if_pos (by simp), Option.bind_some]
    by_cases c2 : 0 ≤ wrap64 (t - 1)
    ·rw [if_pos c2, if_neg (by simp only [List.append_nil, List.length_nil]; omega)]
    ·rw [if_neg c2]
  | cons x r =>
   by_cases h1 : shM b 1 r = -1
   ·have hn : red b x r = none := by
     cases hr : red b x r with
     | none => rfl
     | some c' =>
      exfalso
      have key : ∀ (r : List S48) (x : S48) (i : Nat) (c' : List S48), red b x r = some c' → shM b i r ≠ -1 := by
       intro r
       induction r with
       | nil => intro x i c' h; cases h
       | cons y r ih =>
        intro x i c' h
        cases r with
        | nil => cases h
        | cons z r =>
         unfold red at h
         unfold shM
         by_cases k : y.f1 < b
         ·rw [if_pos k]
          omega
         ·rw [if_neg k] at h ⊢
          obtain ⟨m, hm, _⟩ := Option.map_eq_some_iff.1 h
          exact ih y (i + 1) m hm
      exact key r x 1 c' hr h1
    have h2 := (red_none b r x 1 hn).2
    have hsh' : Ev (fun k => signalbenchref13_short.f k (x :: r) b) (-1) := by
     have : shV b (x :: r) = -1 := h1
     rw [this] at hsh
     exact hsh
    rw [show filt b (x :: r) = x :: r from h2]
    have hb := Ev.bind (f := fun k t => if t < 0 then some (x :: r) else ((some ([] : List S48)).bind fun y258 => (if y258.length + (x :: r).length < 8796093022208 then ((some (y258 ++ (x :: r) : List S48)).bind fun y261 => (if 0 ≤ (wrap64 (t - 1)) then (if (wrap64 (t - 1)) < (y261.length : Int) then (if 0 ≤ t then (if t < (y261.length : Int) then ((signalbenchref08_Clean.f k (y261.set (t : Int).toNat (⟨(rd_T48 y261 (wrap64 (t - 1))).f0, (rd_T48 y261 t).f1⟩ : S48))).bind fun t266 => (signalbenchref13_Filter.l0 k l b t266 (wrap64 ((i : Int) + 1)))) else (none)) else (none)) else (none)) else (none))) else (none)))) hsh' (Ev.congr (fun k => if_pos (by decide)) (Ev.now (x :: r)))
    refine Ev.step (fun k => ?_) hb
    simp only [signalbenchref13_Filter.l0]
    rw [if_pos hlt]
   ·obtain ⟨j, u, v, c', e1, e2, e3, e4, e5⟩ := sh_red b r x 1 hw ha h1
    have hrs := red_some b r x c' hw ha e4
    have hjl := get_lt e3
    have hsh' : Ev (fun k => signalbenchref13_short.f k (x :: r) b) ((1 + j : Nat) : Int) := by
     have : shV b (x :: r) = ((1 + j : Nat) : Int) := e1
     rw [this] at hsh
     exact hsh
    have es : wrap64 (((1 + j : Nat) : Int) - 1) = (j : Int) := by
     rw [w64 (by omega) (by omega)]
     omega
    have et : (((1 + j : Nat) : Int)).toNat = j + 1 := by omega
    have q1 : ¬ ((1 + j : Nat) : Int) < 0 := by omega
    have q2 : ([] : List S48).length + (x :: r).length < 8796093022208 := by
     simp only [List.length_nil]
     omega
    have q3 : (j : Int) < ((x :: r).length : Int) := by omega
    have q4 : ((1 + j : Nat) : Int) < ((x :: r).length : Int) := by omega
    have hset : ∀ y ∈ (x :: r).set (j + 1) ⟨u.f0, v.f1⟩, (y.f0 = 0 ∨ y.f0 = 1) ∧ 1 ≤ y.f1 := by
     intro y hy
     rcases List.mem_or_eq_of_mem_set hy with hy | rfl
     ·exact hw y hy
     ·have hu := hw u (List.mem_of_getElem? e2)
      have hv := hw v (List.mem_of_getElem? e3)
      exact ⟨hu.1, hv.2⟩
    have hsm : sm ((x :: r).set (j + 1) ⟨u.f0, v.f1⟩) = sm (x :: r) := by
     have := hrs.2.2.2.1
     rw [← e5, jn_sm] at this
     rw [this]
     rfl
    have hlen : ((x :: r).set (j + 1) ⟨u.f0, v.f1⟩).length ≤ 262144 := by
     rw [List.length_set]
     omega
    have hv2 : vld ((x :: r).set (j + 1) ⟨u.f0, v.f1⟩) = true := vld_iff.2 ⟨hlen, hset, by rw [hsm]; exact hs⟩
    have hcl := ref_Clean_ev (RunsOk.wf hset (by rw [hsm]; exact hs)) (by omega : ((x :: r).set (j + 1) ⟨u.f0, v.f1⟩).length ≤ 140737488351232)
    have e6 : cleanV ((x :: r).set (j + 1) ⟨u.f0, v.f1⟩) = c' := by
     unfold cleanV
     rw [if_pos hv2, e5]
    rw [e6] at hcl
    have hcl' : c'.length ≤ n := by
     have := hrs.2.1
     simp only [List.length_cons] at hc
     omega
    have ih := refFilter_l0 l b hl n c' (i + 1) hcl' (by omega) hrs.2.2.1 (by
     have h7 := hrs.2.2.2.1
     simp only [sm] at hs
     omega) hrs.2.2.2.2
    rw [show filt b (x :: r) = filt b c' from hrs.1]
    have ew : wrap64 ((i : Int) + 1) = ((i + 1 : Nat) : Int) := by
     rw [w64 (by omega) (by omega)]
     norm_cast
    have r0 : rd_T48 (x :: r) (j : Int) = u := rd_get e2
    have r1 : rd_T48 (x :: r) ((1 + j : Nat) : Int) = v := by
     rw [show 1 + j = j + 1 by omega]
     exact rd_get e3
    have hb := Ev.bind (f := fun k t => if t < 0 then some (x :: r) else ((some ([] : List S48)).bind fun y258 => (if y258.length + (x :: r).length < 8796093022208 then ((some (y258 ++ (x :: r) : List S48)).bind fun y261 => (if 0 ≤ (wrap64 (t - 1)) then (if (wrap64 (t - 1)) < (y261.length : Int) then (if 0 ≤ t then (if t < (y261.length : Int) then ((signalbenchref08_Clean.f k (y261.set (t : Int).toNat (⟨(rd_T48 y261 (wrap64 (t - 1))).f0, (rd_T48 y261 t).f1⟩ : S48))).bind fun t266 => (signalbenchref13_Filter.l0 k l b t266 (wrap64 ((i : Int) + 1)))) else (none)) else (none)) else (none)) else (none))) else (none)))) hsh' (r := filt b c') (Ev.congr (f := fun k => (signalbenchref08_Clean.f k ((x :: r).set (j + 1) ⟨u.f0, v.f1⟩)).bind fun t266 => signalbenchref13_Filter.l0 k l b t266 ((i + 1 : Nat) : Int)) (fun k => by
     rw [if_neg q1, Option.bind_some, if_pos q2, Option.bind_some, List.nil_append, es, if_pos (Int.natCast_nonneg j), if_pos q3, if_pos (Int.natCast_nonneg (1 + j)), if_pos q4, et, r0, r1, ew]) (Ev.bind hcl ih))
    refine Ev.step (fun k => ?_) hb
    simp only [signalbenchref13_Filter.l0]
    rw [if_pos hlt]
theorem refFilter_ev {l : List S48} {b : Int} (hw : RunsWf l) (hl : l.length ≤ 140737488351232) : Ev (fun k => signalbenchref13_Filter.f k l b) (filV l b) := by
 refine Ev.bind (ref_Valid_ev hw hl) ?_
 unfold filV
 by_cases v : vld l = true
 ·have hv := vld_iff.1 v
  have ho := cleanV_ok l
  exact Ev.congr (fun k => if_pos v) (Ev.bind (ref_Clean_ev hw hl) (refFilter_l0 l b hv.1 l.length (cleanV l) 0 (clV_len l).2 (by omega) ho.1 ho.2.1 ho.2.2))
 ·rw [show cleanV l = [] from if_neg v]
  exact Ev.congr (fun k => if_neg v) (Ev.now _)
theorem flt_len (b : Int) : ∀ (l : List S48) (p : S48), (flt b p l).length ≤ l.length + 1
 | [], p => by simp [flt]
 | [y], p => by simp [flt]
 | y :: z :: r, p => by
  unfold flt
  by_cases k : y.f1 < b
  ·rw [if_pos k]
   have := flt_len b r ⟨p.f0, p.f1 + (y.f1 + z.f1)⟩
   simp only [List.length_cons]
   omega
  ·rw [if_neg k]
   have := flt_len b (z :: r) y
   simp only [List.length_cons] at this ⊢
   omega
theorem filV_len (l : List S48) (b : Int) : (filV l b).length ≤ l.length := by
 have := (clV_len l).2
 unfold filV
 cases e : cleanV l with
 | nil => simp [filt]
 | cons x r =>
  rw [e] at this
  have h := flt_len b r x
  simp only [List.length_cons] at this
  show (flt b x r).length ≤ _
  omega
theorem flt_head (b : Int) : ∀ (l : List S48) (p : S48), RunsOk l → ∃ t m, flt b p l = (⟨p.f0, t⟩ : S48) :: m ∧ p.f1 ≤ t
 | [], p, hw => ⟨p.f1, [], rfl, Int.le_refl _⟩
 | [y], p, hw => ⟨p.f1, [y], rfl, Int.le_refl _⟩
 | y :: z :: r, p, hw => by
  have hy := hw.cons
  have hz := hy.2.cons
  unfold flt
  by_cases k : y.f1 < b
  ·rw [if_pos k]
   obtain ⟨t, m, e, h⟩ := flt_head b r ⟨p.f0, p.f1 + (y.f1 + z.f1)⟩ hz.2
   have h' : p.f1 + (y.f1 + z.f1) ≤ t := h
   exact ⟨t, m, e, by omega⟩
  ·rw [if_neg k]
   exact ⟨p.f1, _, rfl, Int.le_refl _⟩
theorem flt_ok (b : Int) : ∀ (l : List S48) (p : S48), RunsOk (p :: l) → apart (p :: l) → RunsOk (flt b p l) ∧ sm (flt b p l) = p.f1 + sm l ∧ apart (flt b p l) ∧ (∃ t m, flt b p l = (⟨p.f0, t⟩ : S48) :: m ∧ cntM b m = 0)
 | [], p, hw, ha => ⟨hw, by simp [flt, sm], trivial, p.f1, [], rfl, rfl⟩
 | [y], p, hw, ha => ⟨hw, by simp [flt, sm], ha, p.f1, [y], rfl, rfl⟩
 | y :: z :: r, p, hw, ha => by
  have hp := hw.cons
  have hy := hp.2.cons
  have hz := hy.2.cons
  have ha1 : p.f0 ≠ y.f0 := ha.1
  have ha2 : y.f0 ≠ z.f0 := ha.2.1
  have ha3 : apartF z.f0 r := ha.2.2
  by_cases k : y.f1 < b
  ·have e : z.f0 = p.f0 := by omega
   have ih := flt_ok b r ⟨p.f0, p.f1 + (y.f1 + z.f1)⟩ (by
    intro x hx
    rcases List.mem_cons.1 hx with rfl | hx
    ·exact ⟨hp.1.1, by show 1 ≤ p.f1 + (y.f1 + z.f1); omega⟩
    ·exact hz.2 x hx) (by show apartF p.f0 r; rw [← e]; exact ha3)
   rw [flt, if_pos k]
   refine ⟨ih.1, ?_, ih.2.2.1, ih.2.2.2⟩
   rw [ih.2.1]
   simp only [sm]
   omega
  ·have ih := flt_ok b (z :: r) y hp.2 ha.2
   obtain ⟨t', m', e', ht'⟩ := flt_head b (z :: r) y hy.2
   obtain ⟨t, m, e, hm⟩ := ih.2.2.2
   rw [flt, if_neg k]
   refine ⟨?_, ?_, ?_, p.f1, flt b y (z :: r), rfl, ?_⟩
   ·intro x hx
    rcases List.mem_cons.1 hx with rfl | hx
    ·exact hp.1
    ·exact ih.1 x hx
   ·simp only [sm]
    rw [ih.2.1]
    simp only [sm]
   ·have h3 := ih.2.2.1
    rw [e] at h3 ⊢
    exact ⟨ha1, h3⟩
   ·rw [e] at e' ⊢
    injection e' with e1 e2
    injection e1 with _ e3
    cases m with
    | nil => rfl
    | cons u us =>
     rw [cntM, hm, if_neg (by show ¬ t < b; omega)]
     rfl
theorem flt_id (b : Int) : ∀ (l : List S48) (p : S48), cntM b l = 0 → flt b p l = p :: l
 | [], p, h => rfl
 | [y], p, h => rfl
 | y :: z :: r, p, h => by
  have hb := cntM_bound b (z :: r)
  unfold cntM at h
  unfold flt
  by_cases k : y.f1 < b
  ·rw [if_pos k] at h
   omega
  ·rw [if_neg k] at h ⊢
   rw [flt_id b (z :: r) y (by omega)]
theorem filV_ok {l : List S48} (b : Int) (v : vld l = true) : vld (filV l b) = true ∧ sm (filV l b) = sm l ∧ apart (filV l b) ∧ cntF b (filV l b) = 0 ∧ filt b (filV l b) = filV l b := by
 have hv := vld_iff.1 v
 have hlen := filV_len l b
 have ho := cleanV_ok l
 have hs : sm (cleanV l) = sm l := by
  unfold cleanV
  rw [if_pos v, jn_sm]
 unfold filV at hlen ⊢
 cases e : cleanV l with
 | nil =>
  rw [e] at hs
  refine ⟨by rfl, hs, trivial, rfl, rfl⟩
 | cons x r =>
  rw [e] at ho hs hlen
  have h := flt_ok b r x ho.1 ho.2.2
  obtain ⟨t, m, e2, hm⟩ := h.2.2.2
  have hs2 : sm (flt b x r) = sm l := by
   rw [h.2.1]
   exact hs
  refine ⟨vld_iff.2 ⟨by show (flt b x r).length ≤ _; have : (flt b x r).length ≤ l.length := hlen; omega, h.1, by show sm (flt b x r) ≤ _; rw [hs2]; exact hv.2.2⟩, hs2, h.2.2.1, ?_, ?_⟩
  ·show cntF b (flt b x r) = 0
   rw [e2]
   exact hm
  ·show filt b (flt b x r) = flt b x r
   rw [e2]
   exact flt_id b m _ hm
theorem RunsOk.tk {l : List S48} (h : RunsOk l) : Tk l := fun y hy => (h y hy).2
theorem map_snoc_chs (b : Int) (i : Nat) (c : List S48) : (chs 0 i c).map (fun w => filV w b) ++ [filV (chR (i : Int) c) b] = (chs 0 (i + 1) c).map (fun w => filV w b) := by
 rw [← chs_snoc i 0 c, List.map_append, Nat.zero_add]
 rfl
theorem smallR_wf {m : Int} {l : List S48} (hm : m ≤ 65535) (h : RunsM m l) (hs : sm l ≤ 1099511627776) : RunsWf l := by
 intro y hy
 have h7 := h y hy
 have h8 := leT_sm h.tk y hy
 unfold RunWf
 simp [Lit.wf, IntKind.min, IntKind.max, IntKind.bits, IntKind.signed]
 omega
/-- What the channels of a valid capture are. -/
theorem chan_ok {l : List ByteArray} {r : List S48} (hc : chkV l r = 0) (hlr : r.length ≤ 2000) {k : Nat} (hk : k < l.length) : RunsWf (chR (k : Int) r) ∧ (chR (k : Int) r).length ≤ 2000 ∧ vld (chR (k : Int) r) = true ∧ sm (chR (k : Int) r) = sm r := by
 have h := chk_0 hc
 have hn := nms_0 h.2.1
 have hm := mk_le hn.1
 have h3 := chR_len (k : Int) r
 have h4 := chR_ok (m := mk l) (i := (k : Int)) (by omega) (by omega) h.2.2.1
 have h6 : sm (chR (k : Int) r) = sm r := chR_sm _ r
 exact ⟨smallR_wf (m := 1) (by omega) h4 (by omega), by omega, vld_of1 h4 (by omega) (by omega), h6⟩
def allC (l : List ByteArray) (r : List S48) (b : Int) : List ByteArray × List S48 × Int :=
 if chkV l r = 0 then bldV l ((chs 0 l.length r).map (fun w => filV w b)) else ([], [], chkV l r)
theorem chan_ev {l : List ByteArray} {r : List S48} (hs : StrsOk l) (hc : chkV l r = 0) (hlr : r.length ≤ 2000) {pre post : List ByteArray} {x : ByteArray} (e : l = pre ++ x :: post) (hd : dupS pre (x :: post) = false) :
  chV l r x = (chR (pre.length : Int) r, 0) := by
 have hx := ixS_own hd
 unfold chV
 have e3 : ixS x 0 l = (pre.length : Int) := by
  rw [e]
  exact hx.1
 rw [if_pos hc, e3, if_neg (by omega), chC_eq]
theorem filV_wf {w : List S48} (b : Int) (v : vld w = true) : RunsWf (filV w b) := vld_wf (filV_ok b v).1
theorem wwf_fil {l : List ByteArray} {r : List S48} (b : Int) (hc : chkV l r = 0) (hlr : r.length ≤ 2000) : WWf ((chs 0 l.length r).map (fun w => filV w b)) := by
 intro w hw
 obtain ⟨v, hv, rfl⟩ := List.mem_map.1 hw
 obtain ⟨k, h1, h2, rfl⟩ := (mem_chs _ _ _ _).1 hv
 have hk := chan_ok hc hlr (k := k) (by omega)
 have hf := filV_len (chR (k : Int) r) b
 exact ⟨filV_wf b hk.2.2.1, by omega⟩
theorem All_l0 {l : List ByteArray} {r : List S48} (b : Int) (hs : StrsOk l) (hc : chkV l r = 0) (hlr : r.length ≤ 2000) : ∀ (post pre : List ByteArray), l = pre ++ post → dupS pre post = false →
  Ev (fun k => glitch_All.l0 k b ((chs 0 pre.length r).map (fun w => filV w b)) l (l.length : Int) (pre.length : Int) l r) (bldV l ((chs 0 l.length r).map (fun w => filV w b)))
 | [], pre, e, hd => by
  have h := chk_0 hc
  have hn := nms_0 h.2.1
  have e1 : pre = l := by rw [e]; simp
  subst e1
  have hB := Build_ev hs (wwf_fil b hc hlr) (by omega) (by rw [List.length_map, chs_len]; omega)
  refine Ev.step (f := fun k => (capture_Build.f k pre ((chs 0 pre.length r).map (fun w => filV w b))).bind fun bt494 => (some (bt494.1, bt494.2.1, bt494.2.2))) (fun k => ?_) (Ev.bind hB (Ev.now _))
  simp only [glitch_All.l0]
  rw [if_neg (by omega)]
 | x :: post, pre, e, hd => by
  have h := chk_0 hc
  have hn := nms_0 h.2.1
  have hlt : (pre.length : Int) < (l.length : Int) := by
   rw [e]
   exact mids_lt pre post x
  have hr : rdOf ByteArray.empty l (pre.length : Int) = x := by
   rw [e]
   exact rds_mid pre post x
  have hCh := Channel_ev (s := x) hs (by omega) (show r.length ≤ 140737488351232 by omega)
  rw [chan_ev hs hc hlr e hd] at hCh
  have hk := chan_ok hc hlr (k := pre.length) (by omega)
  have hF := Filter_ev (b := b) hk.1 (by omega)
  have ih := All_l0 b hs hc hlr post (pre ++ [x]) (by simpa using e) (ixS_own hd).2
  have e4 : (chs 0 (pre ++ [x]).length r).map (fun w => filV w b) = (chs 0 pre.length r).map (fun w => filV w b) ++ [filV (chR (pre.length : Int) r) b] := by
   rw [map_snoc_chs, show (pre ++ [x]).length = pre.length + 1 by simp]
  rw [e4] at ih
  have q : ((chs 0 pre.length r).map (fun w => filV w b)).length < 5864062014805 := by
   rw [List.length_map, chs_len]
   omega
  have ex := succ_mid pre x (by omega)
  clear hk h hn hs
  refine Ev.step (f := fun k => (capture_Channel.f k l r x).bind fun bt502 => (if bt502.2 = 0 then ((glitch_Filter.f k bt502.1 b).bind fun t506 => (if ((chs 0 pre.length r).map (fun w => filV w b)).length < 5864062014805 then (glitch_All.l0 k b ((chs 0 pre.length r).map (fun w => filV w b) ++ [t506]) l (l.length : Int) ((pre ++ [x]).length : Int) l r) else (none))) else (some (([] : List ByteArray), ([] : List S48), bt502.2)))) (fun k => ?_) (Ev.bind hCh (Ev.congr (fun k => if_pos rfl) (Ev.bind hF (Ev.congr (fun k => if_pos q) ih))))
  simp only [glitch_All.l0]
  rw [if_pos hlt, if_pos (Int.natCast_nonneg _), if_pos hlt, hr, ex]
theorem All_ev {l : List ByteArray} {r : List S48} (b : Int) (hs : StrsOk l) (hl : l.length ≤ 100) (hlr : r.length ≤ 2000) : Ev (fun k => glitch_All.f k l r b) (allC l r b) := by
 unfold allC
 refine Ev.bind (Check_ev hs (by omega) (by omega)) ?_
 by_cases c : chkV l r = 0
 ·rw [if_pos c]
  have h := All_l0 b hs c hlr l [] rfl (nms_dup (chk_0 c).2.1)
  refine Ev.congr (fun k => (if_pos c).trans ((if_pos (Int.natCast_nonneg _)).trans (if_pos (by rw [Int.toNat_natCast]; omega)))) ?_
  exact h
 ·rw [if_neg c]
  exact Ev.congr (fun k => if_neg c) (Ev.now _)
theorem refAll_l0 {l : List ByteArray} {r : List S48} (b : Int) (hs : StrsOk l) (hc : chkV l r = 0) (hlr : r.length ≤ 2000) : ∀ (post pre : List ByteArray), l = pre ++ post → dupS pre post = false →
  Ev (fun k => signalbenchref13_All.l0 k b ((chs 0 pre.length r).map (fun w => filV w b)) (pre.length : Int) l r) (bldV l ((chs 0 l.length r).map (fun w => filV w b)))
 | [], pre, e, hd => by
  have h := chk_0 hc
  have hn := nms_0 h.2.1
  have e1 : pre = l := by rw [e]; simp
  subst e1
  have hB := refBuild_ev hs (wwf_fil b hc hlr) (by omega) (by rw [List.length_map, chs_len]; omega)
  refine Ev.step (f := fun k => (signalbenchref09_Build.f k pre ((chs 0 pre.length r).map (fun w => filV w b))).bind fun bt494 => (some (bt494.1, bt494.2.1, bt494.2.2))) (fun k => ?_) (Ev.bind hB (Ev.now _))
  simp only [signalbenchref13_All.l0]
  rw [if_neg (by omega)]
 | x :: post, pre, e, hd => by
  have h := chk_0 hc
  have hn := nms_0 h.2.1
  have hlt : (pre.length : Int) < (l.length : Int) := by
   rw [e]
   exact mids_lt pre post x
  have hr : rdOf ByteArray.empty l (pre.length : Int) = x := by
   rw [e]
   exact rds_mid pre post x
  have hCh := refChannel_ev (s := x) hs (by omega) (show r.length ≤ 140737488351232 by omega)
  rw [chan_ev hs hc hlr e hd] at hCh
  have hk := chan_ok hc hlr (k := pre.length) (by omega)
  have hF := refFilter_ev (b := b) hk.1 (by omega)
  have ih := refAll_l0 b hs hc hlr post (pre ++ [x]) (by simpa using e) (ixS_own hd).2
  have e4 : (chs 0 (pre ++ [x]).length r).map (fun w => filV w b) = (chs 0 pre.length r).map (fun w => filV w b) ++ [filV (chR (pre.length : Int) r) b] := by
   rw [map_snoc_chs, show (pre ++ [x]).length = pre.length + 1 by simp]
  rw [e4] at ih
  have q : ((chs 0 pre.length r).map (fun w => filV w b)).length < 5864062014805 := by
   rw [List.length_map, chs_len]
   omega
  have ex := succ_mid pre x (by omega)
  clear hk h hn hs
  refine Ev.step (f := fun k => (signalbenchref09_Channel.f k l r x).bind fun bt613 => (if bt613.2 = 0 then ((signalbenchref13_Filter.f k bt613.1 b).bind fun t617 => (if ((chs 0 pre.length r).map (fun w => filV w b)).length < 5864062014805 then (signalbenchref13_All.l0 k b ((chs 0 pre.length r).map (fun w => filV w b) ++ [t617]) ((pre ++ [x]).length : Int) l r) else (none))) else (some (([] : List ByteArray), ([] : List S48), bt613.2)))) (fun k => ?_) (Ev.bind hCh (Ev.congr (fun k => if_pos rfl) (Ev.bind hF (Ev.congr (fun k => if_pos q) ih))))
  simp only [signalbenchref13_All.l0]
  rw [if_pos hlt, if_pos (Int.natCast_nonneg _), hr, ex]
theorem refAll_ev {l : List ByteArray} {r : List S48} (b : Int) (hs : StrsOk l) (hl : l.length ≤ 100) (hlr : r.length ≤ 2000) : Ev (fun k => signalbenchref13_All.f k l r b) (allC l r b) := by
 unfold allC
 refine Ev.bind (refCheck_ev hs (by omega) (by omega)) ?_
 by_cases c : chkV l r = 0
 ·rw [if_pos c]
  have h := refAll_l0 b hs c hlr l [] rfl (nms_dup (chk_0 c).2.1)
  exact Ev.congr (fun k => if_pos c) h
 ·rw [if_neg c]
  exact Ev.congr (fun k => if_neg c) (Ev.now _)
def smlS : List ByteArray → Bool
 | [] => true
 | x :: l => if x.size > 20 then false else smlS l
def smlV (l : List ByteArray) (r : List S48) : Bool := if r.length > 30 then false else if l.length > 17 then false else smlS l
theorem small_l0 (r : List S48) : ∀ (post pre : List ByteArray), (pre ++ post).length ≤ 262144 → Ev (fun k => signalbenchlaw13_small.l0 k (pre.length : Int) (pre ++ post) r) (smlS post)
 | [], pre, hl => by
  refine Ev.step (f := fun _ => some true) (fun k => ?_) (Ev.now _)
  simp only [signalbenchlaw13_small.l0]
  rw [if_neg (by simp)]
 | x :: post, pre, hl => by
  have hlt := mids_lt pre post x
  have hn : pre.length ≤ 262144 := by
   simp only [List.length_append] at hl
   omega
  have hst : ∀ k, signalbenchlaw13_small.l0 (k + 1) (pre.length : Int) (pre ++ x :: post) r = if (x.size : Int) > 20 then some false else signalbenchlaw13_small.l0 k ((pre ++ [x]).length : Int) (pre ++ x :: post) r := by
   intro k
   simp only [signalbenchlaw13_small.l0]
   rw [if_pos hlt, if_pos (Int.natCast_nonneg _), rds_mid, succ_mid pre x (by omega)]
  unfold smlS
  by_cases c : x.size > 20
  ·rw [if_pos c]
   exact Ev.step (fun k => (hst k).trans (if_pos (by omega))) (Ev.now _)
  ·rw [if_neg c]
   have ih := small_l0 r post (pre ++ [x]) (by simpa using hl)
   rw [← mid_snoc] at ih
   exact Ev.step (fun k => (hst k).trans (if_neg (by omega))) ih
theorem small_ev (l : List ByteArray) (r : List S48) : Ev (fun k => signalbenchlaw13_small.f k l r) (smlV l r) := by
 unfold smlV
 have hj : Ev (fun k => signalbenchlaw13_small.j0 k true l r) false := Ev.step (f := fun _ => some false) (fun k => by simp only [signalbenchlaw13_small.j0]; rfl) (Ev.now _)
 by_cases c : r.length > 30
 ·rw [if_pos c]
  exact Ev.congr (fun k => if_pos (by omega)) hj
 ·rw [if_neg c]
  refine Ev.congr (fun k => if_neg (by omega)) ?_
  by_cases c1 : l.length > 17
  ·rw [if_pos c1, decide_eq_true (by omega)]
   exact hj
  ·rw [if_neg c1, decide_eq_false (by omega)]
   refine Ev.step (fun k => ?_) (small_l0 r l [] (by rw [List.nil_append]; omega))
   simp only [signalbenchlaw13_small.j0]
   rw [if_neg (by decide)]
   rfl
theorem sml_len {l : List ByteArray} {r : List S48} (h : smlV l r = true) : l.length ≤ 17 ∧ r.length ≤ 30 := by
 unfold smlV at h
 by_cases c : r.length > 30
 ·rw [if_pos c] at h
  cases h
 ·rw [if_neg c] at h
  by_cases c1 : l.length > 17
  ·rw [if_pos c1] at h
   cases h
  ·omega
theorem GAll_l0 (r s : List S48) : ∀ (post pre : List ByteArray), (pre ++ post).length ≤ 262144 → Ev (fun k => signalbenchlaw13_GlitchAll.l0 k (pre.length : Int) (pre ++ post) r (pre ++ post) s) true
 | [], pre, hl => by
  refine Ev.step (fun k => ?_) awake13_then
  simp only [signalbenchlaw13_GlitchAll.l0]
  rw [if_neg (by simp)]
 | x :: post, pre, hl => by
  have hlt := mids_lt pre post x
  have hn : pre.length ≤ 262144 := by
   simp only [List.length_append] at hl
   omega
  have ih := GAll_l0 r s post (pre ++ [x]) (by simpa using hl)
  rw [← mid_snoc] at ih
  refine Ev.step (fun k => ?_) ih
  simp only [signalbenchlaw13_GlitchAll.l0]
  rw [if_pos hlt, if_pos (Int.natCast_nonneg _), if_pos hlt, if_pos trivial, succ_mid pre x (by omega)]
theorem allC_len (l : List ByteArray) (r : List S48) (b : Int) : (allC l r b).1.length ≤ l.length ∧ (allC l r b).2.1.length ≤ 262144 := by
 unfold allC
 by_cases c : chkV l r = 0
 ·rw [if_pos c]
  exact bldV_len _ _
 ·rw [if_neg c]
  simp
theorem GlitchAll_pure {l : List ByteArray} {r : List S48} {b : Int} (hs : StrsOk l) : ∃ k, signalbenchlaw13_GlitchAll.f k l r b = some true := by
 refine Ev.rounds (Ev.bind (small_ev l r) ?_)
 by_cases c : smlV l r = true
 ·have hl := sml_len c
  have hb := allC_len l r b
  refine Ev.congr (fun k => if_pos c) (Ev.bind (All_ev b hs (by omega) (by omega)) (Ev.bind (refAll_ev b hs (by omega) (by omega)) (Ev.congr (fun k => (if_pos rfl).trans (if_pos rfl)) (Ev.bind (same13_ev _ (by omega)) ?_))))
  refine Ev.step (fun k => ?_) (GAll_l0 (allC l r b).2.1 (allC l r b).2.1 (allC l r b).1 [] (by rw [List.nil_append]; omega))
  simp only [signalbenchlaw13_GlitchAll.j0]
  rw [if_neg (by decide)]
  rfl
 ·exact Ev.congr (fun k => if_neg c) awake13_then
def Lv (ws : List (List S48)) : Prop := ∀ w ∈ ws, RunsOk w
theorem cut_ok1 (s : Int) {w : List S48} (h : RunsOk w) (hs : ∀ x l, w = x :: l → s ≤ x.f1) : RunsOk (cutR s w) := by
 cases w with
 | nil => exact h
 | cons x l =>
  have hx := h.cons
  have h1 := hs x l rfl
  rw [cutR_cons]
  by_cases c : x.f1 = s
  ·rw [if_pos c]
   exact hx.2
  ·rw [if_neg c]
   intro y hy
   rcases List.mem_cons.1 hy with rfl | hy
   ·exact ⟨hx.1.1, by show 1 ≤ x.f1 - s; omega⟩
   ·exact hx.2 y hy
theorem Lv.cut {ws : List (List S48)} (h : Lv ws) : Lv (ws.map (cutR (stp 1099511627776 ws))) := by
 intro w hw
 obtain ⟨v, hv, rfl⟩ := List.mem_map.1 hw
 refine cut_ok1 _ (h v hv) (fun x l e => ?_)
 have := (stp_le ws 1099511627776).2 v hv
 rw [e] at this
 exact this
end Go.Proofs.Ytobicjobkdhelaa
