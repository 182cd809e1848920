/- The law GlitchRemoved as a plain statement on numbers and lists: with enough rounds it answers true; conditions: each number is one of its kind, no list or string is longer than its memory allows. -/
import Derived.Laws.BitsAllLaws
import Derived.WalkKit
import Derived.Test.YtobicjobkdhelaaWMore
import Derived.Laws.Strings
import Derived.Test.YtobicjobkdhelaaQx0
import Derived.Test.YtobicjobkdhelaaQx2
import Derived.Test.YtobicjobkdhelaaQx3
import Derived.Test.YtobicjobkdhelaaQx4
import Derived.Test.YtobicjobkdhelaaQx5
import Derived.Test.YtobicjobkdhelaaQx6
import Derived.Test.YtobicjobkdhelaaQx7
import Derived.Test.YtobicjobkdhelaaQx8
import Derived.Test.YtobicjobkdhelaaQx9
import Derived.Test.YtobicjobkdhelaaQx10
import Derived.Test.YtobicjobkdhelaaQx11
import Derived.Test.YtobicjobkdhelaaQx12
import Derived.Test.YtobicjobkdhelaaQx13
import Derived.Test.YtobicjobkdhelaaQx14
import Derived.Test.YtobicjobkdhelaaQx15
import Derived.Test.YtobicjobkdhelaaQx16
namespace Go.Proofs.Ytobicjobkdhelaa
open Go Go.RowKit Go.Proofs.YtobicjobkdhelaaW.PrintWords Go.Proofs.YtobicjobkdhelaaW.PrintLast Go.Proofs.Ytobicjobkdhelaa.Q
set_option linter.unusedVariables false
theorem w64 {x : Int} (h0 : -9223372036854775808 ≤ x) (h1 : x ≤ 9223372036854775807) : wrap64 x = x := by
  unfold wrap64
  omega
theorem wf64 {x : Int} (h : (Lit.int .i64 x).wf = true) : -9223372036854775808 ≤ x ∧ x ≤ 9223372036854775807 := by
  simp [Lit.wf, IntKind.min, IntKind.max, IntKind.bits, IntKind.signed] at h
  omega
theorem andNot1 {a : Int} (h : (Lit.int .i64 a).wf = true) : Go.bits .andNot .i64 a 1 = 0 ↔ a = 0 ∨ a = 1 := by
  have hw := wf64 h
  have e1 : Go.bits .andNot .i64 a 1 = IntKind.i64.wrap (((BitVec.ofInt 64 a &&& ~~~BitVec.ofInt 64 1).toNat : Nat) : Int) := rfl
  have e2 : (BitVec.ofInt 64 a &&& ~~~BitVec.ofInt 64 1).toNat = (BitVec.ofInt 64 a).toNat &&& 18446744073709551614 := by
    rw [BitVec.toNat_and]
    rfl
  have e3 : ((BitVec.ofInt 64 a).toNat : Int) = a % 18446744073709551616 := by
    rw [BitVec.toNat_ofInt]
    omega
  rw [e1, e2, nat_hi64_1, IntKind.wrap_i64]
  omega
theorem xor1_0 : Go.bits .xor .i64 0 1 = 1 := by decide
theorem xor1_1 : Go.bits .xor .i64 1 1 = 0 := by decide
theorem succ_mid {α : Type} (pre : List α) (x : α) (h : pre.length ≤ 9223372036854775806) : wrap64 ((pre.length : Int) + 1) = ((pre ++ [x]).length : Int) := by
  rw [w64 (by omega) (by omega)]
  simp
theorem wrap01 : wrap64 (0 + 1) = 1 := by
  unfold wrap64
  rfl
theorem mid_snoc {α : Type} (pre post : List α) (x : α) : pre ++ x :: post = (pre ++ [x]) ++ post := by simp
def sm : List S48 → Int
  | [] => 0
  | x :: l => x.f1 + sm l
def vldF (left : Int) : List S48 → Bool
  | [] => true
  | x :: l => if (x.f0 = 0 ∨ x.f0 = 1) ∧ 1 ≤ x.f1 ∧ x.f1 ≤ left then vldF (left - x.f1) l else false
def vld (l : List S48) : Bool := if l.length ≤ 262144 then vldF 1099511627776 l else false
def RunWf (x : S48) : Prop := (Lit.int .i64 x.f0).wf = true ∧ (Lit.int .i64 x.f1).wf = true
def RunsWf (l : List S48) : Prop := ∀ x ∈ l, RunWf x
def RunsOk (l : List S48) : Prop := ∀ x ∈ l, (x.f0 = 0 ∨ x.f0 = 1) ∧ 1 ≤ x.f1
theorem rd_mid (pre post : List S48) (x : S48) : rd_T48 (pre ++ x :: post) (pre.length : Int) = x := by simp [rd_T48, List.getD]
theorem mid_lt (pre post : List S48) (x : S48) : (pre.length : Int) < ((pre ++ x :: post).length : Int) := by
  simp only [List.length_append, List.length_cons]
  omega
theorem sm_nonneg : ∀ {l : List S48}, RunsOk l → 0 ≤ sm l
  | [], _ => Int.le_refl _
  | x :: l, h => by
    have h1 := h x (by simp)
    have h2 := sm_nonneg (l := l) (fun y hy => h y (by simp [hy]))
    simp only [sm]
    omega
theorem sm_append : ∀ (a b : List S48), sm (a ++ b) = sm a + sm b
  | [], b => by simp [sm]
  | x :: a, b => by
    have := sm_append a b
    simp only [List.cons_append, sm]
    omega
theorem vldF_iff : ∀ {l : List S48} {left : Int}, 0 ≤ left → (vldF left l = true ↔ RunsOk l ∧ sm l ≤ left)
  | [], left, h => by simp [vldF, RunsOk, sm, h]
  | x :: l, left, h => by
    unfold vldF
    by_cases c : (x.f0 = 0 ∨ x.f0 = 1) ∧ 1 ≤ x.f1 ∧ x.f1 ≤ left
    · rw [if_pos c, vldF_iff (l := l) (by omega)]
      simp only [RunsOk, sm, List.mem_cons, forall_eq_or_imp]
      constructor
      · rintro ⟨h1, h2⟩
        exact ⟨⟨⟨c.1, c.2.1⟩, h1⟩, by omega⟩
      · rintro ⟨⟨h1, h2⟩, h3⟩
        exact ⟨h2, by omega⟩
    · rw [if_neg c]
      simp only [Bool.false_eq_true, false_iff]
      rintro ⟨h1, h2⟩
      have h3 := h1 x (by simp)
      have h4 := sm_nonneg (l := l) (fun y hy => h1 y (by simp [hy]))
      simp only [sm] at h2
      exact c ⟨h3.1, h3.2, by omega⟩
theorem vld_iff {l : List S48} : vld l = true ↔ l.length ≤ 262144 ∧ RunsOk l ∧ sm l ≤ 1099511627776 := by
  unfold vld
  by_cases c : l.length ≤ 262144
  · rw [if_pos c, vldF_iff (by omega)]
    simp [c]
  · rw [if_neg c]
    simp [c]
theorem RunsOk.cons {x : S48} {l : List S48} (h : RunsOk (x :: l)) : ((x.f0 = 0 ∨ x.f0 = 1) ∧ 1 ≤ x.f1) ∧ RunsOk l := ⟨h x (by simp), fun y hy => h y (by simp [hy])⟩
theorem RunsOk.append {a b : List S48} (h : RunsOk a) (h' : RunsOk b) : RunsOk (a ++ b) := fun x hx => by
  rcases List.mem_append.1 hx with hx | hx
  · exact h x hx
  · exact h' x hx
theorem RunsOk.left {a b : List S48} (h : RunsOk (a ++ b)) : RunsOk a := fun x hx => h x (List.mem_append_left _ hx)
theorem wave_Valid_l0 : ∀ (post pre : List S48) (left : Int), 0 ≤ left → left ≤ 1099511627776 → RunsWf post → (pre ++ post).length ≤ 140737488351232 →
    Ev (fun k => wave_Valid.l0 k left (pre ++ post) ((pre ++ post).length : Int) (pre.length : Int)) (vldF left post)
  | [], pre, left, h0, h1, hw, hl => by
    refine Ev.step (f := fun _ => some true) (fun k => ?_) (Ev.now _)
    simp only [wave_Valid.l0]
    rw [if_neg (by simp)]
  | x :: post, pre, left, h0, h1, hw, hl => by
    have hx := hw x (by simp)
    have hlt := mid_lt pre post x
    have hn : pre.length ≤ 9223372036854775806 := by
      simp only [List.length_append, List.length_cons] at hl
      omega
    by_cases c : (x.f0 = 0 ∨ x.f0 = 1) ∧ 1 ≤ x.f1 ∧ x.f1 ≤ left
    · have ih := wave_Valid_l0 post (pre ++ [x]) (left - x.f1) (by omega) (by omega) (fun y hy => hw y (by simp [hy])) (by simpa using hl)
      rw [← mid_snoc] at ih
      rw [vldF, if_pos c]
      refine Ev.step (fun k => ?_) ih
      simp only [wave_Valid.l0]
      rw [rd_mid, if_pos hlt, if_pos (by omega), if_pos hlt, if_pos ((andNot1 hx.1).2 c.1), if_neg (by omega), if_neg (by omega), w64 (by omega) (by omega), succ_mid _ _ hn]
    · rw [vldF, if_neg c]
      refine Ev.step (f := fun _ => some false) (fun k => ?_) (Ev.now _)
      simp only [wave_Valid.l0]
      rw [rd_mid, if_pos hlt, if_pos (by omega), if_pos hlt]
      by_cases c1 : x.f0 = 0 ∨ x.f0 = 1
      · rw [if_pos ((andNot1 hx.1).2 c1)]
        by_cases c2 : x.f1 < 1
        · rw [if_pos c2]
        · rw [if_neg c2, if_pos (by
            have : ¬ (1 ≤ x.f1 ∧ x.f1 ≤ left) := fun h => c ⟨c1, h⟩
            omega)]
      · rw [if_neg (fun h => c1 ((andNot1 hx.1).1 h))]
theorem wave_Valid_ev {l : List S48} (hw : RunsWf l) (hl : l.length ≤ 140737488351232) : Ev (fun k => wave_Valid.f k l) (vld l) := by
  unfold vld
  by_cases c : l.length ≤ 262144
  · rw [if_pos c]
    refine Ev.congr (fun k => ?_) (wave_Valid_l0 l [] 1099511627776 (by omega) (by omega) hw (by simpa using hl))
    unfold wave_Valid.f
    rw [if_neg (by omega)]
    rfl
  · rw [if_neg c]
    refine Ev.congr (fun k => ?_) (Ev.now _)
    unfold wave_Valid.f
    rw [if_pos (by omega)]
theorem ref_Valid_l0 : ∀ (post pre : List S48) (s : Int), 0 ≤ s → s ≤ 1099511627776 → RunsWf post → (pre ++ post).length ≤ 140737488351232 →
    Ev (fun k => signalbenchref08_Valid.l0 k (pre ++ post) s (pre.length : Int)) (vldF (1099511627776 - s) post)
  | [], pre, s, h0, h1, hw, hl => by
    refine Ev.step (f := fun _ => some true) (fun k => ?_) (Ev.now _)
    simp only [signalbenchref08_Valid.l0]
    rw [if_neg (by simp)]
  | x :: post, pre, s, h0, h1, hw, hl => by
    have hx := hw x (by simp)
    have hx1 := wf64 hx.2
    have hlt := mid_lt pre post x
    have hn : pre.length ≤ 9223372036854775806 := by
      simp only [List.length_append, List.length_cons] at hl
      omega
    by_cases c1 : x.f0 = 0 ∨ x.f0 = 1
    · have e0 : ∀ k, signalbenchref08_Valid.l0 (k + 1) (pre ++ x :: post) s (pre.length : Int) = signalbenchref08_Valid.j1 k (pre ++ x :: post) s (pre.length : Int) false := by
        intro k
        simp only [signalbenchref08_Valid.l0]
        rw [rd_mid, if_pos hlt, if_pos (by omega)]
        rcases c1 with c1 | c1
        · rw [if_pos c1]
        · rw [if_neg (by omega), c1]
          rfl
      refine Ev.step e0 ?_
      by_cases c : 1 ≤ x.f1 ∧ x.f1 ≤ 1099511627776 - s
      · have ih := ref_Valid_l0 post (pre ++ [x]) (s + x.f1) (by omega) (by omega) (fun y hy => hw y (by simp [hy])) (by simpa using hl)
        rw [← mid_snoc] at ih
        rw [vldF, if_pos ⟨c1, c⟩]
        have e1 : 1099511627776 - (s + x.f1) = 1099511627776 - s - x.f1 := by omega
        rw [e1] at ih
        refine Ev.step (fun k => ?_) ih
        simp only [signalbenchref08_Valid.j1]
        rw [rd_mid, if_neg (by simp), if_pos (by omega), if_pos hlt, if_neg (by omega), if_neg (by rw [w64 (by omega) (by omega)]; omega), w64 (by omega) (by omega), succ_mid _ _ hn]
      · rw [vldF, if_neg (fun h => c h.2)]
        refine Ev.step (f := fun _ => some false) (fun k => ?_) (Ev.now _)
        simp only [signalbenchref08_Valid.j1]
        rw [rd_mid, if_neg (by simp), if_pos (by omega), if_pos hlt]
        by_cases c2 : x.f1 < 1
        · rw [if_pos c2]
        · rw [if_neg c2, if_pos (by rw [w64 (by omega) (by omega)]; omega)]
    · rw [vldF, if_neg (fun h => c1 h.1)]
      refine Ev.step (f := fun k => signalbenchref08_Valid.j1 k (pre ++ x :: post) s (pre.length : Int) true) (fun k => ?_) (Ev.step (f := fun _ => some false) (fun k => ?_) (Ev.now _))
      · simp only [signalbenchref08_Valid.l0]
        rw [rd_mid, if_pos hlt, if_pos (by omega), if_neg (by omega)]
        congr 1
        simp
        omega
      · simp only [signalbenchref08_Valid.j1]
        rw [if_pos trivial]
theorem ref_Valid_ev {l : List S48} (hw : RunsWf l) (hl : l.length ≤ 140737488351232) : Ev (fun k => signalbenchref08_Valid.f k l) (vld l) := by
  unfold vld
  by_cases c : l.length ≤ 262144
  · rw [if_pos c]
    have h := ref_Valid_l0 l [] 0 (by omega) (by omega) hw (by simpa using hl)
    refine Ev.congr (fun k => ?_) h
    unfold signalbenchref08_Valid.f
    rw [if_neg (by omega)]
    rfl
  · rw [if_neg c]
    refine Ev.congr (fun k => ?_) (Ev.now _)
    unfold signalbenchref08_Valid.f
    rw [if_pos (by omega)]
def atS : List S48 → Int → Int × Bool
  | [], _ => (-1, false)
  | x :: l, t => if t < x.f1 then (x.f0, true) else atS l (t - x.f1)
def longV (l : List S48) : Int := if vld l = true then sm l else 0
theorem wave_sum_l0 : ∀ (post pre : List S48) (s : Int), 0 ≤ s → s + sm post ≤ 4611686018427387904 → RunsOk post → (pre ++ post).length ≤ 140737488351232 →
    Ev (fun k => wave_sum.l0 k s (pre ++ post) ((pre ++ post).length : Int) (pre.length : Int)) (s + sm post)
  | [], pre, s, h0, h1, hw, hl => by
    refine Ev.step (f := fun _ => some s) (fun k => ?_) ?_
    · simp only [wave_sum.l0]
      rw [if_neg (by simp)]
    · simp only [sm, Int.add_zero]
      exact Ev.now _
  | x :: post, pre, s, h0, h1, hw, hl => by
    have hx := hw.cons
    have hs := sm_nonneg hx.2
    simp only [sm] at h1
    have hlt := mid_lt pre post x
    have hn : pre.length ≤ 9223372036854775806 := by
      simp only [List.length_append, List.length_cons] at hl
      omega
    have ih := wave_sum_l0 post (pre ++ [x]) (s + x.f1) (by omega) (by omega) hx.2 (by simpa using hl)
    rw [← mid_snoc] at ih
    have e1 : s + sm (x :: post) = s + x.f1 + sm post := by
      simp only [sm]
      omega
    rw [e1]
    refine Ev.step (fun k => ?_) ih
    simp only [wave_sum.l0]
    rw [rd_mid, if_pos hlt, if_pos (by omega), if_pos hlt, w64 (x := s + x.f1) (by omega) (by omega), succ_mid _ _ hn]
theorem wave_sum_ev {l : List S48} (hw : RunsOk l) (hs : sm l ≤ 4611686018427387904) (hl : l.length ≤ 140737488351232) : Ev (fun k => wave_sum.f k l) (sm l) := by
  have h := wave_sum_l0 l [] 0 (by omega) (by omega) hw (by simpa using hl)
  rw [Int.zero_add] at h
  exact Ev.congr (fun k => rfl) h
theorem wave_Long_ev {l : List S48} (hw : RunsWf l) (hl : l.length ≤ 140737488351232) : Ev (fun k => wave_Long.f k l) (longV l) := by
  unfold longV
  refine Ev.bind (wave_Valid_ev hw hl) ?_
  by_cases v : vld l = true
  · simp only [if_pos v]
    have hv := vld_iff.1 v
    exact Ev.bind (wave_sum_ev hv.2.1 (by omega) hl) (Ev.now _)
  · simp only [if_neg v]
    exact Ev.now _
def jnc (x : S48) : List S48 → List S48
  | [] => [x]
  | y :: l => if x.f0 = y.f0 then jnc ⟨x.f0, x.f1 + y.f1⟩ l else x :: jnc y l
def jn : List S48 → List S48
  | [] => []
  | x :: l => jnc x l
theorem last_at (o : List S48) (x : S48) (h : o.length ≤ 9223372036854775806) : wrap64 (((o ++ [x]).length : Int) - 1) = (o.length : Int) := by
  rw [w64 (by simp only [List.length_append, List.length_cons, List.length_nil]; omega) (by simp only [List.length_append, List.length_cons, List.length_nil]; omega)]
  simp
theorem rd_last (o : List S48) (x : S48) : rd_T48 (o ++ [x]) (o.length : Int) = x := rd_mid o [] x
theorem set_last (o : List S48) (x y : S48) : (o ++ [x]).set ((o.length : Int)).toNat y = o ++ [y] := by
  rw [Int.toNat_natCast, List.set_append_right _ _ (Nat.le_refl _), Nat.sub_self]
  rfl
theorem snoc_pos (o : List S48) (x : S48) : ((o ++ [x]).length : Int) > 0 := by
  simp only [List.length_append, List.length_cons, List.length_nil]
  omega
theorem last_lt (o : List S48) (x : S48) : (o.length : Int) < ((o ++ [x]).length : Int) := mid_lt o [] x
theorem wave_joined_l0 : ∀ (post pre o : List S48) (x : S48), 0 ≤ x.f1 → x.f1 + sm post ≤ 4611686018427387904 → RunsOk post → (pre ++ post).length ≤ 140737488351232 → o.length + post.length ≤ 4398046511104 →
    Ev (fun k => wave_joined.l0 k (o ++ [x]) (pre ++ post) ((pre ++ post).length : Int) (pre.length : Int)) (o ++ jnc x post)
  | [], pre, o, x, h0, h1, hw, hl, ho => by
    refine Ev.step (f := fun _ => some (o ++ [x])) (fun k => ?_) (Ev.now _)
    simp only [wave_joined.l0]
    rw [if_neg (by simp)]
  | y :: post, pre, o, x, h0, h1, hw, hl, ho => by
    have hy := hw.cons
    have hs := sm_nonneg hy.2
    simp only [sm] at h1
    simp only [List.length_cons] at ho
    have hlt := mid_lt pre post y
    have hn : pre.length ≤ 9223372036854775806 := by
      simp only [List.length_append, List.length_cons] at hl
      omega
    by_cases c : x.f0 = y.f0
    · have ih := wave_joined_l0 post (pre ++ [y]) o ⟨x.f0, x.f1 + y.f1⟩ (by simp only; omega) (by simp only; omega) hy.2 (by simpa using hl) (by omega)
      rw [← mid_snoc pre post y] at ih
      rw [jnc, if_pos c]
      refine Ev.step (fun k => ?_) ih
      simp only [wave_joined.l0]
      rw [rd_mid, if_pos hlt, if_pos (by omega), if_pos hlt, if_pos (snoc_pos o x), last_at o x (by omega), if_pos (by omega), if_pos (last_lt o x), rd_last, if_pos c, set_last, w64 (x := x.f1 + y.f1) (by omega) (by omega), succ_mid pre y hn]
    · have ih := wave_joined_l0 post (pre ++ [y]) (o ++ [x]) y (by omega) (by omega) hy.2 (by simpa using hl) (by simp only [List.length_append, List.length_cons, List.length_nil]; omega)
      rw [← mid_snoc pre post y] at ih
      rw [jnc, if_neg c, show o ++ x :: jnc y post = (o ++ [x]) ++ jnc y post by simp]
      refine Ev.step (fun k => ?_) ih
      simp only [wave_joined.l0]
      rw [rd_mid, if_pos hlt, if_pos (by omega), if_pos hlt, if_pos (snoc_pos o x), last_at o x (by omega), if_pos (by omega), if_pos (last_lt o x), rd_last, if_neg c, if_pos (by simp only [List.length_append, List.length_cons, List.length_nil]; omega), succ_mid pre y hn]
theorem wave_joined_ev {l : List S48} (hw : RunsOk l) (hs : sm l ≤ 4611686018427387904) (hl : l.length ≤ 4398046511104) : Ev (fun k => wave_joined.f k l) (jn l) := by
  refine Ev.congr (f := fun k => wave_joined.l0 k [] l (l.length : Int) 0) (fun k => rfl) ?_
  cases l with
  | nil =>
    refine Ev.step (f := fun _ => some []) (fun k => ?_) (Ev.now _)
    simp only [wave_joined.l0]
    rw [if_neg (by simp)]
  | cons x l =>
    have hx := hw.cons
    simp only [sm] at hs
    simp only [List.length_cons] at hl
    have h := wave_joined_l0 l [x] [] x (by omega) (by omega) hx.2 (by simp; omega) (by simp; omega)
    refine Ev.step (fun k => ?_) h
    simp only [wave_joined.l0]
    have e := rd_mid [] l x
    simp only [List.nil_append, List.length_nil] at e
    have e' : rd_T48 (x :: l) 0 = x := e
    rw [e', if_pos (by simp only [List.length_cons]; omega), if_pos (by omega), if_pos (by simp only [List.length_cons]; omega), if_neg (by simp), if_pos (by simp), wrap01]
    rfl
/-- The clean wave. -/
def cleanV (l : List S48) : List S48 := if vld l = true then jn l else []
theorem wave_Clean_ev {l : List S48} (hw : RunsWf l) (hl : l.length ≤ 140737488351232) : Ev (fun k => wave_Clean.f k l) (cleanV l) := by
  unfold cleanV
  refine Ev.bind (wave_Valid_ev hw hl) ?_
  by_cases v : vld l = true
  · simp only [if_pos v]
    have hv := vld_iff.1 v
    exact Ev.bind (wave_joined_ev hv.2.1 (by omega) (by omega)) (Ev.now _)
  · simp only [if_neg v]
    exact Ev.now _
theorem ref_joined_l0 : ∀ (post pre o : List S48) (x : S48), 0 ≤ x.f1 → x.f1 + sm post ≤ 4611686018427387904 → RunsOk post → (pre ++ post).length ≤ 140737488351232 → o.length + post.length ≤ 4398046511104 →
    Ev (fun k => signalbenchref08_joined.l0 k (pre ++ post) (o ++ [x]) (pre.length : Int)) (o ++ jnc x post)
  | [], pre, o, x, h0, h1, hw, hl, ho => by
    refine Ev.step (f := fun _ => some (o ++ [x])) (fun k => ?_) (Ev.now _)
    simp only [signalbenchref08_joined.l0]
    rw [if_neg (by simp)]
  | y :: post, pre, o, x, h0, h1, hw, hl, ho => by
    have hy := hw.cons
    have hs := sm_nonneg hy.2
    simp only [sm] at h1
    simp only [List.length_cons] at ho
    have hlt := mid_lt pre post y
    have hn : pre.length ≤ 9223372036854775806 := by
      simp only [List.length_append, List.length_cons] at hl
      omega
    by_cases c : x.f0 = y.f0
    · have ih := ref_joined_l0 post (pre ++ [y]) o ⟨x.f0, x.f1 + y.f1⟩ (by simp only; omega) (by simp only; omega) hy.2 (by simpa using hl) (by omega)
      rw [← mid_snoc pre post y] at ih
      rw [jnc, if_pos c]
      refine Ev.step (fun k => ?_) ih
      simp only [signalbenchref08_joined.l0]
      rw [rd_mid, if_pos hlt, if_pos (snoc_pos o x), last_at o x (by omega), if_pos (by omega), if_pos (last_lt o x), if_pos (by omega), rd_last, if_pos c, set_last, w64 (x := x.f1 + y.f1) (by omega) (by omega), succ_mid pre y hn]
    · have ih := ref_joined_l0 post (pre ++ [y]) (o ++ [x]) y (by omega) (by omega) hy.2 (by simpa using hl) (by simp only [List.length_append, List.length_cons, List.length_nil]; omega)
      rw [← mid_snoc pre post y] at ih
      rw [jnc, if_neg c, show o ++ x :: jnc y post = (o ++ [x]) ++ jnc y post by simp]
      refine Ev.step (fun k => ?_) ih
      simp only [signalbenchref08_joined.l0]
      rw [rd_mid, if_pos hlt, if_pos (snoc_pos o x), last_at o x (by omega), if_pos (by omega), if_pos (last_lt o x), if_pos (by omega), rd_last, if_neg c, if_pos (by simp only [List.length_append, List.length_cons, List.length_nil]; omega), succ_mid pre y hn]
theorem ref_joined_ev {l : List S48} (hw : RunsOk l) (hs : sm l ≤ 4611686018427387904) (hl : l.length ≤ 4398046511104) : Ev (fun k => signalbenchref08_joined.f k l) (jn l) := by
  have hf : ∀ k, signalbenchref08_joined.f k l = signalbenchref08_joined.l0 k l [] 0 := fun k => by
    unfold signalbenchref08_joined.f
    rw [if_pos (by omega), if_pos (by omega)]
    rfl
  refine Ev.congr hf ?_
  cases l with
  | nil =>
    refine Ev.step (f := fun _ => some []) (fun k => ?_) (Ev.now _)
    simp only [signalbenchref08_joined.l0]
    rw [if_neg (by simp)]
  | cons x l =>
    have hx := hw.cons
    simp only [sm] at hs
    simp only [List.length_cons] at hl
    have h := ref_joined_l0 l [x] [] x (by omega) (by omega) hx.2 (by simp; omega) (by simp; omega)
    refine Ev.step (fun k => ?_) h
    simp only [signalbenchref08_joined.l0]
    have e := rd_mid [] l x
    simp only [List.nil_append, List.length_nil] at e
    have e' : rd_T48 (x :: l) 0 = x := e
    rw [e', if_pos (by simp only [List.length_cons]; omega), if_neg (by simp), if_pos (by omega), if_pos (by simp), wrap01]
    rfl
theorem ref_Clean_ev {l : List S48} (hw : RunsWf l) (hl : l.length ≤ 140737488351232) : Ev (fun k => signalbenchref08_Clean.f k l) (cleanV l) := by
  unfold cleanV
  refine Ev.bind (ref_Valid_ev hw hl) ?_
  by_cases v : vld l = true
  · simp only [if_pos v]
    have hv := vld_iff.1 v
    exact Ev.bind (ref_joined_ev hv.2.1 (by omega) (by omega)) (Ev.now _)
  · simp only [if_neg v]
    exact Ev.now _
theorem jnc_sm : ∀ (l : List S48) (x : S48), sm (jnc x l) = x.f1 + sm l
  | [], x => rfl
  | y :: l, x => by
    unfold jnc
    split
    · rw [jnc_sm l]
      simp only [sm]
      omega
    · simp only [sm]
      rw [jnc_sm l y]
theorem jn_sm (l : List S48) : sm (jn l) = sm l := by
  cases l with
  | nil => rfl
  | cons x l => exact jnc_sm l x
theorem jnc_len : ∀ (l : List S48) (x : S48), (jnc x l).length ≤ l.length + 1
  | [], x => Nat.le_refl _
  | y :: l, x => by
    unfold jnc
    split
    · have := jnc_len l ⟨x.f0, x.f1 + y.f1⟩
      simp only [List.length_cons]
      omega
    · have := jnc_len l y
      simp only [List.length_cons]
      omega
theorem jn_len (l : List S48) : (jn l).length ≤ l.length := by
  cases l with
  | nil => exact Nat.le_refl _
  | cons x l => exact jnc_len l x
theorem jnc_ok : ∀ (l : List S48) (x : S48), RunsOk (x :: l) → RunsOk (jnc x l)
  | [], x, h => h
  | y :: l, x, h => by
    have hx := h.cons
    have hy := hx.2.cons
    unfold jnc
    split
    · refine jnc_ok l _ (fun z hz => ?_)
      rcases List.mem_cons.1 hz with rfl | hz
      · exact ⟨hx.1.1, by simp only; omega⟩
      · exact hy.2 z hz
    · intro z hz
      rcases List.mem_cons.1 hz with rfl | hz
      · exact hx.1
      · exact jnc_ok l y hx.2 z hz
theorem jn_ok {l : List S48} (h : RunsOk l) : RunsOk (jn l) := by
  cases l with
  | nil => exact h
  | cons x l => exact jnc_ok l x h
/-- No two runs of one level side by side: behind a run of level p. -/
def apartF : Int → List S48 → Prop
  | _, [] => True
  | p, x :: l => p ≠ x.f0 ∧ apartF x.f0 l
def apart : List S48 → Prop
  | [] => True
  | x :: l => apartF x.f0 l
theorem jnc_head : ∀ (l : List S48) (x : S48), ∃ t m, jnc x l = ⟨x.f0, t⟩ :: m
  | [], x => ⟨x.f1, [], rfl⟩
  | y :: l, x => by
    unfold jnc
    split
    · exact jnc_head l ⟨x.f0, x.f1 + y.f1⟩
    · exact ⟨x.f1, _, rfl⟩
theorem jnc_apart : ∀ (l : List S48) (x : S48), apart (jnc x l)
  | [], x => trivial
  | y :: l, x => by
    unfold jnc
    split
    · exact jnc_apart l _
    · rename_i c
      obtain ⟨t, m, e⟩ := jnc_head l y
      have h := jnc_apart l y
      rw [e] at h ⊢
      exact ⟨c, h⟩
theorem jn_apart (l : List S48) : apart (jn l) := by
  cases l with
  | nil => trivial
  | cons x l => exact jnc_apart l x
theorem jnc_of_apart : ∀ (l : List S48) (x : S48), apartF x.f0 l → jnc x l = x :: l
  | [], x, _ => rfl
  | y :: l, x, h => by
    unfold jnc
    rw [if_neg h.1, jnc_of_apart l y h.2]
theorem jn_of_apart {l : List S48} (h : apart l) : jn l = l := by
  cases l with
  | nil => rfl
  | cons x l => exact jnc_of_apart l x h
theorem jnc_at : ∀ (l : List S48) (x : S48) (t : Int), 0 ≤ x.f1 → RunsOk l → atS (jnc x l) t = atS (x :: l) t
  | [], x, t, _, _ => rfl
  | y :: l, x, t, h0, h => by
    have hy := h.cons
    unfold jnc
    split
    · rename_i c
      rw [jnc_at l _ t (by simp only; omega) hy.2]
      simp only [atS]
      by_cases c1 : t < x.f1
      · rw [if_pos c1, if_pos (by omega)]
      · rw [if_neg c1]
        by_cases c2 : t - x.f1 < y.f1
        · rw [if_pos c2, if_pos (by omega), c]
        · rw [if_neg c2, if_neg (by omega)]
          congr 1
          omega
    · simp only [atS]
      rw [jnc_at l y _ (by omega) hy.2]
      simp only [atS]
theorem jn_at {l : List S48} (h : RunsOk l) (t : Int) : atS (jn l) t = atS l t := by
  cases l with
  | nil => rfl
  | cons x l => exact jnc_at l x t (by have := h.cons; omega) h.cons.2
/-- Behind a run of level p, at the tick at. -/
def edF (p at_ : Int) : List S48 → List Int
  | [] => []
  | x :: l => if p = x.f0 then edF x.f0 (at_ + x.f1) l else at_ :: edF x.f0 (at_ + x.f1) l
def eds : List S48 → List Int
  | [] => []
  | x :: l => edF x.f0 x.f1 l
def edsV (l : List S48) : List Int := if vld l = true then eds l else []
theorem rd_prev (q post : List S48) (w : S48) : rd_T48 ((q ++ [w]) ++ post) (q.length : Int) = w := by
  rw [← mid_snoc]
  exact rd_mid q post w
theorem prev_lt (q post : List S48) (w : S48) : (q.length : Int) < (((q ++ [w]) ++ post).length : Int) := by
  rw [← mid_snoc]
  exact mid_lt q post w
theorem wave_Edges_l0 : ∀ (post q : List S48) (w : S48) (out : List Int) (at_ : Int), 0 ≤ at_ → at_ + sm post ≤ 4611686018427387904 → RunsOk post → ((q ++ [w]) ++ post).length ≤ 140737488351232 → out.length + post.length ≤ 4398046511104 →
    Ev (fun k => wave_Edges.l0 k ((q ++ [w]) ++ post) out at_ ((q ++ [w]) ++ post) (((q ++ [w]) ++ post).length : Int) ((q ++ [w]).length : Int)) (out ++ edF w.f0 at_ post)
  | [], q, w, out, at_, h0, h1, hw, hl, ho => by
    refine Ev.step (f := fun _ => some out) (fun k => ?_) (by rw [edF, List.append_nil]; exact Ev.now _)
    simp only [wave_Edges.l0]
    rw [if_neg (by simp)]
  | x :: post, q, w, out, at_, h0, h1, hw, hl, ho => by
    have hx := hw.cons
    have hs := sm_nonneg hx.2
    simp only [sm] at h1
    simp only [List.length_cons] at ho
    have hlt := mid_lt (q ++ [w]) post x
    have hn : (q ++ [w]).length ≤ 9223372036854775806 := by
      simp only [List.length_append, List.length_cons] at hl ⊢
      omega
    have hq : q.length ≤ 9223372036854775806 := by
      simp only [List.length_append, List.length_cons] at hn
      omega
    have hr := rd_prev q (x :: post) w
    have hp := prev_lt q (x :: post) w
    by_cases c : w.f0 = x.f0
    · have ih := wave_Edges_l0 post (q ++ [w]) x out (at_ + x.f1) (by omega) (by omega) hx.2 (by simpa using hl) (by omega)
      rw [← mid_snoc (q ++ [w]) post x] at ih
      rw [edF, if_pos c]
      refine Ev.step (fun k => ?_) ih
      simp only [wave_Edges.l0]
      rw [rd_mid, if_pos hlt, if_pos (by omega), if_pos hlt, if_pos (snoc_pos q w), last_at q w hq, if_pos (by omega), if_pos hp, hr, if_pos c, w64 (x := at_ + x.f1) (by omega) (by omega), succ_mid (q ++ [w]) x hn]
    · have ih := wave_Edges_l0 post (q ++ [w]) x (out ++ [at_]) (at_ + x.f1) (by omega) (by omega) hx.2 (by simpa using hl) (by simp only [List.length_append, List.length_cons, List.length_nil]; omega)
      rw [← mid_snoc (q ++ [w]) post x] at ih
      rw [edF, if_neg c, mid_snoc out (edF x.f0 (at_ + x.f1) post) at_]
      refine Ev.step (fun k => ?_) ih
      simp only [wave_Edges.l0]
      rw [rd_mid, if_pos hlt, if_pos (by omega), if_pos hlt, if_pos (snoc_pos q w), last_at q w hq, if_pos (by omega), if_pos hp, hr, if_neg c, if_pos (by omega), w64 (x := at_ + x.f1) (by omega) (by omega), succ_mid (q ++ [w]) x hn]
theorem rd_zero (x : S48) (l : List S48) : rd_T48 (x :: l) 0 = x := by
  have e := rd_mid [] l x
  simp only [List.nil_append, List.length_nil] at e
  exact e
theorem wave_Edges_ev {l : List S48} (hw : RunsWf l) (hl : l.length ≤ 140737488351232) : Ev (fun k => wave_Edges.f k l) (edsV l) := by
  unfold edsV
  refine Ev.bind (wave_Valid_ev hw hl) ?_
  by_cases v : vld l = true
  · simp only [if_pos v]
    have hv := vld_iff.1 v
    cases l with
    | nil =>
      refine Ev.step (f := fun _ => some []) (fun k => ?_) (Ev.now _)
      simp only [wave_Edges.l0]
      rw [if_neg (by simp)]
    | cons x l =>
      have hx := hv.2.1.cons
      have hs := hv.2.2
      have hc := hv.1
      have hs0 := sm_nonneg hx.2
      simp only [sm] at hs
      simp only [List.length_cons] at hc
      have h := wave_Edges_l0 l [] x [] x.f1 (by omega) (by omega) hx.2 (by simpa using hl) (by simp only [List.length_nil]; omega)
      refine Ev.step (fun k => ?_) h
      simp only [wave_Edges.l0]
      rw [rd_zero, if_pos (by simp only [List.length_cons]; omega), if_pos (by omega), if_pos (by simp only [List.length_cons]; omega), if_neg (by omega), w64 (x := 0 + x.f1) (by omega) (by omega), Int.zero_add, wrap01]
      rfl
  · simp only [if_neg v]
    exact Ev.now _
/-- Where the runs begin, from the tick at on. -/
def bgF (at_ : Int) : List S48 → List Int
  | [] => []
  | x :: l => at_ :: bgF (at_ + x.f1) l
def bgs : List S48 → List Int
  | [] => []
  | x :: l => bgF x.f1 l
theorem bgs_jnc : ∀ (l : List S48) (x : S48) (at_ : Int), (match jnc x l with | [] => [] | y :: m => bgF (at_ + y.f1) m) = edF x.f0 (at_ + x.f1) l
  | [], x, at_ => rfl
  | y :: l, x, at_ => by
    unfold jnc edF
    by_cases c : x.f0 = y.f0
    · rw [if_pos c, if_pos c, bgs_jnc l ⟨x.f0, x.f1 + y.f1⟩ at_]
      simp only
      rw [Int.add_assoc, c]
    · rw [if_neg c, if_neg c]
      have h := bgs_jnc l y (at_ + x.f1)
      obtain ⟨t, m, e⟩ := jnc_head l y
      rw [e] at h ⊢
      simp only at h ⊢
      rw [bgF, h]
theorem bgs_jn (l : List S48) : bgs (jn l) = eds l := by
  cases l with
  | nil => rfl
  | cons x l =>
    have h := bgs_jnc l x 0
    simp only [Int.zero_add] at h
    exact h
theorem rdi_mid (pre post : List Int) (x : Int) : rd (pre ++ x :: post) (pre.length : Int) = x := by simp [rd, List.getD]
theorem midi_lt (pre post : List Int) (x : Int) : (pre.length : Int) < ((pre ++ x :: post).length : Int) := by
  simp only [List.length_append, List.length_cons]
  omega
theorem xor1 {a : Int} (h : a = 0 ∨ a = 1) : Go.bits .xor .i64 a 1 = 1 - a := by
  rcases h with rfl | rfl
  · exact xor1_0
  · exact xor1_1
def slF (a b at_ : Int) : List S48 → List S48
  | [] => []
  | x :: l => if mx at_ a < mn (at_ + x.f1) b then ⟨x.f0, mn (at_ + x.f1) b - mx at_ a⟩ :: slF a b (at_ + x.f1) l else slF a b (at_ + x.f1) l
def sliceV (l : List S48) (a b : Int) : List S48 := if vld l = true then slF a b 0 l else []
theorem wave_Slice_l0 : ∀ (post pre : List S48) (a b at_ : Int) (out : List S48), b ≤ 9223372036854775807 → 0 ≤ at_ → at_ + sm post ≤ 1099511627776 → RunsOk post → (pre ++ post).length ≤ 262144 → out.length + post.length ≤ 262144 →
    Ev (fun k => wave_Slice.l0 k a b out at_ (pre ++ post) ((pre ++ post).length : Int) (pre.length : Int)) (out ++ slF a b at_ post)
  | [], pre, a, b, at_, out, hb, h0, h1, hw, hl, ho => by
    refine Ev.step (f := fun _ => some out) (fun k => ?_) (by rw [slF, List.append_nil]; exact Ev.now _)
    simp only [wave_Slice.l0]
    rw [if_neg (by simp)]
  | x :: post, pre, a, b, at_, out, hb, h0, h1, hw, hl, ho => by
    have hx := hw.cons
    have hs := sm_nonneg hx.2
    simp only [sm] at h1
    simp only [List.length_cons] at ho
    have hlt := mid_lt pre post x
    have hn : pre.length ≤ 9223372036854775806 := by
      simp only [List.length_append, List.length_cons] at hl
      omega
    have e1 := w64 (x := at_ + x.f1) (by omega) (by omega)
    by_cases c : mx at_ a < mn (at_ + x.f1) b
    · have ih := wave_Slice_l0 post (pre ++ [x]) a b (at_ + x.f1) (out ++ [⟨x.f0, mn (at_ + x.f1) b - mx at_ a⟩]) hb (by omega) (by omega) hx.2 (by simpa using hl) (by simp only [List.length_append, List.length_cons, List.length_nil]; omega)
      rw [← mid_snoc pre post x] at ih
      rw [slF, if_pos c, mid_snoc out (slF a b (at_ + x.f1) post) ⟨x.f0, mn (at_ + x.f1) b - mx at_ a⟩]
      have e2 : wrap64 (mn (at_ + x.f1) b - mx at_ a) = mn (at_ + x.f1) b - mx at_ a := by
        unfold mx mn at c ⊢
        exact w64 (by split <;> split <;> omega) (by split <;> split <;> omega)
      refine Ev.step (fun k => ?_) ih
      simp only [wave_Slice.l0]
      rw [rd_mid, if_pos hlt, if_pos (by omega), if_pos hlt, e1, if_pos c, if_pos (by omega), e2, succ_mid pre x hn]
    · have ih := wave_Slice_l0 post (pre ++ [x]) a b (at_ + x.f1) out hb (by omega) (by omega) hx.2 (by simpa using hl) (by omega)
      rw [← mid_snoc pre post x] at ih
      rw [slF, if_neg c]
      refine Ev.step (fun k => ?_) ih
      simp only [wave_Slice.l0]
      rw [rd_mid, if_pos hlt, if_pos (by omega), if_pos hlt, e1, if_neg c, succ_mid pre x hn]
theorem wave_Slice_ev {l : List S48} {a b : Int} (hw : RunsWf l) (hl : l.length ≤ 140737488351232) (hb : b ≤ 9223372036854775807) : Ev (fun k => wave_Slice.f k l a b) (sliceV l a b) := by
  unfold sliceV
  refine Ev.bind (wave_Valid_ev hw hl) ?_
  by_cases v : vld l = true
  · simp only [if_pos v]
    have hv := vld_iff.1 v
    exact wave_Slice_l0 l [] a b 0 [] hb (by omega) (by omega) hv.2.1 (by simpa using hv.1) (by simpa using hv.1)
  · simp only [if_neg v]
    exact Ev.now _
def invR (x : S48) : S48 := ⟨1 - x.f0, x.f1⟩
def invV (l : List S48) : List S48 := if vld l = true then l.map invR else []
theorem set_mid (pre post : List S48) (x y : S48) : (pre ++ x :: post).set ((pre.length : Int)).toNat y = pre ++ y :: post := by
  rw [Int.toNat_natCast, List.set_append_right _ _ (Nat.le_refl _), Nat.sub_self]
  rfl
theorem wave_Invert_l0 : ∀ (post pre : List S48) (n : Int), RunsOk post → (pre ++ post).length ≤ 262144 → n = ((pre ++ post).length : Int) →
    Ev (fun k => wave_Invert.l0 k (pre ++ post) n (pre.length : Int)) (pre ++ post.map invR)
  | [], pre, n, hw, hl, hn => by
    refine Ev.step (f := fun _ => some (pre ++ [])) (fun k => ?_) (Ev.now _)
    simp only [wave_Invert.l0]
    rw [if_neg (by rw [hn]; simp)]
  | x :: post, pre, n, hw, hl, hn => by
    have hx := hw.cons
    have hlt := mid_lt pre post x
    have hb : pre.length ≤ 9223372036854775806 := by
      simp only [List.length_append, List.length_cons] at hl
      omega
    have ih := wave_Invert_l0 post (pre ++ [invR x]) n hx.2 (by simpa using hl) (by rw [hn]; simp)
    rw [← mid_snoc pre post (invR x)] at ih
    rw [List.map_cons, mid_snoc pre (post.map invR) (invR x)]
    refine Ev.step (fun k => ?_) ih
    simp only [wave_Invert.l0]
    rw [rd_mid, if_pos (by rw [hn]; exact hlt), if_pos (by omega), if_pos hlt, set_mid, xor1 hx.1.1, succ_mid pre (invR x) hb]
    rfl
theorem copy_all (n : Nat) (z : S48) (l : List S48) (h : n = l.length) : Kd.copyL (List.replicate n z) l = l := by
  unfold Kd.copyL
  rw [List.length_replicate, h, List.take_length, List.drop_of_length_le (by simp), List.append_nil]
theorem wave_Invert_ev {l : List S48} (hw : RunsWf l) (hl : l.length ≤ 140737488351232) : Ev (fun k => wave_Invert.f k l) (invV l) := by
  unfold invV
  refine Ev.bind (wave_Valid_ev hw hl) ?_
  by_cases v : vld l = true
  · simp only [if_pos v]
    have hv := vld_iff.1 v
    have e : ((l.length : Int)).toNat = l.length := Int.toNat_natCast _
    have h := wave_Invert_l0 l [] (l.length : Int) hv.2.1 (by simpa using hv.1) (by simp)
    refine Ev.congr (fun k => ?_) h
    rw [if_pos (by omega), if_pos (by omega)]
    simp only [Option.bind_some]
    rw [if_pos (by rw [List.length_replicate, e]; omega), copy_all _ _ _ e]
    rfl
  · simp only [if_neg v]
    exact Ev.now _
theorem slF_len : ∀ (l : List S48) (a b at_ : Int), (slF a b at_ l).length ≤ l.length
  | [], a, b, at_ => Nat.le_refl _
  | x :: l, a, b, at_ => by
    have := slF_len l a b (at_ + x.f1)
    unfold slF
    split <;> simp only [List.length_cons] <;> omega
theorem RunsOk.wf {l : List S48} (h : RunsOk l) (hs : sm l ≤ 1099511627776) : RunsWf l := by
  intro x hx
  have h1 := h x hx
  have h2 : x.f1 ≤ sm l := by
    clear h1 hs
    induction l with
    | nil => simp at hx
    | cons y l ih =>
      have hy := h.cons
      have hn := sm_nonneg hy.2
      simp only [sm]
      rcases List.mem_cons.1 hx with rfl | hx
      · omega
      · have := ih hy.2 hx
        omega
  have wf : ∀ n : Int, 0 ≤ n → n ≤ 1099511627776 → (Lit.int .i64 n).wf = true := fun n h0 h1 => by
    simp [Lit.wf, IntKind.min, IntKind.max, IntKind.bits, IntKind.signed]
    omega
  exact ⟨wf _ (by omega) (by omega), wf _ (by omega) (by omega)⟩
theorem vld_wf {l : List S48} (v : vld l = true) : RunsWf l := (vld_iff.1 v).2.1.wf (vld_iff.1 v).2.2
theorem inv_sm : ∀ (l : List S48), sm (l.map invR) = sm l
  | [] => rfl
  | x :: l => by
    simp only [List.map_cons, sm, inv_sm l]
    rfl
theorem inv_at : ∀ (l : List S48) (t : Int), atS (l.map invR) t = if (atS l t).2 = true then (1 - (atS l t).1, true) else (-1, false)
  | [], t => by simp [atS]
  | x :: l, t => by
    have e : (invR x).f1 = x.f1 := rfl
    by_cases c : t < x.f1
    · have e1 : atS (x :: l) t = (x.f0, true) := by rw [atS, if_pos c]
      have e2 : atS ((x :: l).map invR) t = (1 - x.f0, true) := by
        rw [List.map_cons, atS, e, if_pos c]
        rfl
      rw [e1, e2]
      rfl
    · have e1 : atS (x :: l) t = atS l (t - x.f1) := by rw [atS, if_neg c]
      have e2 : atS ((x :: l).map invR) t = atS (l.map invR) (t - x.f1) := by rw [List.map_cons, atS, e, if_neg c]
      rw [e1, e2]
      exact inv_at l _
theorem slF_ok : ∀ {l : List S48} {a b at_ : Int}, RunsOk l → RunsOk (slF a b at_ l)
  | [], a, b, at_, h => h
  | x :: l, a, b, at_, h => by
    have ih := slF_ok (l := l) (a := a) (b := b) (at_ := at_ + x.f1) h.cons.2
    unfold slF
    split
    · intro y hy
      rcases List.mem_cons.1 hy with rfl | hy
      · exact ⟨h.cons.1.1, by simp only; omega⟩
      · exact ih y hy
    · exact ih
/-- Levels from 0 to m, and at least one tick each. -/
def RunsM (m : Int) (l : List S48) : Prop := ∀ x ∈ l, 0 ≤ x.f0 ∧ x.f0 ≤ m ∧ 1 ≤ x.f1
theorem RunsM.cons {m : Int} {x : S48} {l : List S48} (h : RunsM m (x :: l)) : (0 ≤ x.f0 ∧ x.f0 ≤ m ∧ 1 ≤ x.f1) ∧ RunsM m l := ⟨h x (by simp), fun y hy => h y (by simp [hy])⟩
theorem smM_nonneg {m : Int} : ∀ {l : List S48}, RunsM m l → 0 ≤ sm l
  | [], _ => Int.le_refl _
  | x :: l, h => by
    have h1 := h.cons
    have h2 := smM_nonneg h1.2
    simp only [sm]
    omega
theorem atS_out {m : Int} : ∀ {l : List S48} {t : Int}, RunsM m l → sm l ≤ t → atS l t = (-1, false)
  | [], t, h, ht => rfl
  | x :: l, t, h, ht => by
    have hx := h.cons
    have h2 := smM_nonneg hx.2
    simp only [sm] at ht
    unfold atS
    rw [if_neg (by omega)]
    exact atS_out hx.2 (by omega)
/-- A run put behind runs. -/
def putR (o : List S48) (v t : Int) : List S48 :=
  match o.getLast? with
  | some y => if y.f0 = v then o.dropLast ++ [(⟨y.f0, y.f1 + t⟩ : S48)] else o ++ [(⟨v, t⟩ : S48)]
  | none => [(⟨v, t⟩ : S48)]
theorem putR_nil (v t : Int) : putR [] v t = [⟨v, t⟩] := rfl
theorem putR_same (o : List S48) (y : S48) (t : Int) : putR (o ++ [y]) y.f0 t = o ++ [⟨y.f0, y.f1 + t⟩] := by
  simp [putR]
theorem putR_new (o : List S48) (y : S48) {v t : Int} (h : ¬ y.f0 = v) : putR (o ++ [y]) v t = o ++ [y] ++ [⟨v, t⟩] := by
  simp [putR, h]
theorem snoc_cases {α : Type} (o : List α) : o = [] ∨ ∃ q y, o = q ++ [y] := by
  rcases List.eq_nil_or_concat o with h | ⟨q, y, h⟩
  · exact .inl h
  · exact .inr ⟨q, y, by simpa using h⟩
theorem putR_sm (o : List S48) (v t : Int) : sm (putR o v t) = sm o + t := by
  rcases snoc_cases o with rfl | ⟨q, y, rfl⟩
  · simp [putR_nil, sm]
  · by_cases c : y.f0 = v
    · rw [← c, putR_same]
      simp only [sm_append, sm]
      omega
    · rw [putR_new q y c]
      simp only [sm_append, sm]
      omega
theorem putR_len (o : List S48) (v t : Int) : (putR o v t).length ≤ o.length + 1 := by
  rcases snoc_cases o with rfl | ⟨q, y, rfl⟩
  · simp [putR_nil]
  · by_cases c : y.f0 = v
    · rw [← c, putR_same]
      simp
    · rw [putR_new q y c]
      simp
def cln : List S48 → List S48 → List S48
  | o, [] => o
  | o, x :: l => cln (putR o x.f0 x.f1) l
theorem cln_len : ∀ (l o : List S48), (cln o l).length ≤ o.length + l.length
  | [], o => by simp [cln]
  | x :: l, o => by
    have := cln_len l (putR o x.f0 x.f1)
    have := putR_len o x.f0 x.f1
    simp only [cln, List.length_cons]
    omega
theorem sm_nil : sm ([] : List S48) = 0 := rfl
theorem sm_cons (x : S48) (l : List S48) : sm (x :: l) = x.f1 + sm l := rfl
theorem atS_cons (x : S48) (l : List S48) (t : Int) : atS (x :: l) t = if t < x.f1 then (x.f0, true) else atS l (t - x.f1) := rfl
theorem atS_append {m : Int} : ∀ {a : List S48} (b : List S48) (t : Int), RunsM m a → 0 ≤ t → atS (a ++ b) t = if t < sm a then atS a t else atS b (t - sm a)
  | [], b, t, h, ht => by
    rw [sm_nil, List.nil_append, Int.sub_zero, if_neg (by omega)]
  | x :: a, b, t, h, ht => by
    have hx := h.cons
    have h2 := smM_nonneg hx.2
    rw [List.cons_append, atS_cons, atS_cons, sm_cons]
    by_cases c : t < x.f1
    · rw [if_pos c, if_pos (by omega), if_pos c]
    · rw [if_neg c, if_neg c, atS_append b (t - x.f1) hx.2 (by omega)]
      by_cases c1 : t - x.f1 < sm a
      · rw [if_pos c1, if_pos (by omega)]
      · rw [if_neg c1, if_neg (by omega), show t - x.f1 - sm a = t - (x.f1 + sm a) by omega]
def Tk (l : List S48) : Prop := ∀ y ∈ l, 1 ≤ y.f1
theorem RunsM.tk {m : Int} {l : List S48} (h : RunsM m l) : Tk l := fun y hy => (h y hy).2.2
theorem Tk.cons {x : S48} {l : List S48} (h : Tk (x :: l)) : 1 ≤ x.f1 ∧ Tk l := ⟨h x (by simp), fun y hy => h y (by simp [hy])⟩
theorem smT_nonneg : ∀ {l : List S48}, Tk l → 0 ≤ sm l
  | [], _ => Int.le_refl _
  | x :: l, h => by
    have h1 := h.cons
    have h2 := smT_nonneg h1.2
    simp only [sm]
    omega
theorem leT_sm : ∀ {l : List S48}, Tk l → ∀ y ∈ l, 0 ≤ y.f1 ∧ y.f1 ≤ sm l
  | [], h, y, hy => by simp at hy
  | x :: l, h, y, hy => by
    have hx := h.cons
    have h0 := smT_nonneg hx.2
    simp only [sm]
    rcases List.mem_cons.1 hy with rfl | hy
    · omega
    · have := leT_sm hx.2 y hy
      omega
theorem putR_tk {o : List S48} {v t : Int} (h : Tk o) (ht : 1 ≤ t) : Tk (putR o v t) := by
  rcases snoc_cases o with rfl | ⟨q, y, rfl⟩
  · intro x hx
    rw [putR_nil, List.mem_singleton] at hx
    subst hx
    exact ht
  · have hy := h y (by simp)
    by_cases c : y.f0 = v
    · rw [← c, putR_same]
      intro x hx
      rcases List.mem_append.1 hx with hx | hx
      · exact h x (by simp [hx])
      · rw [List.mem_singleton] at hx
        subst hx
        show 1 ≤ y.f1 + t
        omega
    · rw [putR_new q y c]
      intro x hx
      rcases List.mem_append.1 hx with hx | hx
      · exact h x hx
      · rw [List.mem_singleton] at hx
        subst hx
        exact ht
theorem awake13_ev : Ev (fun k => signalbenchlaw13_awake.f k) true := Ev.of (k := 60) (fun k => signalbenchlaw13_awake.mono k) (by decide +kernel)
theorem awake13_then : Ev (fun k => (signalbenchlaw13_awake.f k).bind fun t => some t) true := Ev.bind awake13_ev (Ev.now true)
theorem same13_l0 : ∀ (post pre : List S48), (pre ++ post).length ≤ 140737488351232 → Ev (fun k => signalbenchlaw13_same.l0 k (pre ++ post) (pre ++ post) (pre.length : Int)) true
  | [], pre, hl => by
    refine Ev.step (f := fun _ => some true) (fun k => ?_) (Ev.now _)
    simp only [signalbenchlaw13_same.l0]
    rw [if_neg (by simp)]
  | x :: post, pre, hl => by
    have hlt := mid_lt pre post x
    have hn : pre.length ≤ 9223372036854775806 := by
      simp only [List.length_append, List.length_cons] at hl
      omega
    have ih := same13_l0 post (pre ++ [x]) (by simpa using hl)
    rw [← mid_snoc] at ih
    refine Ev.step (fun k => ?_) ih
    simp only [signalbenchlaw13_same.l0]
    rw [rd_mid, if_pos hlt, if_pos (by omega), if_pos hlt, if_neg (by simp), succ_mid _ _ hn]
theorem same13_ev (l : List S48) (hl : l.length ≤ 140737488351232) : Ev (fun k => signalbenchlaw13_same.f k l l) true := by
  refine Ev.congr (fun k => ?_) (same13_l0 l [] (by simpa using hl))
  unfold signalbenchlaw13_same.f
  rw [if_pos rfl]
  rfl
def cntM (b : Int) : List S48 → Int
  | [] => 0
  | [_] => 0
  | y :: z :: r => (if y.f1 < b then 1 else 0) + cntM b (z :: r)
def cntF (b : Int) : List S48 → Int
  | [] => 0
  | _ :: r => cntM b r
theorem cntM_bound (b : Int) : ∀ (l : List S48), 0 ≤ cntM b l ∧ cntM b l ≤ l.length
  | [] => by simp [cntM]
  | [_] => by simp [cntM]
  | y :: z :: r => by
    have := cntM_bound b (z :: r)
    unfold cntM
    simp only [List.length_cons] at this ⊢
    split <;> omega
theorem Count_l0 (b : Int) : ∀ (post pre : List S48) (n : Int), 0 ≤ n → n + post.length ≤ 9223372036854775807 → (pre ++ post).length ≤ 262144 →
    Ev (fun k => glitch_Count.l0 k b (pre ++ post) n (pre.length : Int)) (n + cntM b post)
  | [], pre, n, h0, h1, hl => by
    have e : wrap64 ((pre.length : Int) + 1) = (pre.length : Int) + 1 := w64 (by omega) (by simp only [List.append_nil] at hl; omega)
    refine Ev.step (f := fun _ => some n) (fun k => ?_) (by rw [show n + cntM b [] = n from Int.add_zero n]; exact Ev.now _)
    simp only [glitch_Count.l0]
    rw [e, if_neg (by simp only [List.append_nil]; omega)]
  | [y], pre, n, h0, h1, hl => by
    simp only [List.length_append, List.length_cons, List.length_nil] at hl
    have e : wrap64 ((pre.length : Int) + 1) = (pre.length : Int) + 1 := w64 (by omega) (by omega)
    refine Ev.step (f := fun _ => some n) (fun k => ?_) (by rw [show n + cntM b [y] = n from Int.add_zero n]; exact Ev.now _)
    simp only [glitch_Count.l0]
    rw [e, if_neg (by simp only [List.length_append, List.length_cons, List.length_nil]; omega)]
  | y :: z :: r, pre, n, h0, h1, hl => by
    have hlt := mid_lt pre (z :: r) y
    have hll := hl
    simp only [List.length_append, List.length_cons] at hll h1
    have e : wrap64 ((pre.length : Int) + 1) = ((pre ++ [y]).length : Int) := succ_mid pre y (by omega)
    have hl2 : ((pre ++ [y]).length : Int) < ((pre ++ y :: z :: r).length : Int) := by
      simp only [List.length_append, List.length_cons, List.length_nil]
      omega
    by_cases c : y.f1 < b
    · have ih := Count_l0 b (z :: r) (pre ++ [y]) (n + 1) (by omega) (by simp only [List.length_cons]; omega) (by simpa using hl)
      rw [← mid_snoc] at ih
      rw [show n + cntM b (y :: z :: r) = n + 1 + cntM b (z :: r) by rw [cntM, if_pos c]; omega]
      refine Ev.step (fun k => ?_) ih
      simp only [glitch_Count.l0]
      rw [e, rd_mid, if_pos hl2, if_pos (by omega), if_pos hlt, if_pos c, w64 (x := n + 1) (by omega) (by omega)]
    · have ih := Count_l0 b (z :: r) (pre ++ [y]) n (by omega) (by simp only [List.length_cons]; omega) (by simpa using hl)
      rw [← mid_snoc] at ih
      rw [show n + cntM b (y :: z :: r) = n + cntM b (z :: r) by rw [cntM, if_neg c]; omega]
      refine Ev.step (fun k => ?_) ih
      simp only [glitch_Count.l0]
      rw [e, rd_mid, if_pos hl2, if_pos (by omega), if_pos hlt, if_neg c]
theorem refCount_l0 (b : Int) : ∀ (post pre : List S48) (n : Int), 0 ≤ n → n + post.length ≤ 9223372036854775807 → (pre ++ post).length ≤ 262144 →
    Ev (fun k => signalbenchref13_Count.l0 k b (pre ++ post) n (pre.length : Int)) (n + cntM b post)
  | [], pre, n, h0, h1, hl => by
    refine Ev.step (f := fun _ => some n) (fun k => ?_) (by rw [show n + cntM b [] = n from Int.add_zero n]; exact Ev.now _)
    simp only [signalbenchref13_Count.l0]
    simp only [List.append_nil] at hl ⊢
    rw [w64 (by omega) (by omega), if_neg (by omega)]
  | [y], pre, n, h0, h1, hl => by
    refine Ev.step (f := fun _ => some n) (fun k => ?_) (by rw [show n + cntM b [y] = n from Int.add_zero n]; exact Ev.now _)
    simp only [signalbenchref13_Count.l0]
    simp only [List.length_append, List.length_cons, List.length_nil] at hl ⊢
    rw [w64 (by omega) (by omega), if_neg (by omega)]
  | y :: z :: r, pre, n, h0, h1, hl => by
    have hlt := mid_lt pre (z :: r) y
    have hll := hl
    simp only [List.length_append, List.length_cons] at hll h1
    have e : wrap64 ((pre.length : Int) + 1) = ((pre ++ [y]).length : Int) := succ_mid pre y (by omega)
    have e2 : wrap64 (((pre ++ y :: z :: r).length : Int) - 1) = ((pre ++ y :: z :: r).length : Int) - 1 := w64 (by omega) (by omega)
    have hl2 : (pre.length : Int) < ((pre ++ y :: z :: r).length : Int) - 1 := by
      simp only [List.length_append, List.length_cons]
      omega
    by_cases c : y.f1 < b
    · have ih := refCount_l0 b (z :: r) (pre ++ [y]) (n + 1) (by omega) (by simp only [List.length_cons]; omega) (by simpa using hl)
      rw [← mid_snoc] at ih
      rw [show n + cntM b (y :: z :: r) = n + 1 + cntM b (z :: r) by rw [cntM, if_pos c]; omega]
      refine Ev.step (fun k => ?_) ih
      simp only [signalbenchref13_Count.l0]
      rw [e2, rd_mid, if_pos hl2, if_pos (by omega), if_pos hlt, if_pos c, w64 (x := n + 1) (by omega) (by omega), e]
    · have ih := refCount_l0 b (z :: r) (pre ++ [y]) n (by omega) (by simp only [List.length_cons]; omega) (by simpa using hl)
      rw [← mid_snoc] at ih
      rw [show n + cntM b (y :: z :: r) = n + cntM b (z :: r) by rw [cntM, if_neg c]; omega]
      refine Ev.step (fun k => ?_) ih
      simp only [signalbenchref13_Count.l0]
      rw [e2, rd_mid, if_pos hl2, if_pos (by omega), if_pos hlt, if_neg c, e]
theorem clV_len (l : List S48) : (cleanV l).length ≤ 262144 ∧ (cleanV l).length ≤ l.length := by
  unfold cleanV
  by_cases v : vld l = true
  · rw [if_pos v]
    have hv := vld_iff.1 v
    have := jn_len l
    omega
  · rw [if_neg v]
    simp
def countV (l : List S48) (b : Int) : Int := cntF b (cleanV l)
theorem Count_ev {l : List S48} {b : Int} (hw : RunsWf l) (hl : l.length ≤ 140737488351232) : Ev (fun k => glitch_Count.f k l b) (countV l b) := by
  refine Ev.bind (wave_Clean_ev hw hl) ?_
  unfold countV
  have hc := (clV_len l).1
  cases e : cleanV l with
  | nil =>
    refine Ev.step (f := fun _ => some 0) (fun k => ?_) (Ev.now _)
    simp only [glitch_Count.l0]
    have e2 : wrap64 (1 + 1) = 2 := by
      rw [w64 (by decide) (by decide)]
      rfl
    rw [e2, if_neg (by simp)]
  | cons x r =>
    rw [e] at hc
    simp only [List.length_cons] at hc
    have h := Count_l0 b r [x] 0 (by omega) (by omega) (by simpa using hc)
    rw [Int.zero_add] at h
    exact h
theorem refCount_ev {l : List S48} {b : Int} (hw : RunsWf l) (hl : l.length ≤ 140737488351232) : Ev (fun k => signalbenchref13_Count.f k l b) (countV l b) := by
  refine Ev.bind (ref_Valid_ev hw hl) ?_
  unfold countV
  by_cases v : vld l = true
  · refine Ev.congr (fun k => if_pos v) (Ev.bind (ref_Clean_ev hw hl) ?_)
    have hc := (clV_len l).1
    cases e : cleanV l with
    | nil =>
      refine Ev.step (f := fun _ => some 0) (fun k => ?_) (Ev.now _)
      simp only [signalbenchref13_Count.l0]
      have e2 : wrap64 ((([] : List S48).length : Int) - 1) = -1 := by
        rw [List.length_nil, w64 (by decide) (by decide)]
        rfl
      rw [e2, if_neg (by decide)]
    | cons x r =>
      rw [e] at hc
      simp only [List.length_cons] at hc
      have h := refCount_l0 b r [x] 0 (by omega) (by omega) (by simpa using hc)
      rw [Int.zero_add] at h
      exact h
  · rw [show cleanV l = [] from if_neg v]
    exact Ev.congr (fun k => if_neg v) (Ev.now _)
def flt (b : Int) : S48 → List S48 → List S48
  | p, [] => [p]
  | p, [y] => [p, y]
  | p, y :: z :: r => if y.f1 < b then flt b ⟨p.f0, p.f1 + (y.f1 + z.f1)⟩ r else p :: flt b y (z :: r)
def filt (b : Int) : List S48 → List S48
  | [] => []
  | x :: r => flt b x r
def filV (l : List S48) (b : Int) : List S48 := filt b (cleanV l)
theorem Filter_l0 (b : Int) : ∀ (post pre q : List S48) (p : S48), RunsOk post → 0 ≤ p.f1 → p.f1 + sm post ≤ 1099511627776 → (pre ++ post).length ≤ 262144 → q.length + post.length ≤ 262144 →
    Ev (fun k => glitch_Filter.l0 k b (pre ++ post) (q ++ [p]) (pre.length : Int)) (q ++ flt b p post)
  | [], pre, q, p, hw, h0, hs, hl, hq => by
    refine Ev.step (f := fun _ => some (q ++ [p])) (fun k => ?_) (Ev.now _)
    simp only [glitch_Filter.l0]
    rw [if_neg (by simp)]
  | [y], pre, q, p, hw, h0, hs, hl, hq => by
    have hlt := mid_lt pre [] y
    have hll := hl
    simp only [List.length_append, List.length_cons, List.length_nil] at hll hq
    have e : wrap64 ((pre.length : Int) + 1) = ((pre ++ [y]).length : Int) := succ_mid pre y (by omega)
    refine Ev.step (f := fun k => glitch_Filter.l1 k b (pre ++ [y]) (q ++ [p]) (pre.length : Int)) (fun k => ?_) ?_
    · simp only [glitch_Filter.l0]
      rw [if_pos hlt]
    · refine Ev.step (f := fun k => glitch_Filter.l0 k b (pre ++ [y]) ((q ++ [p]) ++ [y]) ((pre ++ [y]).length : Int)) (fun k => ?_) ?_
      · simp only [glitch_Filter.l1]
        rw [e, if_neg (by omega), if_pos (by omega), if_pos hlt, if_pos (by simp only [List.length_append, List.length_cons, List.length_nil]; omega), rd_mid]
      · rw [flt, show q ++ [p, y] = (q ++ [p]) ++ [y] by simp]
        refine Ev.step (f := fun _ => some ((q ++ [p]) ++ [y])) (fun k => ?_) (Ev.now _)
        simp only [glitch_Filter.l0]
        rw [if_neg (by omega)]
  | y :: z :: r, pre, q, p, hw, h0, hs, hl, hq => by
    have hy := hw.cons
    have hz := hy.2.cons
    have hr := sm_nonneg hz.2
    simp only [sm] at hs
    have hlt := mid_lt pre (z :: r) y
    have hll := hl
    simp only [List.length_append, List.length_cons] at hll hq
    have e : wrap64 ((pre.length : Int) + 1) = ((pre ++ [y]).length : Int) := succ_mid pre y (by omega)
    have hl2 : ((pre ++ [y]).length : Int) < ((pre ++ y :: z :: r).length : Int) := by
      simp only [List.length_append, List.length_cons, List.length_nil]
      omega
    have rz : rd_T48 (pre ++ y :: z :: r) ((pre ++ [y]).length : Int) = z := by
      have := rd_mid (pre ++ [y]) r z
      rw [← mid_snoc] at this
      exact this
    have hst : ∀ k, glitch_Filter.l0 (k + 1) b (pre ++ y :: z :: r) (q ++ [p]) (pre.length : Int) = glitch_Filter.l1 k b (pre ++ y :: z :: r) (q ++ [p]) (pre.length : Int) := by
      intro k
      simp only [glitch_Filter.l0]
      rw [if_pos hlt]
    refine Ev.step hst ?_
    by_cases c : y.f1 < b
    · have ih := Filter_l0 b r (pre ++ [y, z]) q ⟨p.f0, p.f1 + (y.f1 + z.f1)⟩ hz.2 (by show 0 ≤ p.f1 + (y.f1 + z.f1); omega) (by show p.f1 + (y.f1 + z.f1) + sm r ≤ _; omega) (by simpa using hl) (by omega)
      rw [show (pre ++ [y, z]) ++ r = pre ++ y :: z :: r by simp] at ih
      rw [flt, if_pos c]
      have e2 : wrap64 ((pre.length : Int) + 2) = ((pre ++ [y, z]).length : Int) := by
        rw [w64 (by omega) (by omega)]
        simp
      have el := last_at q p (by omega)
      have hql : (q.length : Int) < ((q ++ [p]).length : Int) := mid_lt q [] p
      refine Ev.step (fun k => ?_) ih
      simp only [glitch_Filter.l1]
      rw [e, if_pos hl2, if_pos (Int.natCast_nonneg _), if_pos hlt, rd_mid, if_pos c, el, if_pos (Int.natCast_nonneg _), if_pos hql, if_pos (Int.natCast_nonneg _), rd_last, rz, set_last, w64 (x := y.f1 + z.f1) (by omega) (by omega), w64 (x := p.f1 + (y.f1 + z.f1)) (by omega) (by omega), e2]
    · have ih := Filter_l0 b (z :: r) (pre ++ [y]) (q ++ [p]) y hy.2 (by omega) (by simp only [sm]; omega) (by simpa using hl) (by simp only [List.length_append, List.length_cons, List.length_nil]; omega)
      rw [← mid_snoc pre (z :: r) y] at ih
      rw [flt, if_neg c, mid_snoc q (flt b y (z :: r)) p]
      refine Ev.step (fun k => ?_) ih
      simp only [glitch_Filter.l1]
      rw [e, if_pos hl2, if_pos (Int.natCast_nonneg _), if_pos hlt, rd_mid, if_neg c, if_pos (by simp only [List.length_append, List.length_cons, List.length_nil]; omega)]
theorem cleanV_ok (l : List S48) : RunsOk (cleanV l) ∧ sm (cleanV l) ≤ 1099511627776 ∧ apart (cleanV l) := by
  unfold cleanV
  by_cases v : vld l = true
  · rw [if_pos v]
    have hv := vld_iff.1 v
    exact ⟨jn_ok hv.2.1, by rw [jn_sm]; exact hv.2.2, jn_apart l⟩
  · rw [if_neg v]
    exact ⟨fun x hx => by simp at hx, by simp [sm], trivial⟩
theorem Filter_ev {l : List S48} {b : Int} (hw : RunsWf l) (hl : l.length ≤ 140737488351232) : Ev (fun k => glitch_Filter.f k l b) (filV l b) := by
  refine Ev.bind (wave_Clean_ev hw hl) ?_
  unfold filV
  have hc := (clV_len l).1
  have ho := cleanV_ok l
  match e : cleanV l with
  | [] => exact Ev.congr (fun k => if_pos (by decide)) (Ev.now _)
  | [x] => exact Ev.congr (fun k => if_pos (by simp)) (Ev.now _)
  | [x, y] => exact Ev.congr (fun k => if_pos (by simp)) (Ev.now _)
  | x :: y :: z :: r =>
    rw [e] at hc ho
    have hx := ho.1.cons
    have h0 := ho.2.1
    simp only [sm] at h0
    have h := Filter_l0 b (y :: z :: r) [x] [] x hx.2 (by omega) (by simp only [sm]; omega) (by simpa using hc) (by simp only [List.length_cons] at hc ⊢; simp only [List.length_nil]; omega)
    refine Ev.congr (fun k => (if_neg (by simp only [List.length_cons]; omega)).trans ((if_pos (by simp only [List.length_cons]; omega)).trans ((if_pos (by rw [Int.toNat_natCast]; omega)).trans ?_))) h
    rw [Option.bind_some, if_pos (by simp only [List.length_cons]; omega), if_pos (by simp)]
    rfl
theorem flt_id (b : Int) : ∀ (l : List S48) (p : S48), cntM b l = 0 → flt b p l = p :: l
  | [], p, h => rfl
  | [y], p, h => rfl
  | y :: z :: r, p, h => by
    have hb := cntM_bound b (z :: r)
    unfold cntM at h
    unfold flt
    by_cases k : y.f1 < b
    · rw [if_pos k] at h
      omega
    · rw [if_neg k] at h ⊢
      rw [flt_id b (z :: r) y (by omega)]
theorem Insert_put_l0 : ∀ (post pre o : List S48), Tk o → Tk post → sm o + sm post ≤ 4398046511104 → (pre ++ post).length ≤ 262144 → o.length + post.length ≤ 4398046511104 →
    Ev (fun k => glitch_Insert_put.l0 k (pre ++ post) ((pre ++ post).length : Int) (pre.length : Int) o) (cln o post)
  | [], pre, o, h0, h1, hs, hl, ho => by
    refine Ev.step (f := fun _ => some o) (fun k => ?_) (Ev.now _)
    simp only [glitch_Insert_put.l0]
    rw [if_neg (by simp)]
  | x :: post, pre, o, h0, h1, hs, hl, ho => by
    have hx := h1.cons
    have h2 := smT_nonneg hx.2
    have h3 := smT_nonneg h0
    simp only [sm] at hs
    simp only [List.length_cons] at ho
    have hlt := mid_lt pre post x
    have hn : pre.length ≤ 9223372036854775806 := by
      simp only [List.length_append, List.length_cons] at hl
      omega
    have ih := Insert_put_l0 post (pre ++ [x]) (putR o x.f0 x.f1) (putR_tk h0 hx.1) hx.2 (by rw [putR_sm]; omega) (by simpa using hl) (by have := putR_len o x.f0 x.f1; omega)
    rw [← mid_snoc] at ih
    have ex := succ_mid pre x hn
    have hb1 : sm o + x.f1 ≤ 4398046511104 := by omega
    clear hl hs h1
    refine Ev.step (fun k => ?_) ih
    simp only [glitch_Insert_put.l0]
    rw [rd_mid, if_pos hlt, if_pos (Int.natCast_nonneg _), if_pos hlt, ex]
    rcases snoc_cases o with rfl | ⟨q, y, rfl⟩
    · rw [if_neg (by simp), if_pos (by simp), putR_nil]
      rfl
    · have hy := leT_sm h0 y (by simp)
      have hql : (q.length : Int) < ((q ++ [y]).length : Int) := mid_lt q [] y
      have hqs : ((q ++ [y]).length : Int) > 0 := by omega
      have el := last_at q y (by simp only [List.length_append, List.length_cons, List.length_nil] at ho; omega)
      rw [el, rd_last, if_pos hqs, if_pos (Int.natCast_nonneg _), if_pos hql]
      by_cases c : y.f0 = x.f0
      · rw [if_pos c, set_last, ← c, putR_same]
        rw [w64 (x := y.f1 + x.f1) (by omega) (by omega)]
      · rw [if_neg c, if_pos (by omega), putR_new q y c]
theorem Insert_put_ev {part o : List S48} (h0 : Tk o) (h1 : Tk part) (hs : sm o + sm part ≤ 4398046511104) (hl : part.length ≤ 262144) (ho : o.length + part.length ≤ 4398046511104) : Ev (fun k => glitch_Insert_put.f k part o) (cln o part) :=
  Ev.congr (fun k => rfl) (Insert_put_l0 part [] o h0 h1 hs (by simpa using hl) ho)
theorem cln_jnc : ∀ (l q : List S48) (y : S48), cln (q ++ [y]) l = q ++ jnc y l
  | [], q, y => rfl
  | x :: l, q, y => by
    unfold cln jnc
    by_cases c : y.f0 = x.f0
    · rw [← c, putR_same, cln_jnc l q, if_pos rfl]
    · rw [putR_new q y c, cln_jnc l (q ++ [y]), if_neg c, List.append_assoc]
      rfl
theorem cln_jn (l : List S48) : cln [] l = jn l := by
  cases l with
  | nil => rfl
  | cons x l =>
    show cln (putR [] x.f0 x.f1) l = _
    rw [putR_nil]
    exact cln_jnc l [] _
theorem cln_app : ∀ (a b o : List S48), cln o (a ++ b) = cln (cln o a) b
  | [], b, o => rfl
  | x :: a, b, o => by
    show cln (putR o x.f0 x.f1) (a ++ b) = _
    rw [cln_app a b]
    rfl
theorem cln_tk : ∀ (l : List S48) {o : List S48}, Tk o → Tk l → Tk (cln o l)
  | [], o, h, _ => h
  | x :: l, o, h, h1 => cln_tk l (putR_tk h h1.cons.1) h1.cons.2
theorem cln_sm : ∀ (l o : List S48), sm (cln o l) = sm o + sm l
  | [], o => by simp [cln, sm]
  | x :: l, o => by
    show sm (cln (putR o x.f0 x.f1) l) = _
    rw [cln_sm l, putR_sm, sm]
    omega
/-- The three parts: before, inverted, behind. -/
def insL (l : List S48) (a t : Int) : List S48 := slF 0 a 0 l ++ ((slF a (a + t) 0 l).map invR ++ slF (a + t) (sm l) 0 l)
def insV (l : List S48) (a t : Int) : List S48 × Int :=
  if vld l = true then (if a < 0 ∨ sm l < a ∨ t < 1 ∨ sm l - a < t then ([], 2) else if 262144 < (jn (insL l a t)).length then ([], 6) else (jn (insL l a t), 0)) else ([], 1)
theorem RunsOk.tk {l : List S48} (h : RunsOk l) : Tk l := fun y hy => (h y hy).2
theorem slF_sm : ∀ (l : List S48) (a b at_ : Int), RunsOk l → sm (slF a b at_ l) = if mx at_ a < mn (at_ + sm l) b then mn (at_ + sm l) b - mx at_ a else 0
  | [], a, b, at_, hw => by
    rw [if_neg (by
      simp only [sm]
      unfold mx mn
      split <;> split <;> omega)]
    rfl
  | x :: l, a, b, at_, hw => by
    have hx := hw.cons
    have hs := sm_nonneg hx.2
    have ih := slF_sm l a b (at_ + x.f1) hx.2
    unfold slF
    by_cases c : mx at_ a < mn (at_ + x.f1) b
    · rw [if_pos c]
      simp only [sm]
      rw [ih]
      unfold mx mn at *
      repeat' split
      all_goals first | omega | (simp only [sm] at *; omega)
    · rw [if_neg c, ih]
      simp only [sm]
      unfold mx mn at *
      repeat' split
      all_goals first | omega | (simp only [sm] at *; omega)
theorem slF_at : ∀ (l : List S48) (a b at_ u : Int), RunsOk l → 0 ≤ u → atS (slF a b at_ l) u = if u + mx at_ a < mn (at_ + sm l) b then atS l (u + mx at_ a - at_) else (-1, false)
  | [], a, b, at_, u, hw, hu => by
    rw [if_neg (by
      simp only [sm]
      unfold mx mn
      split <;> split <;> omega)]
    rfl
  | x :: l, a, b, at_, u, hw, hu => by
    have hx := hw.cons
    have hs := sm_nonneg hx.2
    unfold slF
    rw [sm_cons, atS_cons]
    by_cases c : mx at_ a < mn (at_ + x.f1) b
    · rw [if_pos c, atS_cons]
      show (if u < mn (at_ + x.f1) b - mx at_ a then (x.f0, true) else atS (slF a b (at_ + x.f1) l) (u - (mn (at_ + x.f1) b - mx at_ a))) = _
      by_cases c1 : u < mn (at_ + x.f1) b - mx at_ a
      · rw [if_pos c1, if_pos (by unfold mx mn at *; split at c1 <;> split at c1 <;> split <;> omega), if_pos (by unfold mx mn at *; split at c1 <;> split at c1 <;> omega)]
      · rw [if_neg c1, slF_at l a b (at_ + x.f1) _ hx.2 (by omega)]
        by_cases c2 : b ≤ at_ + x.f1
        · rw [if_neg (by unfold mx mn at *; split at c1 <;> split at c1 <;> split <;> split <;> omega), if_neg (by unfold mx mn at *; split at c1 <;> split at c1 <;> split <;> omega)]
        · have e1 : mn (at_ + x.f1) b = at_ + x.f1 := by unfold mn; split <;> omega
          have e2 : mx (at_ + x.f1) a = at_ + x.f1 := by
            rw [e1] at c
            unfold mx at c ⊢
            split at c <;> split <;> omega
          rw [e1] at c c1 ⊢
          rw [e2, show u - (at_ + x.f1 - mx at_ a) + (at_ + x.f1) = u + mx at_ a by omega, show at_ + x.f1 + sm l = at_ + (x.f1 + sm l) by omega]
          by_cases c3 : u + mx at_ a < mn (at_ + (x.f1 + sm l)) b
          · rw [if_pos c3, if_pos c3, if_neg (by omega), show u + mx at_ a - (at_ + x.f1) = u + mx at_ a - at_ - x.f1 by omega]
          · rw [if_neg c3, if_neg c3]
    · rw [if_neg c, slF_at l a b (at_ + x.f1) u hx.2 hu, show at_ + x.f1 + sm l = at_ + (x.f1 + sm l) by omega]
      by_cases c2 : b ≤ mx at_ a
      · rw [if_neg (by unfold mx mn at *; split at c2 <;> split <;> split <;> omega), if_neg (by unfold mx mn at *; split at c2 <;> split <;> omega)]
      · have e1 : mx at_ a = a ∧ at_ + x.f1 ≤ a := by
          unfold mx mn at *
          split at c <;> split at c <;> split at c2 <;> constructor <;> first | omega | (split <;> omega)
        have e2 : mx (at_ + x.f1) a = a := by
          unfold mx
          split <;> omega
        rw [e1.1, e2]
        by_cases c3 : u + a < mn (at_ + (x.f1 + sm l)) b
        · rw [if_pos c3, if_pos c3, if_neg (by omega), show u + a - (at_ + x.f1) = u + a - at_ - x.f1 by omega]
        · rw [if_neg c3, if_neg c3]
theorem invL_ok {l : List S48} (h : RunsOk l) : RunsOk (l.map invR) := by
  intro x hx
  obtain ⟨y, hy, rfl⟩ := List.mem_map.1 hx
  have := h y hy
  show (1 - y.f0 = 0 ∨ 1 - y.f0 = 1) ∧ 1 ≤ y.f1
  omega
theorem parts_sm {l : List S48} {a t : Int} (hw : RunsOk l) (h : ¬ (a < 0 ∨ sm l < a ∨ t < 1 ∨ sm l - a < t)) : sm (slF 0 a 0 l) = a ∧ sm (slF a (a + t) 0 l) = t ∧ sm (slF (a + t) (sm l) 0 l) = sm l - (a + t) := by
  refine ⟨?_, ?_, ?_⟩
  · rw [slF_sm l _ _ _ hw]
    unfold mx mn
    repeat' split
    all_goals omega
  · rw [slF_sm l _ _ _ hw]
    unfold mx mn
    repeat' split
    all_goals omega
  · rw [slF_sm l _ _ _ hw]
    unfold mx mn
    repeat' split
    all_goals omega
theorem insL_ok {l : List S48} (a t : Int) (hw : RunsOk l) : RunsOk (insL l a t) := (slF_ok hw).append ((invL_ok (slF_ok hw)).append (slF_ok hw))
theorem RunsOk.m1 {l : List S48} (h : RunsOk l) : RunsM 1 l := fun y hy => by
  have := h y hy
  omega
theorem atS_far {l : List S48} {u : Int} (hw : RunsOk l) (h : sm l ≤ u) : atS l u = (-1, false) := atS_out hw.m1 h
def flipA (p : Int × Bool) : Int × Bool := if p.2 = true then (1 - p.1, true) else (-1, false)
theorem insL_at {l : List S48} {a t u : Int} (hw : RunsOk l) (h : ¬ (a < 0 ∨ sm l < a ∨ t < 1 ∨ sm l - a < t)) (hu : 0 ≤ u) : atS (insL l a t) u = if a ≤ u ∧ u < a + t then flipA (atS l u) else atS l u := by
  have hp := parts_sm hw h
  have s1 : RunsOk (slF 0 a 0 l) := slF_ok hw
  have s2 : RunsOk (slF a (a + t) 0 l) := slF_ok hw
  have i2 := inv_sm (slF a (a + t) 0 l)
  unfold insL
  rw [atS_append _ _ s1.m1 hu, hp.1]
  by_cases c : u < a
  · rw [if_pos c, if_neg (by omega), slF_at l _ _ _ _ hw hu]
    have e1 : mx 0 0 = 0 := by decide
    have e2 : mn (0 + sm l) a = a := by unfold mn; split <;> omega
    rw [e1, e2, if_pos (by omega), show u + 0 - 0 = u by omega]
  · rw [if_neg c, atS_append _ _ (invL_ok s2).m1 (by omega), i2, hp.2.1]
    by_cases c1 : u - a < t
    · have e1 : mx 0 a = a := by unfold mx; split <;> omega
      have e2 : mn (0 + sm l) (a + t) = a + t := by unfold mn; split <;> omega
      have eS : atS (slF a (a + t) 0 l) (u - a) = atS l u := by
        rw [slF_at l _ _ _ _ hw (by omega), e1, e2, if_pos (by omega), show u - a + a - 0 = u by omega]
      rw [if_pos c1, if_pos (by omega), inv_at, eS]
      rfl
    · rw [if_neg c1, if_neg (by omega), slF_at l _ _ _ _ hw (by omega)]
      have e1 : mx 0 (a + t) = a + t := by unfold mx; split <;> omega
      have e2 : mn (0 + sm l) (sm l) = sm l := by unfold mn; split <;> omega
      rw [e1, e2]
      by_cases c2 : u < sm l
      · rw [if_pos (by omega), show u - a - t + (a + t) - 0 = u by omega]
      · rw [if_neg (by omega), atS_far hw (by omega)]
theorem ext_apart : ∀ (a b : List S48), RunsOk a → RunsOk b → apart a → apart b → (∀ u, 0 ≤ u → atS a u = atS b u) → a = b
  | [], [], _, _, _, _, _ => rfl
  | [], y :: b, _, hb, _, _, h => by
    have h0 := h 0 (by omega)
    have hy := hb.cons
    rw [atS_cons, if_pos (by omega)] at h0
    simp [atS] at h0
  | x :: a, [], ha, _, _, _, h => by
    have h0 := h 0 (by omega)
    have hx := ha.cons
    rw [atS_cons, if_pos (by omega)] at h0
    simp [atS] at h0
  | x :: a, y :: b, ha, hb, pa, pb, h => by
    have hx := ha.cons
    have hy := hb.cons
    have next : ∀ {z : S48} {c : List S48}, RunsOk c → apart (z :: c) → ∀ w, atS c 0 ≠ (z.f0, w) ∨ w = false := by
      intro z c hc pc w
      cases c with
      | nil =>
        cases w
        · exact .inr rfl
        · exact .inl (by simp [atS])
      | cons v c =>
        have hv := hc.cons
        left
        rw [atS_cons, if_pos (by omega)]
        intro e
        have : v.f0 = z.f0 := congrArg Prod.fst e
        exact pc.1 this.symm
    have h0 := h 0 (by omega)
    rw [atS_cons, atS_cons, if_pos (by omega), if_pos (by omega)] at h0
    have e0 : x.f0 = y.f0 := congrArg Prod.fst h0
    have e1 : x.f1 = y.f1 := by
      rcases Int.lt_trichotomy x.f1 y.f1 with c | c | c
      · have h1 := h x.f1 (by omega)
        rw [atS_cons, atS_cons, if_neg (by omega), if_pos c, Int.sub_self, ← e0] at h1
        rcases next hx.2 pa true with k | k
        · exact absurd h1 k
        · cases k
      · exact c
      · have h1 := h y.f1 (by omega)
        rw [atS_cons, atS_cons, if_pos c, if_neg (by omega), Int.sub_self, e0] at h1
        rcases next hy.2 pb true with k | k
        · exact absurd h1.symm k
        · cases k
    have pa' : apart a := by
      cases a with
      | nil => trivial
      | cons v a => exact pa.2
    have pb' : apart b := by
      cases b with
      | nil => trivial
      | cons v b => exact pb.2
    have et := ext_apart a b hx.2 hy.2 pa' pb' (fun u hu => by
      have h1 := h (u + x.f1) (by omega)
      rw [atS_cons, atS_cons, if_neg (by omega), if_neg (by omega), e1] at h1
      rw [show u + y.f1 - y.f1 = u by omega] at h1
      exact h1)
    rw [et]
    congr 1
    cases x
    cases y
    simp only at e0 e1
    rw [e0, e1]
theorem sliceV_wf (l : List S48) (a b : Int) : RunsWf (sliceV l a b) ∧ (sliceV l a b).length ≤ 262144 ∧ (vld l = true → vld (sliceV l a b) = true) := by
  unfold sliceV
  by_cases v : vld l = true
  · rw [if_pos v]
    have hv := vld_iff.1 v
    have h1 := slF_sm l a b 0 hv.2.1
    have h2 := slF_len l a b 0
    have h3 := sm_nonneg hv.2.1
    have h4 : RunsOk (slF a b 0 l) := slF_ok hv.2.1
    have h5 : sm (slF a b 0 l) ≤ sm l := by
      rw [h1]
      unfold mx mn
      repeat' split
      all_goals omega
    exact ⟨h4.wf (by omega), by omega, fun _ => vld_iff.2 ⟨by omega, h4, by omega⟩⟩
  · rw [if_neg v]
    exact ⟨fun x hx => by simp at hx, by simp, fun h => absurd h v⟩
theorem Insert_ev {l : List S48} {a t : Int} (hw : RunsWf l) (hl : l.length ≤ 140737488351232) (ha : (Lit.int .i64 a).wf = true) (ht : (Lit.int .i64 t).wf = true) : Ev (fun k => glitch_Insert.f k l a t) (insV l a t) := by
  have ha' := wf64 ha
  have ht' := wf64 ht
  unfold insV
  refine Ev.bind (wave_Valid_ev hw hl) ?_
  by_cases v : vld l = true
  · have hv := vld_iff.1 v
    have h0 := sm_nonneg hv.2.1
    rw [if_pos v]
    have el : longV l = sm l := if_pos v
    refine Ev.congr (fun k => if_pos v) (Ev.bind (wave_Long_ev hw hl) ?_)
    rw [el]
    have hbad : Ev (fun k => glitch_Insert.j0 k l a t (sm l) true) ([], 2) := Ev.step (f := fun _ => some ([], 2)) (fun k => by simp only [glitch_Insert.j0]; rfl) (Ev.now _)
    by_cases g : a < 0 ∨ sm l < a ∨ t < 1 ∨ sm l - a < t
    · rw [if_pos g]
      by_cases g1 : a < 0
      · exact Ev.congr (fun k => if_pos g1) hbad
      · refine Ev.congr (fun k => if_neg g1) ?_
        by_cases g2 : a > sm l
        · exact Ev.congr (fun k => if_pos g2) hbad
        · refine Ev.congr (fun k => if_neg g2) ?_
          by_cases g3 : t < 1
          · exact Ev.congr (fun k => if_pos g3) hbad
          · refine Ev.congr (fun k => if_neg g3) ?_
            rw [w64 (x := sm l - a) (by omega) (by omega), decide_eq_true (by omega)]
            exact hbad
    · rw [if_neg g]
      refine Ev.congr (fun k => (if_neg (by omega)).trans ((if_neg (by omega)).trans (if_neg (by omega)))) ?_
      rw [w64 (x := sm l - a) (by omega) (by omega), decide_eq_false (by omega)]
      have ew : wrap64 (a + t) = a + t := w64 (by omega) (by omega)
      have hp := parts_sm hv.2.1 g
      have o1 := sliceV_wf l 0 a
      have o2 := sliceV_wf l a (a + t)
      have o3 := sliceV_wf l (a + t) (sm l)
      have v2 := o2.2.2 v
      have f1 : sliceV l 0 a = slF 0 a 0 l := if_pos v
      have f2 : sliceV l a (a + t) = slF a (a + t) 0 l := if_pos v
      have f3 : sliceV l (a + t) (sm l) = slF (a + t) (sm l) 0 l := if_pos v
      have s1 : RunsOk (slF 0 a 0 l) := slF_ok hv.2.1
      have s2 : RunsOk (slF a (a + t) 0 l) := slF_ok hv.2.1
      have s3 : RunsOk (slF (a + t) (sm l) 0 l) := slF_ok hv.2.1
      have n1 := slF_len l 0 a 0
      have n2 := slF_len l a (a + t) 0
      have n3 := slF_len l (a + t) (sm l) 0
      have c1 := wave_Slice_ev (a := 0) (b := a) hw hl (by omega)
      have c2 := wave_Slice_ev (a := a) (b := a + t) hw hl (by omega)
      have c3 := wave_Slice_ev (a := a + t) (b := sm l) hw hl (by omega)
      have c4 := wave_Invert_ev o2.1 (by omega)
      have f4 : invV (sliceV l a (a + t)) = (slF a (a + t) 0 l).map invR := by
        unfold invV
        rw [if_pos v2, f2]
      rw [f4] at c4
      rw [f1] at c1
      rw [f2] at c2 c4
      rw [f3] at c3
      have hnil : Tk ([] : List S48) := fun y hy => by simp at hy
      have i2 := inv_sm (slF a (a + t) 0 l)
      have p1 := Insert_put_ev (part := slF 0 a 0 l) (o := []) hnil s1.tk (by simp only [sm]; omega) (by omega) (by simp only [List.length_nil]; omega)
      have m1 := cln_sm (slF 0 a 0 l) []
      have l1 := cln_len (slF 0 a 0 l) []
      simp only [sm, List.length_nil] at m1 l1
      have p2 := Insert_put_ev (part := (slF a (a + t) 0 l).map invR) (o := cln [] (slF 0 a 0 l)) (cln_tk _ hnil s1.tk) (invL_ok s2).tk (by omega) (by rw [List.length_map]; omega) (by rw [List.length_map]; omega)
      have m2 := cln_sm ((slF a (a + t) 0 l).map invR) (cln [] (slF 0 a 0 l))
      have l2 := cln_len ((slF a (a + t) 0 l).map invR) (cln [] (slF 0 a 0 l))
      rw [List.length_map] at l2
      have p3 := Insert_put_ev (part := slF (a + t) (sm l) 0 l) (o := cln (cln [] (slF 0 a 0 l)) ((slF a (a + t) 0 l).map invR)) (cln_tk _ (cln_tk _ hnil s1.tk) (invL_ok s2).tk) s3.tk (by omega) (by omega) (by omega)
      have er : cln (cln (cln [] (slF 0 a 0 l)) ((slF a (a + t) 0 l).map invR)) (slF (a + t) (sm l) 0 l) = jn (insL l a t) := by
        rw [← cln_jn]
        unfold insL
        rw [cln_app, cln_app]
      rw [er] at p3
      clear m1 m2 l1 l2 er i2 hnil n1 n2 n3 s1 s2 s3 o1 o2 o3 hp f1 f2 f3 f4 v2 hbad el h0 hv ha' ht' ha ht hl hw g
      refine Ev.step (f := fun k => (wave_Slice.f k l 0 a).bind fun t177 => ((glitch_Insert_put.f k t177 []).bind fun t180 => ((wave_Slice.f k l a (a + t)).bind fun t183 => ((wave_Invert.f k t183).bind fun t186 => ((glitch_Insert_put.f k t186 t180).bind fun t189 => ((wave_Slice.f k l (a + t) (sm l)).bind fun t192 => ((glitch_Insert_put.f k t192 t189).bind fun t195 => (if (t195.length : Int) > 262144 then (some ([], 6)) else (some (t195, 0)))))))))) (fun k => ?_) (Ev.bind c1 (Ev.bind p1 (Ev.bind c2 (Ev.bind c4 (Ev.bind p2 (Ev.bind c3 (Ev.bind p3 ?_)))))))
      · simp only [glitch_Insert.j0]
        rw [ew, if_neg (by decide)]
      · by_cases c6 : 262144 < (jn (insL l a t)).length
        · rw [if_pos c6]
          exact Ev.congr (fun k => if_pos (by omega)) (Ev.now _)
        · rw [if_neg c6]
          exact Ev.congr (fun k => if_neg (by omega)) (Ev.now _)
  · rw [if_neg v]
    exact Ev.congr (fun k => if_neg v) (Ev.now _)
def spl (a t : Int) : List S48 → List S48
  | [] => []
  | x :: r => if x.f1 ≤ a then x :: spl (a - x.f1) t r else ⟨x.f0, a⟩ :: ⟨1 - x.f0, t⟩ :: ⟨x.f0, x.f1 - a - t⟩ :: r
def FarC (b t : Int) : Int → Int → List S48 → Prop
  | _, _, [] => False
  | m, a, x :: r => if x.f1 ≤ a then FarC b t b (a - x.f1) r else m ≤ a ∧ (if r = [] then 1 else b) ≤ x.f1 - a - t
theorem spl_cons (a t : Int) : ∀ (x : S48) (r : List S48), ∃ y m, spl a t (x :: r) = y :: m ∧ y.f0 = x.f0 := by
  intro x r
  unfold spl
  split
  · exact ⟨_, _, rfl, rfl⟩
  · exact ⟨_, _, rfl, rfl⟩
theorem far_some {b t m a : Int} {l : List S48} (h : FarC b t m a l) : ∃ x r, l = x :: r := by
  cases l with
  | nil => exact h.elim
  | cons x r => exact ⟨x, r, rfl⟩
theorem spl_ok {b t : Int} (hb : 1 ≤ b) (ht : 1 ≤ t) : ∀ {l : List S48} {m a : Int}, 1 ≤ m → FarC b t m a l → RunsOk l → RunsOk (spl a t l) ∧ sm (spl a t l) = sm l
  | [], m, a, hm, h, hw => h.elim
  | x :: r, m, a, hm, h, hw => by
    have hx := hw.cons
    unfold FarC at h
    unfold spl
    by_cases c : x.f1 ≤ a
    · rw [if_pos c] at h ⊢
      obtain ⟨h1, h2⟩ := spl_ok hb ht hb h hx.2
      refine ⟨fun y hy => ?_, by simp only [sm]; rw [h2]⟩
      rcases List.mem_cons.1 hy with rfl | hy
      · exact hx.1
      · exact h1 y hy
    · rw [if_neg c] at h ⊢
      have hc : 1 ≤ x.f1 - a - t := by
        have := h.2
        split at this <;> omega
      refine ⟨fun y hy => ?_, by simp only [sm]; omega⟩
      rcases List.mem_cons.1 hy with rfl | hy
      · exact ⟨hx.1.1, by simp only; omega⟩
      · rcases List.mem_cons.1 hy with rfl | hy
        · refine ⟨?_, ht⟩
          simp only
          have := hx.1.1
          omega
        · rcases List.mem_cons.1 hy with rfl | hy
          · exact ⟨hx.1.1, hc⟩
          · exact hx.2 y hy
theorem spl_apartF {b t : Int} : ∀ {l : List S48} {m a p : Int}, FarC b t m a l → RunsOk l → apartF p l → apartF p (spl a t l)
  | [], m, a, p, h, hw, hp => h.elim
  | x :: r, m, a, p, h, hw, hp => by
    have hx := hw.cons
    unfold FarC at h
    unfold spl
    unfold apartF at hp
    by_cases c : x.f1 ≤ a
    · rw [if_pos c] at h ⊢
      exact ⟨hp.1, spl_apartF h hx.2 hp.2⟩
    · rw [if_neg c]
      have := hx.1.1
      refine ⟨hp.1, ?_, ?_, hp.2⟩ <;> (simp only; omega)
theorem spl_apart {b t m a : Int} {l : List S48} (h : FarC b t m a l) (hw : RunsOk l) (hp : apart l) : apart (spl a t l) := by
  cases l with
  | nil => exact h.elim
  | cons x r =>
    have hx := hw.cons
    have hp' : apartF x.f0 r := hp
    unfold FarC at h
    unfold spl
    by_cases c : x.f1 ≤ a
    · rw [if_pos c] at h ⊢
      exact spl_apartF h hx.2 hp'
    · rw [if_neg c]
      have := hx.1.1
      refine ⟨?_, ?_, hp'⟩ <;> (simp only; omega)
theorem spl_at {b t : Int} (hb : 1 ≤ b) (ht : 1 ≤ t) : ∀ {l : List S48} {m a u : Int}, 1 ≤ m → FarC b t m a l → RunsOk l → 0 ≤ u → 0 ≤ a → atS (spl a t l) u = if a ≤ u ∧ u < a + t then flipA (atS l u) else atS l u
  | [], m, a, u, hm, h, hw, hu, ha => h.elim
  | x :: r, m, a, u, hm, h, hw, hu, ha => by
    have hx := hw.cons
    unfold FarC at h
    unfold spl
    by_cases c : x.f1 ≤ a
    · rw [if_pos c] at h ⊢
      simp only [atS]
      by_cases cu : u < x.f1
      · rw [if_pos cu, if_neg (by omega), if_pos cu]
      · rw [if_neg cu, if_neg cu, spl_at hb ht hb h hx.2 (by omega) (by omega)]
        by_cases c2 : a ≤ u ∧ u < a + t
        · rw [if_pos (by omega), if_pos c2]
        · rw [if_neg (by omega), if_neg c2]
    · rw [if_neg c] at h ⊢
      have hc : 1 ≤ x.f1 - a - t := by
        have := h.2
        split at this <;> omega
      simp only [atS]
      by_cases c1 : u < a
      · rw [if_pos c1, if_neg (by omega), if_pos (by omega)]
      · rw [if_neg c1]
        by_cases c2 : u - a < t
        · rw [if_pos c2, if_pos (by omega), if_pos (by omega)]
          rfl
        · rw [if_neg c2, if_neg (show ¬ (a ≤ u ∧ u < a + t) by omega)]
          by_cases c3 : u < x.f1
          · rw [if_pos (by omega), if_pos c3]
          · rw [if_neg (by omega), if_neg c3, show u - a - t - (x.f1 - a - t) = u - x.f1 by omega]
theorem cntM_tail {b : Int} {x : S48} {r : List S48} (h : cntM b (x :: r) = 0) : cntM b r = 0 ∧ (r ≠ [] → b ≤ x.f1) := by
  cases r with
  | nil => exact ⟨rfl, fun h => absurd rfl h⟩
  | cons z r =>
    unfold cntM at h
    have := (cntM_bound b (z :: r)).1
    split at h
    · omega
    · exact ⟨by omega, fun _ => by omega⟩
theorem cntM_two {b : Int} {x z : S48} {r : List S48} : cntM b (x :: z :: r) = (if x.f1 < b then 1 else 0) + cntM b (z :: r) := rfl
theorem spl_cnt {b t : Int} (hb : 1 ≤ b) (htb : t < b) : ∀ {l : List S48} {a : Int}, FarC b t b a l → cntM b l = 0 → cntM b (spl a t l) = 1 ∧ ∀ p, flt b p (spl a t l) = p :: l
  | [], a, h, h0 => h.elim
  | x :: r, a, h, h0 => by
    obtain ⟨h1, h2⟩ := cntM_tail h0
    unfold FarC at h
    unfold spl
    by_cases c : x.f1 ≤ a
    · rw [if_pos c] at h ⊢
      obtain ⟨y, q, rfl⟩ := far_some h
      have hxb := h2 (by simp)
      obtain ⟨i1, i2⟩ := spl_cnt hb htb h h1
      obtain ⟨z, m, e, _⟩ := spl_cons (a - x.f1) t y q
      refine ⟨?_, fun p => ?_⟩
      · rw [e] at i1 ⊢
        rw [cntM_two, if_neg (by omega), i1]
        rfl
      · have i3 := i2 x
        rw [e] at i3 ⊢
        rw [flt, if_neg (by omega), i3]
    · rw [if_neg c] at h ⊢
      refine ⟨?_, fun p => ?_⟩
      · have h10 := h.1
        rw [cntM_two, cntM_two, if_neg (show ¬ a < b by omega), if_pos htb]
        cases r with
        | nil => rfl
        | cons z q =>
          have := h.2
          rw [if_neg (by simp)] at this
          rw [cntM_two, if_neg (by simp only; omega), h1]
          rfl
      · rw [flt, if_neg (by simp only; omega), flt, if_pos htb]
        have e : (⟨x.f0, a + (t + (x.f1 - a - t))⟩ : S48) = x := by
          rw [show a + (t + (x.f1 - a - t)) = x.f1 by omega]
        simp only
        rw [e, flt_id b r x h1]
theorem spl_first {b t a : Int} (hb : 1 ≤ b) (htb : t < b) {l : List S48} (h : FarC b t 1 a l) (h0 : cntF b l = 0) : cntF b (spl a t l) = 1 ∧ filt b (spl a t l) = l := by
  cases l with
  | nil => exact h.elim
  | cons x r =>
    have h1 : cntM b r = 0 := h0
    unfold FarC at h
    unfold spl
    by_cases c : x.f1 ≤ a
    · rw [if_pos c] at h ⊢
      obtain ⟨i1, i2⟩ := spl_cnt hb htb h h1
      exact ⟨i1, i2 x⟩
    · rw [if_neg c] at h ⊢
      refine ⟨?_, ?_⟩
      · show cntM b (_ :: _ :: r) = 1
        rw [cntM_two, if_pos htb]
        cases r with
        | nil => rfl
        | cons z q =>
          have := h.2
          rw [if_neg (by simp)] at this
          rw [cntM_two, if_neg (by simp only; omega), h1]
          rfl
      · show flt b _ (_ :: _ :: r) = x :: r
        rw [flt, if_pos htb]
        have e : (⟨x.f0, a + (t + (x.f1 - a - t))⟩ : S48) = x := by
          rw [show a + (t + (x.f1 - a - t)) = x.f1 by omega]
        simp only
        rw [e, flt_id b r x h1]
def farE (a t b e : Int) : Prop := ¬ (e ≤ a ∧ a - e < b) ∧ ¬ (e > a ∧ e - a < t) ∧ ¬ (e > a ∧ e - a - t < b)
theorem far_of {b t a : Int} (hb : 1 ≤ b) (ht : 1 ≤ t) : ∀ (r : List S48) (x : S48) (m s : Int), RunsOk (x :: r) → s ≤ a → m ≤ a - s → a + t + 1 ≤ s + sm (x :: r) → (∀ e ∈ bgF (s + x.f1) r, farE a t b e) → FarC b t m (a - s) (x :: r)
  | [], x, m, s, hw, h0, hm, hs, h => by
    simp only [sm] at hs
    unfold FarC
    rw [if_neg (by omega), if_pos rfl]
    exact ⟨hm, by omega⟩
  | y :: r, x, m, s, hw, h0, hm, hs, h => by
    have hx := hw.cons
    have he := h (s + x.f1) (by simp [bgF])
    simp only [sm] at hs
    unfold FarC
    unfold farE at he
    by_cases c : x.f1 ≤ a - s
    · rw [if_pos c]
      have ih := far_of hb ht r y b (s + x.f1) hx.2 (by omega) (by omega) (by simp only [sm]; omega) (fun e h1 => h e (by
        simp only [bgF]
        exact List.mem_cons_of_mem _ h1))
      rw [show a - s - x.f1 = a - (s + x.f1) by omega]
      exact ih
    · rw [if_neg c, if_neg (by simp)]
      exact ⟨hm, by omega⟩
theorem glitch_gone {l : List S48} {a t b : Int} (v : vld l = true) (hb : 1 ≤ b) (htb : t < b) (h0 : countV l b = 0) (ha : 1 ≤ a) (ht : 1 ≤ t) (hs : a + t + 1 ≤ sm l) (he : ∀ e ∈ eds l, farE a t b e) (hl : l.length ≤ 40) :
    ∃ m, insV l a t = (m, 0) ∧ vld m = true ∧ countV m b = 1 ∧ filV m b = cleanV l := by
  have hv := vld_iff.1 v
  have ec : cleanV l = jn l := if_pos v
  have hw := jn_ok hv.2.1
  have hap := jn_apart l
  have hsm := jn_sm l
  rw [← bgs_jn] at he
  have hF : FarC b t 1 a (jn l) := by
    generalize jn l = c at hw hap hsm he
    cases c with
    | nil =>
      simp only [sm] at hsm
      omega
    | cons x r =>
      have h := far_of (a := a) hb ht r x 1 0 hw (by omega) (by omega) (by omega) (fun e h1 => he e (by
        rw [Int.zero_add] at h1
        exact h1))
      rw [show a - 0 = a by omega] at h
      exact h
  have hc0 : cntF b (jn l) = 0 := by
    unfold countV at h0
    rw [ec] at h0
    exact h0
  obtain ⟨k1, k2⟩ := spl_ok hb ht (by omega) hF hw
  have k3 := spl_apart hF hw hap
  obtain ⟨k4, k5⟩ := spl_first hb htb hF hc0
  have g : ¬ (a < 0 ∨ sm l < a ∨ t < 1 ∨ sm l - a < t) := by omega
  have j1 := insL_ok a t hv.2.1
  have ej : jn (insL l a t) = spl a t (jn l) := by
    refine ext_apart _ _ (jn_ok j1) k1 (jn_apart _) k3 (fun u hu => ?_)
    rw [jn_at j1, insL_at hv.2.1 g hu, spl_at hb ht (by omega) hF hw hu (by omega), jn_at hv.2.1]
  have hlen : (spl a t (jn l)).length ≤ 262144 := by
    have h9 : ∀ (c : List S48) (a : Int), (spl a t c).length ≤ c.length + 2 := by
      intro c
      induction c with
      | nil => intro a; simp [spl]
      | cons x r ih =>
        intro a
        have := ih (a - x.f1)
        unfold spl
        split <;> simp only [List.length_cons] <;> omega
    have h1 := h9 (jn l) a
    have h2 := jn_len l
    omega
  have vm : vld (spl a t (jn l)) = true := vld_iff.2 ⟨hlen, k1, by rw [k2, hsm]; exact hv.2.2⟩
  have em : cleanV (spl a t (jn l)) = spl a t (jn l) := by
    unfold cleanV
    rw [if_pos vm, jn_of_apart k3]
  refine ⟨spl a t (jn l), ?_, vm, ?_, ?_⟩
  · unfold insV
    rw [if_pos v, if_neg g, ej, if_neg (by omega)]
  · unfold countV
    rw [em, k4]
  · unfold filV
    rw [em, k5, ec]
theorem far_l0 (a t b : Int) (ha : 1 ≤ a) (ha2 : a ≤ 1099511627776) (ht : 1 ≤ t) (ht2 : t ≤ 1099511627776) : ∀ (post pre : List Int), (∀ e ∈ post, 0 ≤ e ∧ e ≤ 1099511627776) → (pre ++ post).length ≤ 262144 →
    ∃ r : Bool, Ev (fun k => signalbenchlaw13_far.l0 k a t b (pre ++ post) (pre.length : Int)) r ∧ (r = true → ∀ e ∈ post, farE a t b e)
  | [], pre, hb, hl => by
    refine ⟨true, Ev.step (f := fun _ => some true) (fun k => ?_) (Ev.now _), fun _ e he => by simp at he⟩
    simp only [signalbenchlaw13_far.l0]
    rw [if_neg (by simp)]
  | e :: post, pre, hb, hl => by
    have hlt : (pre.length : Int) < ((pre ++ e :: post).length : Int) := midi_lt pre post e
    have hn : pre.length ≤ 9223372036854775806 := by
      simp only [List.length_append, List.length_cons] at hl
      omega
    have he := hb e (by simp)
    obtain ⟨r, h1, h2⟩ := far_l0 a t b ha ha2 ht ht2 post (pre ++ [e]) (fun x hx => hb x (by simp [hx])) (by simpa using hl)
    rw [← mid_snoc pre post e] at h1
    have hr : rd (pre ++ e :: post) (pre.length : Int) = e := rdi_mid pre post e
    have w1 : wrap64 (a - e) = a - e := w64 (by omega) (by omega)
    have w2 : wrap64 (e - a) = e - a := w64 (by omega) (by omega)
    have w3 : wrap64 (e - a - t) = e - a - t := w64 (by omega) (by omega)
    by_cases c1 : e ≤ a
    · by_cases c2 : a - e < b
      · refine ⟨false, Ev.step (f := fun _ => some false) (fun k => ?_) (Ev.now _), fun h => by cases h⟩
        simp only [signalbenchlaw13_far.l0]
        rw [if_pos hlt, if_pos (by omega), hr, if_pos c1, w1, if_pos c2]
      · refine ⟨r, Ev.step (fun k => ?_) h1, fun hh x hx => ?_⟩
        · simp only [signalbenchlaw13_far.l0]
          rw [if_pos hlt, if_pos (by omega), hr, if_pos c1, w1, if_neg c2, if_neg (by omega), succ_mid pre e hn]
        · rcases List.mem_cons.1 hx with rfl | hx
          · unfold farE
            omega
          · exact h2 hh x hx
    · by_cases c2 : e - a < t
      · refine ⟨false, Ev.step (f := fun _ => some false) (fun k => ?_) (Ev.now _), fun h => by cases h⟩
        simp only [signalbenchlaw13_far.l0]
        rw [if_pos hlt, if_pos (by omega), hr, if_neg c1, if_pos (by omega), w2, if_pos c2]
      · by_cases c3 : e - a - t < b
        · refine ⟨false, Ev.step (f := fun _ => some false) (fun k => ?_) (Ev.now _), fun h => by cases h⟩
          simp only [signalbenchlaw13_far.l0]
          rw [if_pos hlt, if_pos (by omega), hr, if_neg c1, if_pos (by omega), w2, if_neg c2, w3, if_pos c3]
        · refine ⟨r, Ev.step (fun k => ?_) h1, fun hh x hx => ?_⟩
          · simp only [signalbenchlaw13_far.l0]
            rw [if_pos hlt, if_pos (by omega), hr, if_neg c1, if_pos (by omega), w2, if_neg c2, w3, if_neg c3, succ_mid pre e hn]
          · rcases List.mem_cons.1 hx with rfl | hx
            · unfold farE
              omega
            · exact h2 hh x hx
theorem eds_facts {l : List S48} (v : vld l = true) : (∀ e ∈ eds l, 0 ≤ e ∧ e ≤ 1099511627776) ∧ (eds l).length ≤ 262144 := by
  have hv := vld_iff.1 v
  have key : ∀ (l : List S48) (p at_ : Int), RunsOk l → 0 ≤ at_ → at_ + sm l ≤ 1099511627776 → (∀ e ∈ edF p at_ l, 0 ≤ e ∧ e ≤ 1099511627776) ∧ (edF p at_ l).length ≤ l.length := by
    intro l
    induction l with
    | nil => intro p at_ _ _ _; simp [edF]
    | cons x l ih =>
      intro p at_ hw h0 h1
      have hx := hw.cons
      have hs := sm_nonneg hx.2
      simp only [sm] at h1
      obtain ⟨i1, i2⟩ := ih x.f0 (at_ + x.f1) hx.2 (by omega) (by omega)
      unfold edF
      split
      · exact ⟨i1, by simp only [List.length_cons]; omega⟩
      · refine ⟨fun e he => ?_, by simp only [List.length_cons]; omega⟩
        rcases List.mem_cons.1 he with rfl | he
        · omega
        · exact i1 e he
  cases l with
  | nil => simp [eds]
  | cons x l =>
    have hx := hv.2.1.cons
    have h2 := hv.2.2
    have h1 := hv.1
    simp only [sm] at h2
    simp only [List.length_cons] at h1
    obtain ⟨k1, k2⟩ := key l x.f0 x.f1 hx.2 (by omega) (by omega)
    exact ⟨k1, by show (edF x.f0 x.f1 l).length ≤ _; omega⟩
theorem far_ev {l : List S48} {a t b : Int} (hw : RunsWf l) (hl : l.length ≤ 140737488351232) (v : vld l = true) (hb : b ≤ 1099511627776) (hb1 : t < b) : ∃ r : Bool, Ev (fun k => signalbenchlaw13_far.f k l a t b) r ∧ (r = true → 1 ≤ a ∧ 1 ≤ t ∧ a + t + 1 ≤ sm l ∧ ∀ e ∈ eds l, farE a t b e) := by
  have hv := vld_iff.1 v
  have hlong : longV l = sm l := if_pos v
  have hs := sm_nonneg hv.2.1
  have hs2 := hv.2.2
  have bad : ∃ r : Bool, Ev (fun k => signalbenchlaw13_far.j0 k l a t b true) r ∧ (r = true → 1 ≤ a ∧ 1 ≤ t ∧ a + t + 1 ≤ sm l ∧ ∀ e ∈ eds l, farE a t b e) := by
    refine ⟨false, Ev.step (f := fun _ => some false) (fun k => ?_) (Ev.now _), fun h => by cases h⟩
    simp only [signalbenchlaw13_far.j0]
    rw [if_pos trivial]
  have hL := wave_Long_ev hw hl
  rw [hlong] at hL
  by_cases c1 : a < 1
  · obtain ⟨r, h1, h2⟩ := bad
    exact ⟨r, Ev.bind hL (Ev.congr (fun k => if_pos c1) h1), h2⟩
  · by_cases c2 : t < 1
    · obtain ⟨r, h1, h2⟩ := bad
      exact ⟨r, Ev.bind hL (Ev.congr (fun k => (if_neg c1).trans (if_pos c2)) h1), h2⟩
    · by_cases c3 : t > sm l
      · obtain ⟨r, h1, h2⟩ := bad
        exact ⟨r, Ev.bind hL (Ev.congr (fun k => (if_neg c1).trans ((if_neg c2).trans (if_pos c3))) h1), h2⟩
      · have w1 : wrap64 (sm l - t) = sm l - t := w64 (by omega) (by omega)
        have w2 : wrap64 (sm l - t - 1) = sm l - t - 1 := w64 (by omega) (by omega)
        by_cases c4 : a > sm l - t - 1
        · obtain ⟨r, h1, h2⟩ := bad
          refine ⟨r, Ev.bind hL (Ev.congr (fun k => (if_neg c1).trans ((if_neg c2).trans (if_neg c3))) ?_), h2⟩
          rw [w1, w2, decide_eq_true c4]
          exact h1
        · obtain ⟨e1, e2⟩ := eds_facts v
          obtain ⟨r, h1, h2⟩ := far_l0 a t b (by omega) (by omega) (by omega) (by omega) (eds l) [] e1 (by simpa using e2)
          have hE := wave_Edges_ev hw hl
          have ee : edsV l = eds l := if_pos v
          rw [ee] at hE
          refine ⟨r, Ev.bind hL (Ev.congr (fun k => (if_neg c1).trans ((if_neg c2).trans (if_neg c3))) ?_), fun hh => ⟨by omega, by omega, by omega, h2 hh⟩⟩
          rw [w1, w2, decide_eq_false c4]
          have h3 : Ev (fun k => (wave_Edges.f k l).bind fun t256 => (signalbenchlaw13_far.l0 k a t b t256 0)) r := Ev.bind hE h1
          refine Ev.step (fun k => ?_) h3
          simp only [signalbenchlaw13_far.j0]
          rw [if_neg Bool.false_ne_true]
theorem GlitchRemoved_pure {l : List S48} {a t b : Int} (hw : RunsWf l) (ha : (Lit.int .i64 a).wf = true) (ht : (Lit.int .i64 t).wf = true) : ∃ k, signalbenchlaw13_GlitchRemoved.f k l a t b = some true := by
  have yes : Ev (fun k => signalbenchlaw13_GlitchRemoved.j0 k l b a t true) true := by
    refine Ev.step (fun k => ?_) awake13_then
    simp only [signalbenchlaw13_GlitchRemoved.j0]
    rw [if_pos trivial]
  refine Ev.rounds (g := fun k => signalbenchlaw13_GlitchRemoved.f k l a t b) ?_
  by_cases c : 40 < l.length
  · exact Ev.congr (fun k => if_pos (by omega)) yes
  · have hl : l.length ≤ 140737488351232 := by omega
    refine Ev.congr (fun k => if_neg (by omega)) (Ev.bind (ref_Valid_ev hw hl) ?_)
    by_cases v : vld l = true
    · refine Ev.congr (fun k => if_pos v) ?_
      by_cases c1 : b < 1
      · exact Ev.congr (fun k => if_pos c1) yes
      · refine Ev.congr (fun k => if_neg c1) ?_
        by_cases c2 : b > 1099511627776
        · exact Ev.congr (fun k => if_pos c2) yes
        · refine Ev.congr (fun k => if_neg c2) ?_
          by_cases c3 : t ≥ b
          · exact Ev.congr (fun k => if_pos c3) yes
          · refine Ev.congr (fun k => if_neg c3) (Ev.bind (refCount_ev hw hl) ?_)
            by_cases c4 : countV l b = 0
            · refine Ev.congr (fun k => if_pos c4) ?_
              obtain ⟨r, h1, h2⟩ := far_ev (a := a) hw hl v (b := b) (t := t) (by omega) (by omega)
              refine Ev.bind h1 ?_
              cases r with
              | false => exact yes
              | true =>
                obtain ⟨k1, k2, k3, k4⟩ := h2 rfl
                obtain ⟨m, m1, m2, m3, m4⟩ := glitch_gone v (by omega) (by omega) c4 k1 k2 k3 k4 (by omega)
                have i1 := Insert_ev hw hl ha ht
                rw [m1] at i1
                have i2 := Count_ev (b := b) (vld_wf m2) (by have := (vld_iff.1 m2).1; omega)
                rw [m3] at i2
                have i3 := Filter_ev (b := b) (vld_wf m2) (by have := (vld_iff.1 m2).1; omega)
                rw [m4] at i3
                have i4 := same13_ev (cleanV l) (by have := (clV_len l).1; omega)
                have hh : Ev (fun k => (glitch_Insert.f k l a t).bind fun bt276 => (if bt276.2 = 0 then ((glitch_Count.f k bt276.1 b).bind fun t280 => (if t280 = 1 then ((glitch_Filter.f k bt276.1 b).bind fun t281 => ((wave_Clean.f k l).bind fun t284 => ((signalbenchlaw13_same.f k t281 t284).bind fun t287 => (if t287 = true then ((signalbenchlaw13_awake.f k).bind fun t288 => (some t288)) else (none))))) else (none))) else (none))) true :=
                  Ev.bind i1 (Ev.congr (fun k => if_pos rfl) (Ev.bind i2 (Ev.congr (fun k => if_pos rfl) (Ev.bind i3 (Ev.bind (wave_Clean_ev hw hl) (Ev.bind i4 (Ev.congr (fun k => if_pos rfl) awake13_then)))))))
                refine Ev.step (fun k => ?_) hh
                simp only [signalbenchlaw13_GlitchRemoved.j0]
                rw [Bool.not_true, if_neg Bool.false_ne_true]
            · exact Ev.congr (fun k => if_neg c4) yes
    · exact Ev.congr (fun k => if_neg v) yes
end Go.Proofs.Ytobicjobkdhelaa
