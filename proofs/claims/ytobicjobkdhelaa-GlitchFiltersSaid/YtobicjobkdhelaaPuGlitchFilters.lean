/- The law GlitchFilters as a plain statement on numbers and lists: with enough rounds it answers true; conditions: each number is one of its kind, no list or string is longer than its memory allows. -/
import Derived.Laws.BitsAllLaws
import Derived.WalkKit
import Derived.Test.YtobicjobkdhelaaWMore
import Derived.Laws.Strings
import Derived.Test.YtobicjobkdhelaaQx0
import Derived.Test.YtobicjobkdhelaaQx3
import Derived.Test.YtobicjobkdhelaaQx7
import Derived.Test.YtobicjobkdhelaaQx8
import Derived.Test.YtobicjobkdhelaaQx16
import Derived.Test.YtobicjobkdhelaaQx31
import Derived.Test.YtobicjobkdhelaaQx32
import Derived.Test.YtobicjobkdhelaaQx33
import Derived.Test.YtobicjobkdhelaaQx39
import Derived.Test.YtobicjobkdhelaaQx41
namespace Go.Proofs.Ytobicjobkdhelaa
open Go Go.RowKit Go.Proofs.YtobicjobkdhelaaW.PrintWords Go.Proofs.YtobicjobkdhelaaW.PrintLast Go.Proofs.Ytobicjobkdhelaa.Q
set_option linter.unusedVariables false
theorem w64 {x : Int} (h0 : -9223372036854775808 ≤ x) (h1 : x ≤ 9223372036854775807) : wrap64 x = x := by
  unfold wrap64
  omega
theorem wf64 {x : Int} (h : (Lit.int .i64 x).wf = true) : -9223372036854775808 ≤ x ∧ x ≤ 9223372036854775807 := by
  simp [Lit.wf, IntKind.min, IntKind.max, IntKind.bits, IntKind.signed] at h
  omega
theorem andNot1 {a : Int} (h : (Lit.int .i64 a).wf = true) : Go.bits .andNot .i64 a 1 = 0 ↔ a = 0 ∨ a = 1 := by
  have hw := wf64 h
  have e1 : Go.bits .andNot .i64 a 1 = IntKind.i64.wrap (((BitVec.ofInt 64 a &&& ~~~BitVec.ofInt 64 1).toNat : Nat) : Int) := rfl
  have e2 : (BitVec.ofInt 64 a &&& ~~~BitVec.ofInt 64 1).toNat = (BitVec.ofInt 64 a).toNat &&& 18446744073709551614 := by
    rw [BitVec.toNat_and]
    rfl
  have e3 : ((BitVec.ofInt 64 a).toNat : Int) = a % 18446744073709551616 := by
    rw [BitVec.toNat_ofInt]
    omega
  rw [e1, e2, nat_hi64_1, IntKind.wrap_i64]
  omega
theorem succ_mid {α : Type} (pre : List α) (x : α) (h : pre.length ≤ 9223372036854775806) : wrap64 ((pre.length : Int) + 1) = ((pre ++ [x]).length : Int) := by
  rw [w64 (by omega) (by omega)]
  simp
theorem wrap01 : wrap64 (0 + 1) = 1 := by
  unfold wrap64
  rfl
theorem mid_snoc {α : Type} (pre post : List α) (x : α) : pre ++ x :: post = (pre ++ [x]) ++ post := by simp
def sm : List S48 → Int
  | [] => 0
  | x :: l => x.f1 + sm l
def vldF (left : Int) : List S48 → Bool
  | [] => true
  | x :: l => if (x.f0 = 0 ∨ x.f0 = 1) ∧ 1 ≤ x.f1 ∧ x.f1 ≤ left then vldF (left - x.f1) l else false
def vld (l : List S48) : Bool := if l.length ≤ 262144 then vldF 1099511627776 l else false
def RunWf (x : S48) : Prop := (Lit.int .i64 x.f0).wf = true ∧ (Lit.int .i64 x.f1).wf = true
def RunsWf (l : List S48) : Prop := ∀ x ∈ l, RunWf x
def RunsOk (l : List S48) : Prop := ∀ x ∈ l, (x.f0 = 0 ∨ x.f0 = 1) ∧ 1 ≤ x.f1
theorem rd_mid (pre post : List S48) (x : S48) : rd_T48 (pre ++ x :: post) (pre.length : Int) = x := by simp [rd_T48, List.getD]
theorem mid_lt (pre post : List S48) (x : S48) : (pre.length : Int) < ((pre ++ x :: post).length : Int) := by
  simp only [List.length_append, List.length_cons]
  omega
theorem sm_nonneg : ∀ {l : List S48}, RunsOk l → 0 ≤ sm l
  | [], _ => Int.le_refl _
  | x :: l, h => by
    have h1 := h x (by simp)
    have h2 := sm_nonneg (l := l) (fun y hy => h y (by simp [hy]))
    simp only [sm]
    omega
theorem vldF_iff : ∀ {l : List S48} {left : Int}, 0 ≤ left → (vldF left l = true ↔ RunsOk l ∧ sm l ≤ left)
  | [], left, h => by simp [vldF, RunsOk, sm, h]
  | x :: l, left, h => by
    unfold vldF
    by_cases c : (x.f0 = 0 ∨ x.f0 = 1) ∧ 1 ≤ x.f1 ∧ x.f1 ≤ left
    · rw [if_pos c, vldF_iff (l := l) (by omega)]
      simp only [RunsOk, sm, List.mem_cons, forall_eq_or_imp]
      constructor
      · rintro ⟨h1, h2⟩
        exact ⟨⟨⟨c.1, c.2.1⟩, h1⟩, by omega⟩
      · rintro ⟨⟨h1, h2⟩, h3⟩
        exact ⟨h2, by omega⟩
    · rw [if_neg c]
      simp only [Bool.false_eq_true, false_iff]
      rintro ⟨h1, h2⟩
      have h3 := h1 x (by simp)
      have h4 := sm_nonneg (l := l) (fun y hy => h1 y (by simp [hy]))
      simp only [sm] at h2
      exact c ⟨h3.1, h3.2, by omega⟩
theorem vld_iff {l : List S48} : vld l = true ↔ l.length ≤ 262144 ∧ RunsOk l ∧ sm l ≤ 1099511627776 := by
  unfold vld
  by_cases c : l.length ≤ 262144
  · rw [if_pos c, vldF_iff (by omega)]
    simp [c]
  · rw [if_neg c]
    simp [c]
theorem RunsOk.cons {x : S48} {l : List S48} (h : RunsOk (x :: l)) : ((x.f0 = 0 ∨ x.f0 = 1) ∧ 1 ≤ x.f1) ∧ RunsOk l := ⟨h x (by simp), fun y hy => h y (by simp [hy])⟩
theorem RunsOk.left {a b : List S48} (h : RunsOk (a ++ b)) : RunsOk a := fun x hx => h x (List.mem_append_left _ hx)
theorem wave_Valid_l0 : ∀ (post pre : List S48) (left : Int), 0 ≤ left → left ≤ 1099511627776 → RunsWf post → (pre ++ post).length ≤ 140737488351232 →
    Ev (fun k => wave_Valid.l0 k left (pre ++ post) ((pre ++ post).length : Int) (pre.length : Int)) (vldF left post)
  | [], pre, left, h0, h1, hw, hl => by
    refine Ev.step (f := fun _ => some true) (fun k => ?_) (Ev.now _)
    simp only [wave_Valid.l0]
    rw [if_neg (by simp)]
  | x :: post, pre, left, h0, h1, hw, hl => by
    have hx := hw x (by simp)
    have hlt := mid_lt pre post x
    have hn : pre.length ≤ 9223372036854775806 := by
      simp only [List.length_append, List.length_cons] at hl
      omega
    by_cases c : (x.f0 = 0 ∨ x.f0 = 1) ∧ 1 ≤ x.f1 ∧ x.f1 ≤ left
    · have ih := wave_Valid_l0 post (pre ++ [x]) (left - x.f1) (by omega) (by omega) (fun y hy => hw y (by simp [hy])) (by simpa using hl)
      rw [← mid_snoc] at ih
      rw [vldF, if_pos c]
      refine Ev.step (fun k => ?_) ih
      simp only [wave_Valid.l0]
      rw [rd_mid, if_pos hlt, if_pos (by omega), if_pos hlt, if_pos ((andNot1 hx.1).2 c.1), if_neg (by omega), if_neg (by omega), w64 (by omega) (by omega), succ_mid _ _ hn]
    · rw [vldF, if_neg c]
      refine Ev.step (f := fun _ => some false) (fun k => ?_) (Ev.now _)
      simp only [wave_Valid.l0]
      rw [rd_mid, if_pos hlt, if_pos (by omega), if_pos hlt]
      by_cases c1 : x.f0 = 0 ∨ x.f0 = 1
      · rw [if_pos ((andNot1 hx.1).2 c1)]
        by_cases c2 : x.f1 < 1
        · rw [if_pos c2]
        · rw [if_neg c2, if_pos (by
            have : ¬ (1 ≤ x.f1 ∧ x.f1 ≤ left) := fun h => c ⟨c1, h⟩
            omega)]
      · rw [if_neg (fun h => c1 ((andNot1 hx.1).1 h))]
theorem wave_Valid_ev {l : List S48} (hw : RunsWf l) (hl : l.length ≤ 140737488351232) : Ev (fun k => wave_Valid.f k l) (vld l) := by
  unfold vld
  by_cases c : l.length ≤ 262144
  · rw [if_pos c]
    refine Ev.congr (fun k => ?_) (wave_Valid_l0 l [] 1099511627776 (by omega) (by omega) hw (by simpa using hl))
    unfold wave_Valid.f
    rw [if_neg (by omega)]
    rfl
  · rw [if_neg c]
    refine Ev.congr (fun k => ?_) (Ev.now _)
    unfold wave_Valid.f
    rw [if_pos (by omega)]
theorem ref_Valid_l0 : ∀ (post pre : List S48) (s : Int), 0 ≤ s → s ≤ 1099511627776 → RunsWf post → (pre ++ post).length ≤ 140737488351232 →
    Ev (fun k => signalbenchref08_Valid.l0 k (pre ++ post) s (pre.length : Int)) (vldF (1099511627776 - s) post)
  | [], pre, s, h0, h1, hw, hl => by
    refine Ev.step (f := fun _ => some true) (fun k => ?_) (Ev.now _)
    simp only [signalbenchref08_Valid.l0]
    rw [if_neg (by simp)]
  | x :: post, pre, s, h0, h1, hw, hl => by
    have hx := hw x (by simp)
    have hx1 := wf64 hx.2
    have hlt := mid_lt pre post x
    have hn : pre.length ≤ 9223372036854775806 := by
      simp only [List.length_append, List.length_cons] at hl
      omega
    by_cases c1 : x.f0 = 0 ∨ x.f0 = 1
    · have e0 : ∀ k, signalbenchref08_Valid.l0 (k + 1) (pre ++ x :: post) s (pre.length : Int) = signalbenchref08_Valid.j1 k (pre ++ x :: post) s (pre.length : Int) false := by
        intro k
        simp only [signalbenchref08_Valid.l0]
        rw [rd_mid, if_pos hlt, if_pos (by omega)]
        rcases c1 with c1 | c1
        · rw [if_pos c1]
        · rw [if_neg (by omega), c1]
          rfl
      refine Ev.step e0 ?_
      by_cases c : 1 ≤ x.f1 ∧ x.f1 ≤ 1099511627776 - s
      · have ih := ref_Valid_l0 post (pre ++ [x]) (s + x.f1) (by omega) (by omega) (fun y hy => hw y (by simp [hy])) (by simpa using hl)
        rw [← mid_snoc] at ih
        rw [vldF, if_pos ⟨c1, c⟩]
        have e1 : 1099511627776 - (s + x.f1) = 1099511627776 - s - x.f1 := by omega
        rw [e1] at ih
        refine Ev.step (fun k => ?_) ih
        simp only [signalbenchref08_Valid.j1]
        rw [rd_mid, if_neg (by simp), if_pos (by omega), if_pos hlt, if_neg (by omega), if_neg (by rw [w64 (by omega) (by omega)]; omega), w64 (by omega) (by omega), succ_mid _ _ hn]
      · rw [vldF, if_neg (fun h => c h.2)]
        refine Ev.step (f := fun _ => some false) (fun k => ?_) (Ev.now _)
        simp only [signalbenchref08_Valid.j1]
        rw [rd_mid, if_neg (by simp), if_pos (by omega), if_pos hlt]
        by_cases c2 : x.f1 < 1
        · rw [if_pos c2]
        · rw [if_neg c2, if_pos (by rw [w64 (by omega) (by omega)]; omega)]
    · rw [vldF, if_neg (fun h => c1 h.1)]
      refine Ev.step (f := fun k => signalbenchref08_Valid.j1 k (pre ++ x :: post) s (pre.length : Int) true) (fun k => ?_) (Ev.step (f := fun _ => some false) (fun k => ?_) (Ev.now _))
      · simp only [signalbenchref08_Valid.l0]
        rw [rd_mid, if_pos hlt, if_pos (by omega), if_neg (by omega)]
        congr 1
        simp
        omega
      · simp only [signalbenchref08_Valid.j1]
        rw [if_pos trivial]
theorem ref_Valid_ev {l : List S48} (hw : RunsWf l) (hl : l.length ≤ 140737488351232) : Ev (fun k => signalbenchref08_Valid.f k l) (vld l) := by
  unfold vld
  by_cases c : l.length ≤ 262144
  · rw [if_pos c]
    have h := ref_Valid_l0 l [] 0 (by omega) (by omega) hw (by simpa using hl)
    refine Ev.congr (fun k => ?_) h
    unfold signalbenchref08_Valid.f
    rw [if_neg (by omega)]
    rfl
  · rw [if_neg c]
    refine Ev.congr (fun k => ?_) (Ev.now _)
    unfold signalbenchref08_Valid.f
    rw [if_pos (by omega)]
def longV (l : List S48) : Int := if vld l = true then sm l else 0
theorem wave_sum_l0 : ∀ (post pre : List S48) (s : Int), 0 ≤ s → s + sm post ≤ 4611686018427387904 → RunsOk post → (pre ++ post).length ≤ 140737488351232 →
    Ev (fun k => wave_sum.l0 k s (pre ++ post) ((pre ++ post).length : Int) (pre.length : Int)) (s + sm post)
  | [], pre, s, h0, h1, hw, hl => by
    refine Ev.step (f := fun _ => some s) (fun k => ?_) ?_
    · simp only [wave_sum.l0]
      rw [if_neg (by simp)]
    · simp only [sm, Int.add_zero]
      exact Ev.now _
  | x :: post, pre, s, h0, h1, hw, hl => by
    have hx := hw.cons
    have hs := sm_nonneg hx.2
    simp only [sm] at h1
    have hlt := mid_lt pre post x
    have hn : pre.length ≤ 9223372036854775806 := by
      simp only [List.length_append, List.length_cons] at hl
      omega
    have ih := wave_sum_l0 post (pre ++ [x]) (s + x.f1) (by omega) (by omega) hx.2 (by simpa using hl)
    rw [← mid_snoc] at ih
    have e1 : s + sm (x :: post) = s + x.f1 + sm post := by
      simp only [sm]
      omega
    rw [e1]
    refine Ev.step (fun k => ?_) ih
    simp only [wave_sum.l0]
    rw [rd_mid, if_pos hlt, if_pos (by omega), if_pos hlt, w64 (x := s + x.f1) (by omega) (by omega), succ_mid _ _ hn]
theorem wave_sum_ev {l : List S48} (hw : RunsOk l) (hs : sm l ≤ 4611686018427387904) (hl : l.length ≤ 140737488351232) : Ev (fun k => wave_sum.f k l) (sm l) := by
  have h := wave_sum_l0 l [] 0 (by omega) (by omega) hw (by simpa using hl)
  rw [Int.zero_add] at h
  exact Ev.congr (fun k => rfl) h
theorem wave_Long_ev {l : List S48} (hw : RunsWf l) (hl : l.length ≤ 140737488351232) : Ev (fun k => wave_Long.f k l) (longV l) := by
  unfold longV
  refine Ev.bind (wave_Valid_ev hw hl) ?_
  by_cases v : vld l = true
  · simp only [if_pos v]
    have hv := vld_iff.1 v
    exact Ev.bind (wave_sum_ev hv.2.1 (by omega) hl) (Ev.now _)
  · simp only [if_neg v]
    exact Ev.now _
def jnc (x : S48) : List S48 → List S48
  | [] => [x]
  | y :: l => if x.f0 = y.f0 then jnc ⟨x.f0, x.f1 + y.f1⟩ l else x :: jnc y l
def jn : List S48 → List S48
  | [] => []
  | x :: l => jnc x l
theorem last_at (o : List S48) (x : S48) (h : o.length ≤ 9223372036854775806) : wrap64 (((o ++ [x]).length : Int) - 1) = (o.length : Int) := by
  rw [w64 (by simp only [List.length_append, List.length_cons, List.length_nil]; omega) (by simp only [List.length_append, List.length_cons, List.length_nil]; omega)]
  simp
theorem rd_last (o : List S48) (x : S48) : rd_T48 (o ++ [x]) (o.length : Int) = x := rd_mid o [] x
theorem set_last (o : List S48) (x y : S48) : (o ++ [x]).set ((o.length : Int)).toNat y = o ++ [y] := by
  rw [Int.toNat_natCast, List.set_append_right _ _ (Nat.le_refl _), Nat.sub_self]
  rfl
theorem snoc_pos (o : List S48) (x : S48) : ((o ++ [x]).length : Int) > 0 := by
  simp only [List.length_append, List.length_cons, List.length_nil]
  omega
theorem last_lt (o : List S48) (x : S48) : (o.length : Int) < ((o ++ [x]).length : Int) := mid_lt o [] x
theorem wave_joined_l0 : ∀ (post pre o : List S48) (x : S48), 0 ≤ x.f1 → x.f1 + sm post ≤ 4611686018427387904 → RunsOk post → (pre ++ post).length ≤ 140737488351232 → o.length + post.length ≤ 4398046511104 →
    Ev (fun k => wave_joined.l0 k (o ++ [x]) (pre ++ post) ((pre ++ post).length : Int) (pre.length : Int)) (o ++ jnc x post)
  | [], pre, o, x, h0, h1, hw, hl, ho => by
    refine Ev.step (f := fun _ => some (o ++ [x])) (fun k => ?_) (Ev.now _)
    simp only [wave_joined.l0]
    rw [if_neg (by simp)]
  | y :: post, pre, o, x, h0, h1, hw, hl, ho => by
    have hy := hw.cons
    have hs := sm_nonneg hy.2
    simp only [sm] at h1
    simp only [List.length_cons] at ho
    have hlt := mid_lt pre post y
    have hn : pre.length ≤ 9223372036854775806 := by
      simp only [List.length_append, List.length_cons] at hl
      omega
    by_cases c : x.f0 = y.f0
    · have ih := wave_joined_l0 post (pre ++ [y]) o ⟨x.f0, x.f1 + y.f1⟩ (by simp only; omega) (by simp only; omega) hy.2 (by simpa using hl) (by omega)
      rw [← mid_snoc pre post y] at ih
      rw [jnc, if_pos c]
      refine Ev.step (fun k => ?_) ih
      simp only [wave_joined.l0]
      rw [rd_mid, if_pos hlt, if_pos (by omega), if_pos hlt, if_pos (snoc_pos o x), last_at o x (by omega), if_pos (by omega), if_pos (last_lt o x), rd_last, if_pos c, set_last, w64 (x := x.f1 + y.f1) (by omega) (by omega), succ_mid pre y hn]
    · have ih := wave_joined_l0 post (pre ++ [y]) (o ++ [x]) y (by omega) (by omega) hy.2 (by simpa using hl) (by simp only [List.length_append, List.length_cons, List.length_nil]; omega)
      rw [← mid_snoc pre post y] at ih
      rw [jnc, if_neg c, show o ++ x :: jnc y post = (o ++ [x]) ++ jnc y post by simp]
      refine Ev.step (fun k => ?_) ih
      simp only [wave_joined.l0]
      rw [rd_mid, if_pos hlt, if_pos (by omega), if_pos hlt, if_pos (snoc_pos o x), last_at o x (by omega), if_pos (by omega), if_pos (last_lt o x), rd_last, if_neg c, if_pos (by simp only [List.length_append, List.length_cons, List.length_nil]; omega), succ_mid pre y hn]
theorem wave_joined_ev {l : List S48} (hw : RunsOk l) (hs : sm l ≤ 4611686018427387904) (hl : l.length ≤ 4398046511104) : Ev (fun k => wave_joined.f k l) (jn l) := by
  refine Ev.congr (f := fun k => wave_joined.l0 k [] l (l.length : Int) 0) (fun k => rfl) ?_
  cases l with
  | nil =>
    refine Ev.step (f := fun _ => some []) (fun k => ?_) (Ev.now _)
    simp only [wave_joined.l0]
    rw [if_neg (by simp)]
  | cons x l =>
    have hx := hw.cons
    simp only [sm] at hs
    simp only [List.length_cons] at hl
    have h := wave_joined_l0 l [x] [] x (by omega) (by omega) hx.2 (by simp; omega) (by simp; omega)
    refine Ev.step (fun k => ?_) h
    simp only [wave_joined.l0]
    have e := rd_mid [] l x
    simp only [List.nil_append, List.length_nil] at e
    have e' : rd_T48 (x :: l) 0 = x := e
    rw [e', if_pos (by simp only [List.length_cons]; omega), if_pos (by omega), if_pos (by simp only [List.length_cons]; omega), if_neg (by simp), if_pos (by simp), wrap01]
    rfl
/-- The clean wave. -/
def cleanV (l : List S48) : List S48 := if vld l = true then jn l else []
theorem wave_Clean_ev {l : List S48} (hw : RunsWf l) (hl : l.length ≤ 140737488351232) : Ev (fun k => wave_Clean.f k l) (cleanV l) := by
  unfold cleanV
  refine Ev.bind (wave_Valid_ev hw hl) ?_
  by_cases v : vld l = true
  · simp only [if_pos v]
    have hv := vld_iff.1 v
    exact Ev.bind (wave_joined_ev hv.2.1 (by omega) (by omega)) (Ev.now _)
  · simp only [if_neg v]
    exact Ev.now _
theorem jnc_sm : ∀ (l : List S48) (x : S48), sm (jnc x l) = x.f1 + sm l
  | [], x => rfl
  | y :: l, x => by
    unfold jnc
    split
    · rw [jnc_sm l]
      simp only [sm]
      omega
    · simp only [sm]
      rw [jnc_sm l y]
theorem jn_sm (l : List S48) : sm (jn l) = sm l := by
  cases l with
  | nil => rfl
  | cons x l => exact jnc_sm l x
theorem jnc_len : ∀ (l : List S48) (x : S48), (jnc x l).length ≤ l.length + 1
  | [], x => Nat.le_refl _
  | y :: l, x => by
    unfold jnc
    split
    · have := jnc_len l ⟨x.f0, x.f1 + y.f1⟩
      simp only [List.length_cons]
      omega
    · have := jnc_len l y
      simp only [List.length_cons]
      omega
theorem jn_len (l : List S48) : (jn l).length ≤ l.length := by
  cases l with
  | nil => exact Nat.le_refl _
  | cons x l => exact jnc_len l x
theorem jnc_ok : ∀ (l : List S48) (x : S48), RunsOk (x :: l) → RunsOk (jnc x l)
  | [], x, h => h
  | y :: l, x, h => by
    have hx := h.cons
    have hy := hx.2.cons
    unfold jnc
    split
    · refine jnc_ok l _ (fun z hz => ?_)
      rcases List.mem_cons.1 hz with rfl | hz
      · exact ⟨hx.1.1, by simp only; omega⟩
      · exact hy.2 z hz
    · intro z hz
      rcases List.mem_cons.1 hz with rfl | hz
      · exact hx.1
      · exact jnc_ok l y hx.2 z hz
theorem jn_ok {l : List S48} (h : RunsOk l) : RunsOk (jn l) := by
  cases l with
  | nil => exact h
  | cons x l => exact jnc_ok l x h
/-- No two runs of one level side by side: behind a run of level p. -/
def apartF : Int → List S48 → Prop
  | _, [] => True
  | p, x :: l => p ≠ x.f0 ∧ apartF x.f0 l
def apart : List S48 → Prop
  | [] => True
  | x :: l => apartF x.f0 l
theorem jnc_head : ∀ (l : List S48) (x : S48), ∃ t m, jnc x l = ⟨x.f0, t⟩ :: m
  | [], x => ⟨x.f1, [], rfl⟩
  | y :: l, x => by
    unfold jnc
    split
    · exact jnc_head l ⟨x.f0, x.f1 + y.f1⟩
    · exact ⟨x.f1, _, rfl⟩
theorem jnc_apart : ∀ (l : List S48) (x : S48), apart (jnc x l)
  | [], x => trivial
  | y :: l, x => by
    unfold jnc
    split
    · exact jnc_apart l _
    · rename_i c
      obtain ⟨t, m, e⟩ := jnc_head l y
      have h := jnc_apart l y
      rw [e] at h ⊢
      exact ⟨c, h⟩
theorem jn_apart (l : List S48) : apart (jn l) := by
  cases l with
  | nil => trivial
  | cons x l => exact jnc_apart l x
theorem jnc_of_apart : ∀ (l : List S48) (x : S48), apartF x.f0 l → jnc x l = x :: l
  | [], x, _ => rfl
  | y :: l, x, h => by
    unfold jnc
    rw [if_neg h.1, jnc_of_apart l y h.2]
theorem jn_of_apart {l : List S48} (h : apart l) : jn l = l := by
  cases l with
  | nil => rfl
  | cons x l => exact jnc_of_apart l x h
theorem RunsOk.wf {l : List S48} (h : RunsOk l) (hs : sm l ≤ 1099511627776) : RunsWf l := by
  intro x hx
  have h1 := h x hx
  have h2 : x.f1 ≤ sm l := by
    clear h1 hs
    induction l with
    | nil => simp at hx
    | cons y l ih =>
      have hy := h.cons
      have hn := sm_nonneg hy.2
      simp only [sm]
      rcases List.mem_cons.1 hx with rfl | hx
      · omega
      · have := ih hy.2 hx
        omega
  have wf : ∀ n : Int, 0 ≤ n → n ≤ 1099511627776 → (Lit.int .i64 n).wf = true := fun n h0 h1 => by
    simp [Lit.wf, IntKind.min, IntKind.max, IntKind.bits, IntKind.signed]
    omega
  exact ⟨wf _ (by omega) (by omega), wf _ (by omega) (by omega)⟩
theorem vld_wf {l : List S48} (v : vld l = true) : RunsWf l := (vld_iff.1 v).2.1.wf (vld_iff.1 v).2.2
/-- Levels from 0 to m, and at least one tick each. -/
def RunsM (m : Int) (l : List S48) : Prop := ∀ x ∈ l, 0 ≤ x.f0 ∧ x.f0 ≤ m ∧ 1 ≤ x.f1
theorem RunsM.cons {m : Int} {x : S48} {l : List S48} (h : RunsM m (x :: l)) : (0 ≤ x.f0 ∧ x.f0 ≤ m ∧ 1 ≤ x.f1) ∧ RunsM m l := ⟨h x (by simp), fun y hy => h y (by simp [hy])⟩
def Tk (l : List S48) : Prop := ∀ y ∈ l, 1 ≤ y.f1
theorem Tk.cons {x : S48} {l : List S48} (h : Tk (x :: l)) : 1 ≤ x.f1 ∧ Tk l := ⟨h x (by simp), fun y hy => h y (by simp [hy])⟩
theorem awake13_ev : Ev (fun k => signalbenchlaw13_awake.f k) true := Ev.of (k := 60) (fun k => signalbenchlaw13_awake.mono k) (by decide +kernel)
theorem awake13_then : Ev (fun k => (signalbenchlaw13_awake.f k).bind fun t => some t) true := Ev.bind awake13_ev (Ev.now true)
theorem same13_l0 : ∀ (post pre : List S48), (pre ++ post).length ≤ 140737488351232 → Ev (fun k => signalbenchlaw13_same.l0 k (pre ++ post) (pre ++ post) (pre.length : Int)) true
  | [], pre, hl => by
    refine Ev.step (f := fun _ => some true) (fun k => ?_) (Ev.now _)
    simp only [signalbenchlaw13_same.l0]
    rw [if_neg (by simp)]
  | x :: post, pre, hl => by
    have hlt := mid_lt pre post x
    have hn : pre.length ≤ 9223372036854775806 := by
      simp only [List.length_append, List.length_cons] at hl
      omega
    have ih := same13_l0 post (pre ++ [x]) (by simpa using hl)
    rw [← mid_snoc] at ih
    refine Ev.step (fun k => ?_) ih
    simp only [signalbenchlaw13_same.l0]
    rw [rd_mid, if_pos hlt, if_pos (by omega), if_pos hlt, if_neg (by simp), succ_mid _ _ hn]
theorem same13_ev (l : List S48) (hl : l.length ≤ 140737488351232) : Ev (fun k => signalbenchlaw13_same.f k l l) true := by
  refine Ev.congr (fun k => ?_) (same13_l0 l [] (by simpa using hl))
  unfold signalbenchlaw13_same.f
  rw [if_pos rfl]
  rfl
def cntM (b : Int) : List S48 → Int
  | [] => 0
  | [_] => 0
  | y :: z :: r => (if y.f1 < b then 1 else 0) + cntM b (z :: r)
def cntF (b : Int) : List S48 → Int
  | [] => 0
  | _ :: r => cntM b r
theorem cntM_bound (b : Int) : ∀ (l : List S48), 0 ≤ cntM b l ∧ cntM b l ≤ l.length
  | [] => by simp [cntM]
  | [_] => by simp [cntM]
  | y :: z :: r => by
    have := cntM_bound b (z :: r)
    unfold cntM
    simp only [List.length_cons] at this ⊢
    split <;> omega
theorem Count_l0 (b : Int) : ∀ (post pre : List S48) (n : Int), 0 ≤ n → n + post.length ≤ 9223372036854775807 → (pre ++ post).length ≤ 262144 →
    Ev (fun k => glitch_Count.l0 k b (pre ++ post) n (pre.length : Int)) (n + cntM b post)
  | [], pre, n, h0, h1, hl => by
    have e : wrap64 ((pre.length : Int) + 1) = (pre.length : Int) + 1 := w64 (by omega) (by simp only [List.append_nil] at hl; omega)
    refine Ev.step (f := fun _ => some n) (fun k => ?_) (by rw [show n + cntM b [] = n from Int.add_zero n]; exact Ev.now _)
    simp only [glitch_Count.l0]
    rw [e, if_neg (by simp only [List.append_nil]; omega)]
  | [y], pre, n, h0, h1, hl => by
    simp only [List.length_append, List.length_cons, List.length_nil] at hl
    have e : wrap64 ((pre.length : Int) + 1) = (pre.length : Int) + 1 := w64 (by omega) (by omega)
    refine Ev.step (f := fun _ => some n) (fun k => ?_) (by rw [show n + cntM b [y] = n from Int.add_zero n]; exact Ev.now _)
    simp only [glitch_Count.l0]
    rw [e, if_neg (by simp only [List.length_append, List.length_cons, List.length_nil]; omega)]
  | y :: z :: r, pre, n, h0, h1, hl => by
    have hlt := mid_lt pre (z :: r) y
    have hll := hl
    simp only [List.length_append, List.length_cons] at hll h1
    have e : wrap64 ((pre.length : Int) + 1) = ((pre ++ [y]).length : Int) := succ_mid pre y (by omega)
    have hl2 : ((pre ++ [y]).length : Int) < ((pre ++ y :: z :: r).length : Int) := by
      simp only [List.length_append, List.length_cons, List.length_nil]
      omega
    by_cases c : y.f1 < b
    · have ih := Count_l0 b (z :: r) (pre ++ [y]) (n + 1) (by omega) (by simp only [List.length_cons]; omega) (by simpa using hl)
      rw [← mid_snoc] at ih
      rw [show n + cntM b (y :: z :: r) = n + 1 + cntM b (z :: r) by rw [cntM, if_pos c]; omega]
      refine Ev.step (fun k => ?_) ih
      simp only [glitch_Count.l0]
      rw [e, rd_mid, if_pos hl2, if_pos (by omega), if_pos hlt, if_pos c, w64 (x := n + 1) (by omega) (by omega)]
    · have ih := Count_l0 b (z :: r) (pre ++ [y]) n (by omega) (by simp only [List.length_cons]; omega) (by simpa using hl)
      rw [← mid_snoc] at ih
      rw [show n + cntM b (y :: z :: r) = n + cntM b (z :: r) by rw [cntM, if_neg c]; omega]
      refine Ev.step (fun k => ?_) ih
      simp only [glitch_Count.l0]
      rw [e, rd_mid, if_pos hl2, if_pos (by omega), if_pos hlt, if_neg c]
theorem clV_len (l : List S48) : (cleanV l).length ≤ 262144 ∧ (cleanV l).length ≤ l.length := by
  unfold cleanV
  by_cases v : vld l = true
  · rw [if_pos v]
    have hv := vld_iff.1 v
    have := jn_len l
    omega
  · rw [if_neg v]
    simp
def countV (l : List S48) (b : Int) : Int := cntF b (cleanV l)
theorem Count_ev {l : List S48} {b : Int} (hw : RunsWf l) (hl : l.length ≤ 140737488351232) : Ev (fun k => glitch_Count.f k l b) (countV l b) := by
  refine Ev.bind (wave_Clean_ev hw hl) ?_
  unfold countV
  have hc := (clV_len l).1
  cases e : cleanV l with
  | nil =>
    refine Ev.step (f := fun _ => some 0) (fun k => ?_) (Ev.now _)
    simp only [glitch_Count.l0]
    have e2 : wrap64 (1 + 1) = 2 := by
      rw [w64 (by decide) (by decide)]
      rfl
    rw [e2, if_neg (by simp)]
  | cons x r =>
    rw [e] at hc
    simp only [List.length_cons] at hc
    have h := Count_l0 b r [x] 0 (by omega) (by omega) (by simpa using hc)
    rw [Int.zero_add] at h
    exact h
def flt (b : Int) : S48 → List S48 → List S48
  | p, [] => [p]
  | p, [y] => [p, y]
  | p, y :: z :: r => if y.f1 < b then flt b ⟨p.f0, p.f1 + (y.f1 + z.f1)⟩ r else p :: flt b y (z :: r)
def filt (b : Int) : List S48 → List S48
  | [] => []
  | x :: r => flt b x r
def filV (l : List S48) (b : Int) : List S48 := filt b (cleanV l)
theorem Filter_l0 (b : Int) : ∀ (post pre q : List S48) (p : S48), RunsOk post → 0 ≤ p.f1 → p.f1 + sm post ≤ 1099511627776 → (pre ++ post).length ≤ 262144 → q.length + post.length ≤ 262144 →
    Ev (fun k => glitch_Filter.l0 k b (pre ++ post) (q ++ [p]) (pre.length : Int)) (q ++ flt b p post)
  | [], pre, q, p, hw, h0, hs, hl, hq => by
    refine Ev.step (f := fun _ => some (q ++ [p])) (fun k => ?_) (Ev.now _)
    simp only [glitch_Filter.l0]
    rw [if_neg (by simp)]
  | [y], pre, q, p, hw, h0, hs, hl, hq => by
    have hlt := mid_lt pre [] y
    have hll := hl
    simp only [List.length_append, List.length_cons, List.length_nil] at hll hq
    have e : wrap64 ((pre.length : Int) + 1) = ((pre ++ [y]).length : Int) := succ_mid pre y (by omega)
    refine Ev.step (f := fun k => glitch_Filter.l1 k b (pre ++ [y]) (q ++ [p]) (pre.length : Int)) (fun k => ?_) ?_
    · simp only [glitch_Filter.l0]
      rw [if_pos hlt]
    · refine Ev.step (f := fun k => glitch_Filter.l0 k b (pre ++ [y]) ((q ++ [p]) ++ [y]) ((pre ++ [y]).length : Int)) (fun k => ?_) ?_
      · simp only [glitch_Filter.l1]
        rw [e, if_neg (by omega), if_pos (by omega), if_pos hlt, if_pos (by simp only [List.length_append, List.length_cons, List.length_nil]; omega), rd_mid]
      · rw [flt, show q ++ [p, y] = (q ++ [p]) ++ [y] by simp]
        refine Ev.step (f := fun _ => some ((q ++ [p]) ++ [y])) (fun k => ?_) (Ev.now _)
        simp only [glitch_Filter.l0]
        rw [if_neg (by omega)]
  | y :: z :: r, pre, q, p, hw, h0, hs, hl, hq => by
    have hy := hw.cons
    have hz := hy.2.cons
    have hr := sm_nonneg hz.2
    simp only [sm] at hs
    have hlt := mid_lt pre (z :: r) y
    have hll := hl
    simp only [List.length_append, List.length_cons] at hll hq
    have e : wrap64 ((pre.length : Int) + 1) = ((pre ++ [y]).length : Int) := succ_mid pre y (by omega)
    have hl2 : ((pre ++ [y]).length : Int) < ((pre ++ y :: z :: r).length : Int) := by
      simp only [List.length_append, List.length_cons, List.length_nil]
      omega
    have rz : rd_T48 (pre ++ y :: z :: r) ((pre ++ [y]).length : Int) = z := by
      have := rd_mid (pre ++ [y]) r z
      rw [← mid_snoc] at this
      exact this
    have hst : ∀ k, glitch_Filter.l0 (k + 1) b (pre ++ y :: z :: r) (q ++ [p]) (pre.length : Int) = glitch_Filter.l1 k b (pre ++ y :: z :: r) (q ++ [p]) (pre.length : Int) := by
      intro k
      simp only [glitch_Filter.l0]
      rw [if_pos hlt]
    refine Ev.step hst ?_
    by_cases c : y.f1 < b
    · have ih := Filter_l0 b r (pre ++ [y, z]) q ⟨p.f0, p.f1 + (y.f1 + z.f1)⟩ hz.2 (by show 0 ≤ p.f1 + (y.f1 + z.f1); omega) (by show p.f1 + (y.f1 + z.f1) + sm r ≤ _; omega) (by simpa using hl) (by omega)
      rw [show (pre ++ [y, z]) ++ r = pre ++ y :: z :: r by simp] at ih
      rw [flt, if_pos c]
      have e2 : wrap64 ((pre.length : Int) + 2) = ((pre ++ [y, z]).length : Int) := by
        rw [w64 (by omega) (by omega)]
        simp
      have el := last_at q p (by omega)
      have hql : (q.length : Int) < ((q ++ [p]).length : Int) := mid_lt q [] p
      refine Ev.step (fun k => ?_) ih
      simp only [glitch_Filter.l1]
      rw [e, if_pos hl2, if_pos (Int.natCast_nonneg _), if_pos hlt, rd_mid, if_pos c, el, if_pos (Int.natCast_nonneg _), if_pos hql, if_pos (Int.natCast_nonneg _), rd_last, rz, set_last, w64 (x := y.f1 + z.f1) (by omega) (by omega), w64 (x := p.f1 + (y.f1 + z.f1)) (by omega) (by omega), e2]
    · have ih := Filter_l0 b (z :: r) (pre ++ [y]) (q ++ [p]) y hy.2 (by omega) (by simp only [sm]; omega) (by simpa using hl) (by simp only [List.length_append, List.length_cons, List.length_nil]; omega)
      rw [← mid_snoc pre (z :: r) y] at ih
      rw [flt, if_neg c, mid_snoc q (flt b y (z :: r)) p]
      refine Ev.step (fun k => ?_) ih
      simp only [glitch_Filter.l1]
      rw [e, if_pos hl2, if_pos (Int.natCast_nonneg _), if_pos hlt, rd_mid, if_neg c, if_pos (by simp only [List.length_append, List.length_cons, List.length_nil]; omega)]
theorem cleanV_ok (l : List S48) : RunsOk (cleanV l) ∧ sm (cleanV l) ≤ 1099511627776 ∧ apart (cleanV l) := by
  unfold cleanV
  by_cases v : vld l = true
  · rw [if_pos v]
    have hv := vld_iff.1 v
    exact ⟨jn_ok hv.2.1, by rw [jn_sm]; exact hv.2.2, jn_apart l⟩
  · rw [if_neg v]
    exact ⟨fun x hx => by simp at hx, by simp [sm], trivial⟩
theorem Filter_ev {l : List S48} {b : Int} (hw : RunsWf l) (hl : l.length ≤ 140737488351232) : Ev (fun k => glitch_Filter.f k l b) (filV l b) := by
  refine Ev.bind (wave_Clean_ev hw hl) ?_
  unfold filV
  have hc := (clV_len l).1
  have ho := cleanV_ok l
  match e : cleanV l with
  | [] => exact Ev.congr (fun k => if_pos (by decide)) (Ev.now _)
  | [x] => exact Ev.congr (fun k => if_pos (by simp)) (Ev.now _)
  | [x, y] => exact Ev.congr (fun k => if_pos (by simp)) (Ev.now _)
  | x :: y :: z :: r =>
    rw [e] at hc ho
    have hx := ho.1.cons
    have h0 := ho.2.1
    simp only [sm] at h0
    have h := Filter_l0 b (y :: z :: r) [x] [] x hx.2 (by omega) (by simp only [sm]; omega) (by simpa using hc) (by simp only [List.length_cons] at hc ⊢; simp only [List.length_nil]; omega)
    refine Ev.congr (fun k => (if_neg (by simp only [List.length_cons]; omega)).trans ((if_pos (by simp only [List.length_cons]; omega)).trans ((if_pos (by rw [Int.toNat_natCast]; omega)).trans ?_))) h
    rw [Option.bind_some, if_pos (by simp only [List.length_cons]; omega), if_pos (by simp)]
    rfl
theorem flt_len (b : Int) : ∀ (l : List S48) (p : S48), (flt b p l).length ≤ l.length + 1
  | [], p => by simp [flt]
  | [y], p => by simp [flt]
  | y :: z :: r, p => by
    unfold flt
    by_cases k : y.f1 < b
    · rw [if_pos k]
      have := flt_len b r ⟨p.f0, p.f1 + (y.f1 + z.f1)⟩
      simp only [List.length_cons]
      omega
    · rw [if_neg k]
      have := flt_len b (z :: r) y
      simp only [List.length_cons] at this ⊢
      omega
theorem filV_len (l : List S48) (b : Int) : (filV l b).length ≤ l.length := by
  have := (clV_len l).2
  unfold filV
  cases e : cleanV l with
  | nil => simp [filt]
  | cons x r =>
    rw [e] at this
    have h := flt_len b r x
    simp only [List.length_cons] at this
    show (flt b x r).length ≤ _
    omega
theorem flt_head (b : Int) : ∀ (l : List S48) (p : S48), RunsOk l → ∃ t m, flt b p l = (⟨p.f0, t⟩ : S48) :: m ∧ p.f1 ≤ t
  | [], p, hw => ⟨p.f1, [], rfl, Int.le_refl _⟩
  | [y], p, hw => ⟨p.f1, [y], rfl, Int.le_refl _⟩
  | y :: z :: r, p, hw => by
    have hy := hw.cons
    have hz := hy.2.cons
    unfold flt
    by_cases k : y.f1 < b
    · rw [if_pos k]
      obtain ⟨t, m, e, h⟩ := flt_head b r ⟨p.f0, p.f1 + (y.f1 + z.f1)⟩ hz.2
      have h' : p.f1 + (y.f1 + z.f1) ≤ t := h
      exact ⟨t, m, e, by omega⟩
    · rw [if_neg k]
      exact ⟨p.f1, _, rfl, Int.le_refl _⟩
theorem flt_ok (b : Int) : ∀ (l : List S48) (p : S48), RunsOk (p :: l) → apart (p :: l) → RunsOk (flt b p l) ∧ sm (flt b p l) = p.f1 + sm l ∧ apart (flt b p l) ∧ (∃ t m, flt b p l = (⟨p.f0, t⟩ : S48) :: m ∧ cntM b m = 0)
  | [], p, hw, ha => ⟨hw, by simp [flt, sm], trivial, p.f1, [], rfl, rfl⟩
  | [y], p, hw, ha => ⟨hw, by simp [flt, sm], ha, p.f1, [y], rfl, rfl⟩
  | y :: z :: r, p, hw, ha => by
    have hp := hw.cons
    have hy := hp.2.cons
    have hz := hy.2.cons
    have ha1 : p.f0 ≠ y.f0 := ha.1
    have ha2 : y.f0 ≠ z.f0 := ha.2.1
    have ha3 : apartF z.f0 r := ha.2.2
    by_cases k : y.f1 < b
    · have e : z.f0 = p.f0 := by omega
      have ih := flt_ok b r ⟨p.f0, p.f1 + (y.f1 + z.f1)⟩ (by
        intro x hx
        rcases List.mem_cons.1 hx with rfl | hx
        · exact ⟨hp.1.1, by show 1 ≤ p.f1 + (y.f1 + z.f1); omega⟩
        · exact hz.2 x hx) (by show apartF p.f0 r; rw [← e]; exact ha3)
      rw [flt, if_pos k]
      refine ⟨ih.1, ?_, ih.2.2.1, ih.2.2.2⟩
      rw [ih.2.1]
      simp only [sm]
      omega
    · have ih := flt_ok b (z :: r) y hp.2 ha.2
      obtain ⟨t', m', e', ht'⟩ := flt_head b (z :: r) y hy.2
      obtain ⟨t, m, e, hm⟩ := ih.2.2.2
      rw [flt, if_neg k]
      refine ⟨?_, ?_, ?_, p.f1, flt b y (z :: r), rfl, ?_⟩
      · intro x hx
        rcases List.mem_cons.1 hx with rfl | hx
        · exact hp.1
        · exact ih.1 x hx
      · simp only [sm]
        rw [ih.2.1]
        simp only [sm]
      · have h3 := ih.2.2.1
        rw [e] at h3 ⊢
        exact ⟨ha1, h3⟩
      · rw [e] at e' ⊢
        injection e' with e1 e2
        injection e1 with _ e3
        cases m with
        | nil => rfl
        | cons u us =>
          rw [cntM, hm, if_neg (by show ¬ t < b; omega)]
          rfl
theorem flt_id (b : Int) : ∀ (l : List S48) (p : S48), cntM b l = 0 → flt b p l = p :: l
  | [], p, h => rfl
  | [y], p, h => rfl
  | y :: z :: r, p, h => by
    have hb := cntM_bound b (z :: r)
    unfold cntM at h
    unfold flt
    by_cases k : y.f1 < b
    · rw [if_pos k] at h
      omega
    · rw [if_neg k] at h ⊢
      rw [flt_id b (z :: r) y (by omega)]
theorem filV_ok {l : List S48} (b : Int) (v : vld l = true) : vld (filV l b) = true ∧ sm (filV l b) = sm l ∧ apart (filV l b) ∧ cntF b (filV l b) = 0 ∧ filt b (filV l b) = filV l b := by
  have hv := vld_iff.1 v
  have hlen := filV_len l b
  have ho := cleanV_ok l
  have hs : sm (cleanV l) = sm l := by
    unfold cleanV
    rw [if_pos v, jn_sm]
  unfold filV at hlen ⊢
  cases e : cleanV l with
  | nil =>
    rw [e] at hs
    refine ⟨by rfl, hs, trivial, rfl, rfl⟩
  | cons x r =>
    rw [e] at ho hs hlen
    have h := flt_ok b r x ho.1 ho.2.2
    obtain ⟨t, m, e2, hm⟩ := h.2.2.2
    have hs2 : sm (flt b x r) = sm l := by
      rw [h.2.1]
      exact hs
    refine ⟨vld_iff.2 ⟨by show (flt b x r).length ≤ _; have : (flt b x r).length ≤ l.length := hlen; omega, h.1, by show sm (flt b x r) ≤ _; rw [hs2]; exact hv.2.2⟩, hs2, h.2.2.1, ?_, ?_⟩
    · show cntF b (flt b x r) = 0
      rw [e2]
      exact hm
    · show filt b (flt b x r) = flt b x r
      rw [e2]
      exact flt_id b m _ hm
theorem GlitchFilters_pure {l : List S48} {b : Int} (hw : RunsWf l) : ∃ k, signalbenchlaw13_GlitchFilters.f k l b = some true := by
  refine Ev.rounds (g := fun k => signalbenchlaw13_GlitchFilters.f k l b) ?_
  have hj : Ev (fun k => signalbenchlaw13_GlitchFilters.j0 k l b true) true := by
    refine Ev.step (fun k => ?_) awake13_then
    simp only [signalbenchlaw13_GlitchFilters.j0]
    rfl
  by_cases c : 40 < l.length
  · exact Ev.congr (fun k => if_pos (by omega)) hj
  · refine Ev.congr (fun k => if_neg (by omega)) (Ev.bind (ref_Valid_ev hw (by omega)) ?_)
    by_cases v : vld l = true
    · rw [v]
      have hf := filV_ok b v
      have hlen := filV_len l b
      have hmw : RunsWf (filV l b) := vld_wf hf.1
      have hml : (filV l b).length ≤ 140737488351232 := by omega
      have hcl : cleanV (filV l b) = filV l b := by
        unfold cleanV
        rw [if_pos hf.1, jn_of_apart hf.2.2.1]
      have e1 : countV (filV l b) b = 0 := by
        unfold countV
        rw [hcl]
        exact hf.2.2.2.1
      have e2 : filV (filV l b) b = filV l b := by
        show filt b (cleanV (filV l b)) = _
        rw [hcl]
        exact hf.2.2.2.2
      have e3 : longV (filV l b) = longV l := by
        unfold longV
        rw [if_pos hf.1, if_pos v, hf.2.1]
      have c1 := Count_ev (b := b) hmw hml
      have c2 := wave_Valid_ev hmw hml
      have c3 := wave_Clean_ev hmw hml
      have c4 := wave_Long_ev hmw hml
      have c5 := Filter_ev (b := b) hmw hml
      rw [e1] at c1
      rw [hf.1] at c2
      rw [hcl] at c3
      rw [e3] at c4
      rw [e2] at c5
      have c6 := same13_ev (filV l b) hml
      have c7 := wave_Long_ev hw (by omega)
      have c8 := Filter_ev (b := b) hw (by omega)
      clear hf hlen hmw hml hcl e1 e2 e3 hj c hw v
      refine Ev.step (f := fun k => (glitch_Filter.f k l b).bind fun t360 => ((glitch_Count.f k t360 b).bind fun t363 => (if t363 = 0 then ((wave_Valid.f k t360).bind fun t364 => (if t364 = true then ((wave_Clean.f k t360).bind fun t365 => ((signalbenchlaw13_same.f k t365 t360).bind fun t368 => (if t368 = true then ((wave_Long.f k t360).bind fun t369 => ((wave_Long.f k l).bind fun t370 => (if t369 = t370 then ((glitch_Filter.f k t360 b).bind fun t371 => ((signalbenchlaw13_same.f k t371 t360).bind fun t374 => (if t374 = true then ((signalbenchlaw13_awake.f k).bind fun t375 => (some t375)) else (some false)))) else (some false)))) else (some false)))) else (some false))) else (some false)))) (fun k => ?_) (Ev.bind c8 (Ev.bind c1 (Ev.congr (fun k => if_pos rfl) (Ev.bind c2 (Ev.congr (fun k => if_pos rfl) (Ev.bind c3 (Ev.bind c6 (Ev.congr (fun k => if_pos rfl) (Ev.bind c4 (Ev.bind c7 (Ev.congr (fun k => if_pos rfl) (Ev.bind c5 (Ev.bind c6 (Ev.congr (fun k => if_pos rfl) awake13_then))))))))))))))
      simp only [signalbenchlaw13_GlitchFilters.j0]
      rfl
    · rw [show (!vld l) = true by simpa using v]
      exact hj
end Go.Proofs.Ytobicjobkdhelaa
