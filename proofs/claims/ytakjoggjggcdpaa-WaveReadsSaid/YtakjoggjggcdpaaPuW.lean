/- The wave functions of the program and of the reference, as plain functions on lists: what each printed function answers, whatever the runs; conditions: each number is one of an int, and no list is longer than its memory allows. -/
import Derived.Test.YtakjoggjggcdpaaPuB
import Derived.Test.YtakjoggjggcdpaaQx0
import Derived.Test.YtakjoggjggcdpaaQx2
import Derived.Test.YtakjoggjggcdpaaQx3
import Derived.Test.YtakjoggjggcdpaaQx4
import Derived.Test.YtakjoggjggcdpaaQx5
import Derived.Test.YtakjoggjggcdpaaQx6
import Derived.Test.YtakjoggjggcdpaaQx7
import Derived.Test.YtakjoggjggcdpaaQx8
import Derived.Test.YtakjoggjggcdpaaQx9
import Derived.Test.YtakjoggjggcdpaaQx10
namespace Go.Proofs.Ytakjoggjggcdpaa
open Go Go.RowKit Go.Proofs.YtakjoggjggcdpaaW.PrintWords Go.Proofs.YtakjoggjggcdpaaW.PrintLast Go.Proofs.Ytakjoggjggcdpaa.Q
set_option linter.unusedVariables false

/-! ### lists of runs -/
def sm : List S39 → Int
  | [] => 0
  | x :: l => x.f1 + sm l
def vldF (left : Int) : List S39 → Bool
  | [] => true
  | x :: l => if (x.f0 = 0 ∨ x.f0 = 1) ∧ 1 ≤ x.f1 ∧ x.f1 ≤ left then vldF (left - x.f1) l else false
def vld (l : List S39) : Bool := if l.length ≤ 262144 then vldF 1099511627776 l else false
def RunWf (x : S39) : Prop := (Lit.int .i64 x.f0).wf = true ∧ (Lit.int .i64 x.f1).wf = true
def RunsWf (l : List S39) : Prop := ∀ x ∈ l, RunWf x
def RunsOk (l : List S39) : Prop := ∀ x ∈ l, (x.f0 = 0 ∨ x.f0 = 1) ∧ 1 ≤ x.f1

theorem rd_mid (pre post : List S39) (x : S39) : rd_T39 (pre ++ x :: post) (pre.length : Int) = x := by simp [rd_T39, List.getD]
theorem mid_lt (pre post : List S39) (x : S39) : (pre.length : Int) < ((pre ++ x :: post).length : Int) := by
  simp only [List.length_append, List.length_cons]
  omega
theorem sm_nonneg : ∀ {l : List S39}, RunsOk l → 0 ≤ sm l
  | [], _ => Int.le_refl _
  | x :: l, h => by
    have h1 := h x (by simp)
    have h2 := sm_nonneg (l := l) (fun y hy => h y (by simp [hy]))
    simp only [sm]
    omega
theorem sm_len : ∀ {l : List S39}, RunsOk l → (l.length : Int) ≤ sm l
  | [], _ => Int.le_refl _
  | x :: l, h => by
    have h1 := h x (by simp)
    have h2 := sm_len (l := l) (fun y hy => h y (by simp [hy]))
    simp only [sm, List.length_cons]
    omega
theorem sm_append : ∀ (a b : List S39), sm (a ++ b) = sm a + sm b
  | [], b => by simp [sm]
  | x :: a, b => by
    have := sm_append a b
    simp only [List.cons_append, sm]
    omega
theorem vldF_iff : ∀ {l : List S39} {left : Int}, 0 ≤ left → (vldF left l = true ↔ RunsOk l ∧ sm l ≤ left)
  | [], left, h => by simp [vldF, RunsOk, sm, h]
  | x :: l, left, h => by
    unfold vldF
    by_cases c : (x.f0 = 0 ∨ x.f0 = 1) ∧ 1 ≤ x.f1 ∧ x.f1 ≤ left
    · rw [if_pos c, vldF_iff (l := l) (by omega)]
      simp only [RunsOk, sm, List.mem_cons, forall_eq_or_imp]
      constructor
      · rintro ⟨h1, h2⟩
        exact ⟨⟨⟨c.1, c.2.1⟩, h1⟩, by omega⟩
      · rintro ⟨⟨h1, h2⟩, h3⟩
        exact ⟨h2, by omega⟩
    · rw [if_neg c]
      simp only [Bool.false_eq_true, false_iff]
      rintro ⟨h1, h2⟩
      have h3 := h1 x (by simp)
      have h4 := sm_nonneg (l := l) (fun y hy => h1 y (by simp [hy]))
      simp only [sm] at h2
      exact c ⟨h3.1, h3.2, by omega⟩
theorem vld_iff {l : List S39} : vld l = true ↔ l.length ≤ 262144 ∧ RunsOk l ∧ sm l ≤ 1099511627776 := by
  unfold vld
  by_cases c : l.length ≤ 262144
  · rw [if_pos c, vldF_iff (by omega)]
    simp [c]
  · rw [if_neg c]
    simp [c]
theorem RunsOk.cons {x : S39} {l : List S39} (h : RunsOk (x :: l)) : ((x.f0 = 0 ∨ x.f0 = 1) ∧ 1 ≤ x.f1) ∧ RunsOk l := ⟨h x (by simp), fun y hy => h y (by simp [hy])⟩
theorem RunsOk.append {a b : List S39} (h : RunsOk a) (h' : RunsOk b) : RunsOk (a ++ b) := fun x hx => by
  rcases List.mem_append.1 hx with hx | hx
  · exact h x hx
  · exact h' x hx
theorem RunsOk.left {a b : List S39} (h : RunsOk (a ++ b)) : RunsOk a := fun x hx => h x (List.mem_append_left _ hx)
theorem RunsOk.right {a b : List S39} (h : RunsOk (a ++ b)) : RunsOk b := fun x hx => h x (List.mem_append_right _ hx)

/-! ### Valid -/
theorem wave_Valid_l0 : ∀ (post pre : List S39) (left : Int), 0 ≤ left → left ≤ 1099511627776 → RunsWf post → (pre ++ post).length ≤ 140737488351232 →
    Ev (fun k => wave_Valid.l0 k left (pre ++ post) ((pre ++ post).length : Int) (pre.length : Int)) (vldF left post)
  | [], pre, left, h0, h1, hw, hl => by
    refine Ev.step (f := fun _ => some true) (fun k => ?_) (Ev.now _)
    simp only [wave_Valid.l0]
    rw [if_neg (by simp)]
  | x :: post, pre, left, h0, h1, hw, hl => by
    have hx := hw x (by simp)
    have hlt := mid_lt pre post x
    have hn : pre.length ≤ 9223372036854775806 := by
      simp only [List.length_append, List.length_cons] at hl
      omega
    by_cases c : (x.f0 = 0 ∨ x.f0 = 1) ∧ 1 ≤ x.f1 ∧ x.f1 ≤ left
    · have ih := wave_Valid_l0 post (pre ++ [x]) (left - x.f1) (by omega) (by omega) (fun y hy => hw y (by simp [hy])) (by simpa using hl)
      rw [← mid_snoc] at ih
      rw [vldF, if_pos c]
      refine Ev.step (fun k => ?_) ih
      simp only [wave_Valid.l0]
      rw [rd_mid, if_pos hlt, if_pos (by omega), if_pos hlt, if_pos ((andNot1 hx.1).2 c.1), if_neg (by omega), if_neg (by omega), w64 (by omega) (by omega), succ_mid _ _ hn]
    · rw [vldF, if_neg c]
      refine Ev.step (f := fun _ => some false) (fun k => ?_) (Ev.now _)
      simp only [wave_Valid.l0]
      rw [rd_mid, if_pos hlt, if_pos (by omega), if_pos hlt]
      by_cases c1 : x.f0 = 0 ∨ x.f0 = 1
      · rw [if_pos ((andNot1 hx.1).2 c1)]
        by_cases c2 : x.f1 < 1
        · rw [if_pos c2]
        · rw [if_neg c2, if_pos (by
            have : ¬ (1 ≤ x.f1 ∧ x.f1 ≤ left) := fun h => c ⟨c1, h⟩
            omega)]
      · rw [if_neg (fun h => c1 ((andNot1 hx.1).1 h))]
theorem wave_Valid_ev {l : List S39} (hw : RunsWf l) (hl : l.length ≤ 140737488351232) : Ev (fun k => wave_Valid.f k l) (vld l) := by
  unfold vld
  by_cases c : l.length ≤ 262144
  · rw [if_pos c]
    refine Ev.congr (fun k => ?_) (wave_Valid_l0 l [] 1099511627776 (by omega) (by omega) hw (by simpa using hl))
    unfold wave_Valid.f
    rw [if_neg (by omega)]
    rfl
  · rw [if_neg c]
    refine Ev.congr (fun k => ?_) (Ev.now _)
    unfold wave_Valid.f
    rw [if_pos (by omega)]
theorem ref_Valid_l0 : ∀ (post pre : List S39) (s : Int), 0 ≤ s → s ≤ 1099511627776 → RunsWf post → (pre ++ post).length ≤ 140737488351232 →
    Ev (fun k => signalbenchref08_Valid.l0 k (pre ++ post) s (pre.length : Int)) (vldF (1099511627776 - s) post)
  | [], pre, s, h0, h1, hw, hl => by
    refine Ev.step (f := fun _ => some true) (fun k => ?_) (Ev.now _)
    simp only [signalbenchref08_Valid.l0]
    rw [if_neg (by simp)]
  | x :: post, pre, s, h0, h1, hw, hl => by
    have hx := hw x (by simp)
    have hx1 := wf64 hx.2
    have hlt := mid_lt pre post x
    have hn : pre.length ≤ 9223372036854775806 := by
      simp only [List.length_append, List.length_cons] at hl
      omega
    by_cases c1 : x.f0 = 0 ∨ x.f0 = 1
    · have e0 : ∀ k, signalbenchref08_Valid.l0 (k + 1) (pre ++ x :: post) s (pre.length : Int) = signalbenchref08_Valid.j1 k (pre ++ x :: post) s (pre.length : Int) false := by
        intro k
        simp only [signalbenchref08_Valid.l0]
        rw [rd_mid, if_pos hlt, if_pos (by omega)]
        rcases c1 with c1 | c1
        · rw [if_pos c1]
        · rw [if_neg (by omega), c1]
          rfl
      refine Ev.step e0 ?_
      by_cases c : 1 ≤ x.f1 ∧ x.f1 ≤ 1099511627776 - s
      · have ih := ref_Valid_l0 post (pre ++ [x]) (s + x.f1) (by omega) (by omega) (fun y hy => hw y (by simp [hy])) (by simpa using hl)
        rw [← mid_snoc] at ih
        rw [vldF, if_pos ⟨c1, c⟩]
        have e1 : 1099511627776 - (s + x.f1) = 1099511627776 - s - x.f1 := by omega
        rw [e1] at ih
        refine Ev.step (fun k => ?_) ih
        simp only [signalbenchref08_Valid.j1]
        rw [rd_mid, if_neg (by simp), if_pos (by omega), if_pos hlt, if_neg (by omega), if_neg (by rw [w64 (by omega) (by omega)]; omega), w64 (by omega) (by omega), succ_mid _ _ hn]
      · rw [vldF, if_neg (fun h => c h.2)]
        refine Ev.step (f := fun _ => some false) (fun k => ?_) (Ev.now _)
        simp only [signalbenchref08_Valid.j1]
        rw [rd_mid, if_neg (by simp), if_pos (by omega), if_pos hlt]
        by_cases c2 : x.f1 < 1
        · rw [if_pos c2]
        · rw [if_neg c2, if_pos (by rw [w64 (by omega) (by omega)]; omega)]
    · rw [vldF, if_neg (fun h => c1 h.1)]
      refine Ev.step (f := fun k => signalbenchref08_Valid.j1 k (pre ++ x :: post) s (pre.length : Int) true) (fun k => ?_) (Ev.step (f := fun _ => some false) (fun k => ?_) (Ev.now _))
      · simp only [signalbenchref08_Valid.l0]
        rw [rd_mid, if_pos hlt, if_pos (by omega), if_neg (by omega)]
        congr 1
        simp
        omega
      · simp only [signalbenchref08_Valid.j1]
        rw [if_pos trivial]
theorem ref_Valid_ev {l : List S39} (hw : RunsWf l) (hl : l.length ≤ 140737488351232) : Ev (fun k => signalbenchref08_Valid.f k l) (vld l) := by
  unfold vld
  by_cases c : l.length ≤ 262144
  · rw [if_pos c]
    have h := ref_Valid_l0 l [] 0 (by omega) (by omega) hw (by simpa using hl)
    refine Ev.congr (fun k => ?_) h
    unfold signalbenchref08_Valid.f
    rw [if_neg (by omega)]
    rfl
  · rw [if_neg c]
    refine Ev.congr (fun k => ?_) (Ev.now _)
    unfold signalbenchref08_Valid.f
    rw [if_pos (by omega)]

/-! ### At -/
def atS : List S39 → Int → Int × Bool
  | [], _ => (-1, false)
  | x :: l, t => if t < x.f1 then (x.f0, true) else atS l (t - x.f1)
/-- At a tick of any list of runs: (-1, false) where there is no level. -/
def atV (l : List S39) (t : Int) : Int × Bool := if t < 0 then (-1, false) else if vld l = true then atS l t else (-1, false)
theorem wave_At_l0 : ∀ (post pre : List S39) (t : Int), 0 ≤ t → t ≤ 9223372036854775807 → RunsOk post → (pre ++ post).length ≤ 140737488351232 →
    Ev (fun k => wave_At.l0 k t (pre ++ post) ((pre ++ post).length : Int) (pre.length : Int)) (atS post t)
  | [], pre, t, h0, h1, hw, hl => by
    refine Ev.step (f := fun _ => some ((-1), false)) (fun k => ?_) (Ev.now _)
    simp only [wave_At.l0]
    rw [if_neg (by simp)]
  | x :: post, pre, t, h0, h1, hw, hl => by
    have hx := hw.cons
    have hlt := mid_lt pre post x
    have hn : pre.length ≤ 9223372036854775806 := by
      simp only [List.length_append, List.length_cons] at hl
      omega
    by_cases c : t < x.f1
    · rw [atS, if_pos c]
      refine Ev.step (f := fun _ => some (x.f0, true)) (fun k => ?_) (Ev.now _)
      simp only [wave_At.l0]
      rw [rd_mid, if_pos hlt, if_pos (by omega), if_pos hlt, if_pos c]
    · have ih := wave_At_l0 post (pre ++ [x]) (t - x.f1) (by omega) (by omega) hx.2 (by simpa using hl)
      rw [← mid_snoc] at ih
      rw [atS, if_neg c]
      refine Ev.step (fun k => ?_) ih
      simp only [wave_At.l0]
      rw [rd_mid, if_pos hlt, if_pos (by omega), if_pos hlt, if_neg c, w64 (by omega) (by omega), succ_mid _ _ hn]
theorem wave_At_ev {l : List S39} {t : Int} (hw : RunsWf l) (hl : l.length ≤ 140737488351232) (ht : (Lit.int .i64 t).wf = true) : Ev (fun k => wave_At.f k l t) (atV l t) := by
  have ht' := wf64 ht
  unfold atV
  by_cases c : t < 0
  · rw [if_pos c]
    refine Ev.congr (f := fun k => wave_At.j0 k l t true) (fun k => ?_) (Ev.step (f := fun _ => some (-1, false)) (fun k => ?_) (Ev.now _))
    · unfold wave_At.f
      rw [if_pos c]
    · simp only [wave_At.j0]
      rw [if_pos trivial]
  · rw [if_neg c]
    refine Ev.congr (f := fun k => (wave_Valid.f k l).bind fun t103 => (wave_At.j0 k l t (!t103))) (fun k => ?_) (Ev.bind (wave_Valid_ev hw hl) ?_)
    · unfold wave_At.f
      rw [if_neg c]
    · by_cases v : vld l = true
      · rw [if_pos v, v]
        refine Ev.step (fun k => ?_) (wave_At_l0 l [] t (by omega) (by omega) (vld_iff.1 v).2.1 (by simpa using hl))
        simp only [wave_At.j0]
        rw [if_neg (by simp)]
        rfl
      · rw [if_neg v, Bool.eq_false_iff.2 v]
        refine Ev.step (f := fun _ => some (-1, false)) (fun k => ?_) (Ev.now _)
        simp only [wave_At.j0]
        rw [if_pos (by rfl)]
theorem ref_At_l0 : ∀ (post pre : List S39) (t s : Int), 0 ≤ s → s + sm post ≤ 1099511627776 → RunsOk post → (pre ++ post).length ≤ 140737488351232 →
    Ev (fun k => signalbenchref08_At.l0 k (pre ++ post) t s (pre.length : Int)) (atS post (t - s))
  | [], pre, t, s, h0, h1, hw, hl => by
    refine Ev.step (f := fun _ => some ((-1), false)) (fun k => ?_) (Ev.now _)
    simp only [signalbenchref08_At.l0]
    rw [if_neg (by simp)]
  | x :: post, pre, t, s, h0, h1, hw, hl => by
    have hx := hw.cons
    have hs := sm_nonneg hx.2
    simp only [sm] at h1
    have hlt := mid_lt pre post x
    have hn : pre.length ≤ 9223372036854775806 := by
      simp only [List.length_append, List.length_cons] at hl
      omega
    by_cases c : t - s < x.f1
    · rw [atS, if_pos c]
      refine Ev.step (f := fun _ => some (x.f0, true)) (fun k => ?_) (Ev.now _)
      simp only [signalbenchref08_At.l0]
      rw [rd_mid, if_pos hlt, if_pos (by omega), w64 (by omega) (by omega), if_pos (by omega)]
    · have ih := ref_At_l0 post (pre ++ [x]) t (s + x.f1) (by omega) (by omega) hx.2 (by simpa using hl)
      rw [← mid_snoc] at ih
      have e1 : t - (s + x.f1) = t - s - x.f1 := by omega
      rw [e1] at ih
      rw [atS, if_neg c]
      refine Ev.step (fun k => ?_) ih
      simp only [signalbenchref08_At.l0]
      rw [rd_mid, if_pos hlt, if_pos (by omega), w64 (x := s + x.f1) (by omega) (by omega), if_neg (by omega), succ_mid _ _ hn]
theorem ref_At_ev {l : List S39} {t : Int} (hw : RunsWf l) (hl : l.length ≤ 140737488351232) : Ev (fun k => signalbenchref08_At.f k l t) (atV l t) := by
  unfold atV
  refine Ev.bind (ref_Valid_ev hw hl) ?_
  have stop : ∀ b : Bool, b = true → Ev (fun k => signalbenchref08_At.j0 k l t b) (-1, false) := fun b hb => by
    subst hb
    refine Ev.step (f := fun _ => some (-1, false)) (fun k => ?_) (Ev.now _)
    simp only [signalbenchref08_At.j0]
    rw [if_pos trivial]
  by_cases v : vld l = true
  · simp only [if_pos v]
    by_cases c : t < 0
    · rw [if_pos c]
      exact stop _ (by simpa using c)
    · rw [if_neg c]
      have hv := vld_iff.1 v
      have h := ref_At_l0 l [] t 0 (by omega) (by omega) hv.2.1 (by simpa using hl)
      rw [Int.sub_zero] at h
      refine Ev.step (fun k => ?_) h
      simp only [signalbenchref08_At.j0]
      rw [if_neg (by simpa using c)]
      rfl
  · simp only [if_neg v]
    rw [ite_self]
    exact stop _ rfl

/-! ### Long -/
def longV (l : List S39) : Int := if vld l = true then sm l else 0
theorem wave_sum_l0 : ∀ (post pre : List S39) (s : Int), 0 ≤ s → s + sm post ≤ 4611686018427387904 → RunsOk post → (pre ++ post).length ≤ 140737488351232 →
    Ev (fun k => wave_sum.l0 k s (pre ++ post) ((pre ++ post).length : Int) (pre.length : Int)) (s + sm post)
  | [], pre, s, h0, h1, hw, hl => by
    refine Ev.step (f := fun _ => some s) (fun k => ?_) ?_
    · simp only [wave_sum.l0]
      rw [if_neg (by simp)]
    · simp only [sm, Int.add_zero]
      exact Ev.now _
  | x :: post, pre, s, h0, h1, hw, hl => by
    have hx := hw.cons
    have hs := sm_nonneg hx.2
    simp only [sm] at h1
    have hlt := mid_lt pre post x
    have hn : pre.length ≤ 9223372036854775806 := by
      simp only [List.length_append, List.length_cons] at hl
      omega
    have ih := wave_sum_l0 post (pre ++ [x]) (s + x.f1) (by omega) (by omega) hx.2 (by simpa using hl)
    rw [← mid_snoc] at ih
    have e1 : s + sm (x :: post) = s + x.f1 + sm post := by
      simp only [sm]
      omega
    rw [e1]
    refine Ev.step (fun k => ?_) ih
    simp only [wave_sum.l0]
    rw [rd_mid, if_pos hlt, if_pos (by omega), if_pos hlt, w64 (x := s + x.f1) (by omega) (by omega), succ_mid _ _ hn]
theorem wave_sum_ev {l : List S39} (hw : RunsOk l) (hs : sm l ≤ 4611686018427387904) (hl : l.length ≤ 140737488351232) : Ev (fun k => wave_sum.f k l) (sm l) := by
  have h := wave_sum_l0 l [] 0 (by omega) (by omega) hw (by simpa using hl)
  rw [Int.zero_add] at h
  exact Ev.congr (fun k => rfl) h
theorem wave_Long_ev {l : List S39} (hw : RunsWf l) (hl : l.length ≤ 140737488351232) : Ev (fun k => wave_Long.f k l) (longV l) := by
  unfold longV
  refine Ev.bind (wave_Valid_ev hw hl) ?_
  by_cases v : vld l = true
  · simp only [if_pos v]
    have hv := vld_iff.1 v
    exact Ev.bind (wave_sum_ev hv.2.1 (by omega) hl) (Ev.now _)
  · simp only [if_neg v]
    exact Ev.now _
theorem ref_Long_l0 : ∀ (post pre : List S39) (s : Int), 0 ≤ s → s + sm post ≤ 4611686018427387904 → RunsOk post → (pre ++ post).length ≤ 140737488351232 →
    Ev (fun k => signalbenchref08_Long.l0 k (pre ++ post) s (pre.length : Int)) (s + sm post)
  | [], pre, s, h0, h1, hw, hl => by
    refine Ev.step (f := fun _ => some s) (fun k => ?_) ?_
    · simp only [signalbenchref08_Long.l0]
      rw [if_neg (by simp)]
    · simp only [sm, Int.add_zero]
      exact Ev.now _
  | x :: post, pre, s, h0, h1, hw, hl => by
    have hx := hw.cons
    have hs := sm_nonneg hx.2
    simp only [sm] at h1
    have hlt := mid_lt pre post x
    have hn : pre.length ≤ 9223372036854775806 := by
      simp only [List.length_append, List.length_cons] at hl
      omega
    have ih := ref_Long_l0 post (pre ++ [x]) (s + x.f1) (by omega) (by omega) hx.2 (by simpa using hl)
    rw [← mid_snoc] at ih
    have e1 : s + sm (x :: post) = s + x.f1 + sm post := by
      simp only [sm]
      omega
    rw [e1]
    refine Ev.step (fun k => ?_) ih
    simp only [signalbenchref08_Long.l0]
    rw [rd_mid, if_pos hlt, if_pos (by omega), w64 (x := s + x.f1) (by omega) (by omega), succ_mid _ _ hn]
theorem ref_Long_ev {l : List S39} (hw : RunsWf l) (hl : l.length ≤ 140737488351232) : Ev (fun k => signalbenchref08_Long.f k l) (longV l) := by
  unfold longV
  refine Ev.bind (ref_Valid_ev hw hl) ?_
  by_cases v : vld l = true
  · simp only [if_pos v]
    have hv := vld_iff.1 v
    have h := ref_Long_l0 l [] 0 (by omega) (by omega) hv.2.1 (by simpa using hl)
    rw [Int.zero_add] at h
    exact Ev.congr (fun k => rfl) h
  · simp only [if_neg v]
    exact Ev.now _

/-! ### joined, Clean -/
def jnc (x : S39) : List S39 → List S39
  | [] => [x]
  | y :: l => if x.f0 = y.f0 then jnc ⟨x.f0, x.f1 + y.f1⟩ l else x :: jnc y l
def jn : List S39 → List S39
  | [] => []
  | x :: l => jnc x l
theorem last_at (o : List S39) (x : S39) (h : o.length ≤ 9223372036854775806) : wrap64 (((o ++ [x]).length : Int) - 1) = (o.length : Int) := by
  rw [w64 (by simp only [List.length_append, List.length_cons, List.length_nil]; omega) (by simp only [List.length_append, List.length_cons, List.length_nil]; omega)]
  simp
theorem rd_last (o : List S39) (x : S39) : rd_T39 (o ++ [x]) (o.length : Int) = x := rd_mid o [] x
theorem set_last (o : List S39) (x y : S39) : (o ++ [x]).set ((o.length : Int)).toNat y = o ++ [y] := by
  rw [Int.toNat_natCast, List.set_append_right _ _ (Nat.le_refl _), Nat.sub_self]
  rfl
theorem snoc_pos (o : List S39) (x : S39) : ((o ++ [x]).length : Int) > 0 := by
  simp only [List.length_append, List.length_cons, List.length_nil]
  omega
theorem last_lt (o : List S39) (x : S39) : (o.length : Int) < ((o ++ [x]).length : Int) := mid_lt o [] x
theorem wave_joined_l0 : ∀ (post pre o : List S39) (x : S39), 0 ≤ x.f1 → x.f1 + sm post ≤ 4611686018427387904 → RunsOk post → (pre ++ post).length ≤ 140737488351232 → o.length + post.length ≤ 4398046511104 →
    Ev (fun k => wave_joined.l0 k (o ++ [x]) (pre ++ post) ((pre ++ post).length : Int) (pre.length : Int)) (o ++ jnc x post)
  | [], pre, o, x, h0, h1, hw, hl, ho => by
    refine Ev.step (f := fun _ => some (o ++ [x])) (fun k => ?_) (Ev.now _)
    simp only [wave_joined.l0]
    rw [if_neg (by simp)]
  | y :: post, pre, o, x, h0, h1, hw, hl, ho => by
    have hy := hw.cons
    have hs := sm_nonneg hy.2
    simp only [sm] at h1
    simp only [List.length_cons] at ho
    have hlt := mid_lt pre post y
    have hn : pre.length ≤ 9223372036854775806 := by
      simp only [List.length_append, List.length_cons] at hl
      omega
    by_cases c : x.f0 = y.f0
    · have ih := wave_joined_l0 post (pre ++ [y]) o ⟨x.f0, x.f1 + y.f1⟩ (by simp only; omega) (by simp only; omega) hy.2 (by simpa using hl) (by omega)
      rw [← mid_snoc pre post y] at ih
      rw [jnc, if_pos c]
      refine Ev.step (fun k => ?_) ih
      simp only [wave_joined.l0]
      rw [rd_mid, if_pos hlt, if_pos (by omega), if_pos hlt, if_pos (snoc_pos o x), last_at o x (by omega), if_pos (by omega), if_pos (last_lt o x), rd_last, if_pos c, set_last, w64 (x := x.f1 + y.f1) (by omega) (by omega), succ_mid pre y hn]
    · have ih := wave_joined_l0 post (pre ++ [y]) (o ++ [x]) y (by omega) (by omega) hy.2 (by simpa using hl) (by simp only [List.length_append, List.length_cons, List.length_nil]; omega)
      rw [← mid_snoc pre post y] at ih
      rw [jnc, if_neg c, show o ++ x :: jnc y post = (o ++ [x]) ++ jnc y post by simp]
      refine Ev.step (fun k => ?_) ih
      simp only [wave_joined.l0]
      rw [rd_mid, if_pos hlt, if_pos (by omega), if_pos hlt, if_pos (snoc_pos o x), last_at o x (by omega), if_pos (by omega), if_pos (last_lt o x), rd_last, if_neg c, if_pos (by simp only [List.length_append, List.length_cons, List.length_nil]; omega), succ_mid pre y hn]
theorem wave_joined_ev {l : List S39} (hw : RunsOk l) (hs : sm l ≤ 4611686018427387904) (hl : l.length ≤ 4398046511104) : Ev (fun k => wave_joined.f k l) (jn l) := by
  refine Ev.congr (f := fun k => wave_joined.l0 k [] l (l.length : Int) 0) (fun k => rfl) ?_
  cases l with
  | nil =>
    refine Ev.step (f := fun _ => some []) (fun k => ?_) (Ev.now _)
    simp only [wave_joined.l0]
    rw [if_neg (by simp)]
  | cons x l =>
    have hx := hw.cons
    simp only [sm] at hs
    simp only [List.length_cons] at hl
    have h := wave_joined_l0 l [x] [] x (by omega) (by omega) hx.2 (by simp; omega) (by simp; omega)
    refine Ev.step (fun k => ?_) h
    simp only [wave_joined.l0]
    have e := rd_mid [] l x
    simp only [List.nil_append, List.length_nil] at e
    have e' : rd_T39 (x :: l) 0 = x := e
    rw [e', if_pos (by simp only [List.length_cons]; omega), if_pos (by omega), if_pos (by simp only [List.length_cons]; omega), if_neg (by simp), if_pos (by simp), wrap01]
    rfl
/-- The clean wave. -/
def cleanV (l : List S39) : List S39 := if vld l = true then jn l else []
theorem wave_Clean_ev {l : List S39} (hw : RunsWf l) (hl : l.length ≤ 140737488351232) : Ev (fun k => wave_Clean.f k l) (cleanV l) := by
  unfold cleanV
  refine Ev.bind (wave_Valid_ev hw hl) ?_
  by_cases v : vld l = true
  · simp only [if_pos v]
    have hv := vld_iff.1 v
    exact Ev.bind (wave_joined_ev hv.2.1 (by omega) (by omega)) (Ev.now _)
  · simp only [if_neg v]
    exact Ev.now _
theorem ref_joined_l0 : ∀ (post pre o : List S39) (x : S39), 0 ≤ x.f1 → x.f1 + sm post ≤ 4611686018427387904 → RunsOk post → (pre ++ post).length ≤ 140737488351232 → o.length + post.length ≤ 4398046511104 →
    Ev (fun k => signalbenchref08_joined.l0 k (pre ++ post) (o ++ [x]) (pre.length : Int)) (o ++ jnc x post)
  | [], pre, o, x, h0, h1, hw, hl, ho => by
    refine Ev.step (f := fun _ => some (o ++ [x])) (fun k => ?_) (Ev.now _)
    simp only [signalbenchref08_joined.l0]
    rw [if_neg (by simp)]
  | y :: post, pre, o, x, h0, h1, hw, hl, ho => by
    have hy := hw.cons
    have hs := sm_nonneg hy.2
    simp only [sm] at h1
    simp only [List.length_cons] at ho
    have hlt := mid_lt pre post y
    have hn : pre.length ≤ 9223372036854775806 := by
      simp only [List.length_append, List.length_cons] at hl
      omega
    by_cases c : x.f0 = y.f0
    · have ih := ref_joined_l0 post (pre ++ [y]) o ⟨x.f0, x.f1 + y.f1⟩ (by simp only; omega) (by simp only; omega) hy.2 (by simpa using hl) (by omega)
      rw [← mid_snoc pre post y] at ih
      rw [jnc, if_pos c]
      refine Ev.step (fun k => ?_) ih
      simp only [signalbenchref08_joined.l0]
      rw [rd_mid, if_pos hlt, if_pos (snoc_pos o x), last_at o x (by omega), if_pos (by omega), if_pos (last_lt o x), if_pos (by omega), rd_last, if_pos c, set_last, w64 (x := x.f1 + y.f1) (by omega) (by omega), succ_mid pre y hn]
    · have ih := ref_joined_l0 post (pre ++ [y]) (o ++ [x]) y (by omega) (by omega) hy.2 (by simpa using hl) (by simp only [List.length_append, List.length_cons, List.length_nil]; omega)
      rw [← mid_snoc pre post y] at ih
      rw [jnc, if_neg c, show o ++ x :: jnc y post = (o ++ [x]) ++ jnc y post by simp]
      refine Ev.step (fun k => ?_) ih
      simp only [signalbenchref08_joined.l0]
      rw [rd_mid, if_pos hlt, if_pos (snoc_pos o x), last_at o x (by omega), if_pos (by omega), if_pos (last_lt o x), if_pos (by omega), rd_last, if_neg c, if_pos (by simp only [List.length_append, List.length_cons, List.length_nil]; omega), succ_mid pre y hn]
theorem ref_joined_ev {l : List S39} (hw : RunsOk l) (hs : sm l ≤ 4611686018427387904) (hl : l.length ≤ 4398046511104) : Ev (fun k => signalbenchref08_joined.f k l) (jn l) := by
  have hf : ∀ k, signalbenchref08_joined.f k l = signalbenchref08_joined.l0 k l [] 0 := fun k => by
    unfold signalbenchref08_joined.f
    rw [if_pos (by omega), if_pos (by omega)]
    rfl
  refine Ev.congr hf ?_
  cases l with
  | nil =>
    refine Ev.step (f := fun _ => some []) (fun k => ?_) (Ev.now _)
    simp only [signalbenchref08_joined.l0]
    rw [if_neg (by simp)]
  | cons x l =>
    have hx := hw.cons
    simp only [sm] at hs
    simp only [List.length_cons] at hl
    have h := ref_joined_l0 l [x] [] x (by omega) (by omega) hx.2 (by simp; omega) (by simp; omega)
    refine Ev.step (fun k => ?_) h
    simp only [signalbenchref08_joined.l0]
    have e := rd_mid [] l x
    simp only [List.nil_append, List.length_nil] at e
    have e' : rd_T39 (x :: l) 0 = x := e
    rw [e', if_pos (by simp only [List.length_cons]; omega), if_neg (by simp), if_pos (by omega), if_pos (by simp), wrap01]
    rfl
theorem ref_Clean_ev {l : List S39} (hw : RunsWf l) (hl : l.length ≤ 140737488351232) : Ev (fun k => signalbenchref08_Clean.f k l) (cleanV l) := by
  unfold cleanV
  refine Ev.bind (ref_Valid_ev hw hl) ?_
  by_cases v : vld l = true
  · simp only [if_pos v]
    have hv := vld_iff.1 v
    exact Ev.bind (ref_joined_ev hv.2.1 (by omega) (by omega)) (Ev.now _)
  · simp only [if_neg v]
    exact Ev.now _

/-! ### what joining keeps -/
theorem jnc_sm : ∀ (l : List S39) (x : S39), sm (jnc x l) = x.f1 + sm l
  | [], x => rfl
  | y :: l, x => by
    unfold jnc
    split
    · rw [jnc_sm l]
      simp only [sm]
      omega
    · simp only [sm]
      rw [jnc_sm l y]
theorem jn_sm (l : List S39) : sm (jn l) = sm l := by
  cases l with
  | nil => rfl
  | cons x l => exact jnc_sm l x
theorem jnc_len : ∀ (l : List S39) (x : S39), (jnc x l).length ≤ l.length + 1
  | [], x => Nat.le_refl _
  | y :: l, x => by
    unfold jnc
    split
    · have := jnc_len l ⟨x.f0, x.f1 + y.f1⟩
      simp only [List.length_cons]
      omega
    · have := jnc_len l y
      simp only [List.length_cons]
      omega
theorem jn_len (l : List S39) : (jn l).length ≤ l.length := by
  cases l with
  | nil => exact Nat.le_refl _
  | cons x l => exact jnc_len l x
theorem jnc_ok : ∀ (l : List S39) (x : S39), RunsOk (x :: l) → RunsOk (jnc x l)
  | [], x, h => h
  | y :: l, x, h => by
    have hx := h.cons
    have hy := hx.2.cons
    unfold jnc
    split
    · refine jnc_ok l _ (fun z hz => ?_)
      rcases List.mem_cons.1 hz with rfl | hz
      · exact ⟨hx.1.1, by simp only; omega⟩
      · exact hy.2 z hz
    · intro z hz
      rcases List.mem_cons.1 hz with rfl | hz
      · exact hx.1
      · exact jnc_ok l y hx.2 z hz
theorem jn_ok {l : List S39} (h : RunsOk l) : RunsOk (jn l) := by
  cases l with
  | nil => exact h
  | cons x l => exact jnc_ok l x h
theorem jn_vld {l : List S39} (h : vld l = true) : vld (jn l) = true := by
  have hv := vld_iff.1 h
  have h1 := jn_len l
  exact vld_iff.2 ⟨by omega, jn_ok hv.2.1, by rw [jn_sm]; exact hv.2.2⟩
/-- No two runs of one level side by side: behind a run of level p. -/
def apartF : Int → List S39 → Prop
  | _, [] => True
  | p, x :: l => p ≠ x.f0 ∧ apartF x.f0 l
def apart : List S39 → Prop
  | [] => True
  | x :: l => apartF x.f0 l
theorem jnc_head : ∀ (l : List S39) (x : S39), ∃ t m, jnc x l = ⟨x.f0, t⟩ :: m
  | [], x => ⟨x.f1, [], rfl⟩
  | y :: l, x => by
    unfold jnc
    split
    · exact jnc_head l ⟨x.f0, x.f1 + y.f1⟩
    · exact ⟨x.f1, _, rfl⟩
theorem jnc_apart : ∀ (l : List S39) (x : S39), apart (jnc x l)
  | [], x => trivial
  | y :: l, x => by
    unfold jnc
    split
    · exact jnc_apart l _
    · rename_i c
      obtain ⟨t, m, e⟩ := jnc_head l y
      have h := jnc_apart l y
      rw [e] at h ⊢
      exact ⟨c, h⟩
theorem jn_apart (l : List S39) : apart (jn l) := by
  cases l with
  | nil => trivial
  | cons x l => exact jnc_apart l x
theorem jnc_of_apart : ∀ (l : List S39) (x : S39), apartF x.f0 l → jnc x l = x :: l
  | [], x, _ => rfl
  | y :: l, x, h => by
    unfold jnc
    rw [if_neg h.1, jnc_of_apart l y h.2]
theorem jn_of_apart {l : List S39} (h : apart l) : jn l = l := by
  cases l with
  | nil => rfl
  | cons x l => exact jnc_of_apart l x h
theorem jn_jn (l : List S39) : jn (jn l) = jn l := jn_of_apart (jn_apart l)
theorem jnc_at : ∀ (l : List S39) (x : S39) (t : Int), 0 ≤ x.f1 → RunsOk l → atS (jnc x l) t = atS (x :: l) t
  | [], x, t, _, _ => rfl
  | y :: l, x, t, h0, h => by
    have hy := h.cons
    unfold jnc
    split
    · rename_i c
      rw [jnc_at l _ t (by simp only; omega) hy.2]
      simp only [atS]
      by_cases c1 : t < x.f1
      · rw [if_pos c1, if_pos (by omega)]
      · rw [if_neg c1]
        by_cases c2 : t - x.f1 < y.f1
        · rw [if_pos c2, if_pos (by omega), c]
        · rw [if_neg c2, if_neg (by omega)]
          congr 1
          omega
    · simp only [atS]
      rw [jnc_at l y _ (by omega) hy.2]
      simp only [atS]
theorem jn_at {l : List S39} (h : RunsOk l) (t : Int) : atS (jn l) t = atS l t := by
  cases l with
  | nil => rfl
  | cons x l => exact jnc_at l x t (by have := h.cons; omega) h.cons.2

/-! ### Edges -/
/-- Behind a run of level p, at the tick at. -/
def edF (p at_ : Int) : List S39 → List Int
  | [] => []
  | x :: l => if p = x.f0 then edF x.f0 (at_ + x.f1) l else at_ :: edF x.f0 (at_ + x.f1) l
def eds : List S39 → List Int
  | [] => []
  | x :: l => edF x.f0 x.f1 l
def edsV (l : List S39) : List Int := if vld l = true then eds l else []
theorem rd_prev (q post : List S39) (w : S39) : rd_T39 ((q ++ [w]) ++ post) (q.length : Int) = w := by
  rw [← mid_snoc]
  exact rd_mid q post w
theorem prev_lt (q post : List S39) (w : S39) : (q.length : Int) < (((q ++ [w]) ++ post).length : Int) := by
  rw [← mid_snoc]
  exact mid_lt q post w
theorem wave_Edges_l0 : ∀ (post q : List S39) (w : S39) (out : List Int) (at_ : Int), 0 ≤ at_ → at_ + sm post ≤ 4611686018427387904 → RunsOk post → ((q ++ [w]) ++ post).length ≤ 140737488351232 → out.length + post.length ≤ 4398046511104 →
    Ev (fun k => wave_Edges.l0 k ((q ++ [w]) ++ post) out at_ ((q ++ [w]) ++ post) (((q ++ [w]) ++ post).length : Int) ((q ++ [w]).length : Int)) (out ++ edF w.f0 at_ post)
  | [], q, w, out, at_, h0, h1, hw, hl, ho => by
    refine Ev.step (f := fun _ => some out) (fun k => ?_) (by rw [edF, List.append_nil]; exact Ev.now _)
    simp only [wave_Edges.l0]
    rw [if_neg (by simp)]
  | x :: post, q, w, out, at_, h0, h1, hw, hl, ho => by
    have hx := hw.cons
    have hs := sm_nonneg hx.2
    simp only [sm] at h1
    simp only [List.length_cons] at ho
    have hlt := mid_lt (q ++ [w]) post x
    have hn : (q ++ [w]).length ≤ 9223372036854775806 := by
      simp only [List.length_append, List.length_cons] at hl ⊢
      omega
    have hq : q.length ≤ 9223372036854775806 := by
      simp only [List.length_append, List.length_cons] at hn
      omega
    have hr := rd_prev q (x :: post) w
    have hp := prev_lt q (x :: post) w
    by_cases c : w.f0 = x.f0
    · have ih := wave_Edges_l0 post (q ++ [w]) x out (at_ + x.f1) (by omega) (by omega) hx.2 (by simpa using hl) (by omega)
      rw [← mid_snoc (q ++ [w]) post x] at ih
      rw [edF, if_pos c]
      refine Ev.step (fun k => ?_) ih
      simp only [wave_Edges.l0]
      rw [rd_mid, if_pos hlt, if_pos (by omega), if_pos hlt, if_pos (snoc_pos q w), last_at q w hq, if_pos (by omega), if_pos hp, hr, if_pos c, w64 (x := at_ + x.f1) (by omega) (by omega), succ_mid (q ++ [w]) x hn]
    · have ih := wave_Edges_l0 post (q ++ [w]) x (out ++ [at_]) (at_ + x.f1) (by omega) (by omega) hx.2 (by simpa using hl) (by simp only [List.length_append, List.length_cons, List.length_nil]; omega)
      rw [← mid_snoc (q ++ [w]) post x] at ih
      rw [edF, if_neg c, mid_snoc out (edF x.f0 (at_ + x.f1) post) at_]
      refine Ev.step (fun k => ?_) ih
      simp only [wave_Edges.l0]
      rw [rd_mid, if_pos hlt, if_pos (by omega), if_pos hlt, if_pos (snoc_pos q w), last_at q w hq, if_pos (by omega), if_pos hp, hr, if_neg c, if_pos (by omega), w64 (x := at_ + x.f1) (by omega) (by omega), succ_mid (q ++ [w]) x hn]
theorem rd_zero (x : S39) (l : List S39) : rd_T39 (x :: l) 0 = x := by
  have e := rd_mid [] l x
  simp only [List.nil_append, List.length_nil] at e
  exact e
theorem wave_Edges_ev {l : List S39} (hw : RunsWf l) (hl : l.length ≤ 140737488351232) : Ev (fun k => wave_Edges.f k l) (edsV l) := by
  unfold edsV
  refine Ev.bind (wave_Valid_ev hw hl) ?_
  by_cases v : vld l = true
  · simp only [if_pos v]
    have hv := vld_iff.1 v
    cases l with
    | nil =>
      refine Ev.step (f := fun _ => some []) (fun k => ?_) (Ev.now _)
      simp only [wave_Edges.l0]
      rw [if_neg (by simp)]
    | cons x l =>
      have hx := hv.2.1.cons
      have hs := hv.2.2
      have hc := hv.1
      have hs0 := sm_nonneg hx.2
      simp only [sm] at hs
      simp only [List.length_cons] at hc
      have h := wave_Edges_l0 l [] x [] x.f1 (by omega) (by omega) hx.2 (by simpa using hl) (by simp only [List.length_nil]; omega)
      refine Ev.step (fun k => ?_) h
      simp only [wave_Edges.l0]
      rw [rd_zero, if_pos (by simp only [List.length_cons]; omega), if_pos (by omega), if_pos (by simp only [List.length_cons]; omega), if_neg (by omega), w64 (x := 0 + x.f1) (by omega) (by omega), Int.zero_add, wrap01]
      rfl
  · simp only [if_neg v]
    exact Ev.now _
/-- Where the runs begin, from the tick at on. -/
def bgF (at_ : Int) : List S39 → List Int
  | [] => []
  | x :: l => at_ :: bgF (at_ + x.f1) l
def bgs : List S39 → List Int
  | [] => []
  | x :: l => bgF x.f1 l
theorem bgs_jnc : ∀ (l : List S39) (x : S39) (at_ : Int), (match jnc x l with | [] => [] | y :: m => bgF (at_ + y.f1) m) = edF x.f0 (at_ + x.f1) l
  | [], x, at_ => rfl
  | y :: l, x, at_ => by
    unfold jnc edF
    by_cases c : x.f0 = y.f0
    · rw [if_pos c, if_pos c, bgs_jnc l ⟨x.f0, x.f1 + y.f1⟩ at_]
      simp only
      rw [Int.add_assoc, c]
    · rw [if_neg c, if_neg c]
      have h := bgs_jnc l y (at_ + x.f1)
      obtain ⟨t, m, e⟩ := jnc_head l y
      rw [e] at h ⊢
      simp only at h ⊢
      rw [bgF, h]
theorem bgs_jn (l : List S39) : bgs (jn l) = eds l := by
  cases l with
  | nil => rfl
  | cons x l =>
    have h := bgs_jnc l x 0
    simp only [Int.zero_add] at h
    exact h
theorem ref_Edges_l0 : ∀ (post q : List S39) (w : S39) (out : List Int) (at_ : Int), 0 ≤ at_ → at_ + sm post ≤ 4611686018427387904 → RunsOk post → ((q ++ [w]) ++ post).length ≤ 140737488351232 → out.length + post.length ≤ 4398046511104 →
    Ev (fun k => signalbenchref08_Edges.l0 k ((q ++ [w]) ++ post) out at_ ((q ++ [w]).length : Int)) (out ++ bgF at_ post)
  | [], q, w, out, at_, h0, h1, hw, hl, ho => by
    refine Ev.step (f := fun _ => some out) (fun k => ?_) (by rw [bgF, List.append_nil]; exact Ev.now _)
    simp only [signalbenchref08_Edges.l0]
    rw [if_neg (by simp)]
  | x :: post, q, w, out, at_, h0, h1, hw, hl, ho => by
    have hx := hw.cons
    have hs := sm_nonneg hx.2
    simp only [sm] at h1
    simp only [List.length_cons] at ho
    have hlt := mid_lt (q ++ [w]) post x
    have hn : (q ++ [w]).length ≤ 9223372036854775806 := by
      simp only [List.length_append, List.length_cons] at hl ⊢
      omega
    have ih := ref_Edges_l0 post (q ++ [w]) x (out ++ [at_]) (at_ + x.f1) (by omega) (by omega) hx.2 (by simpa using hl) (by simp only [List.length_append, List.length_cons, List.length_nil]; omega)
    rw [← mid_snoc (q ++ [w]) post x] at ih
    rw [bgF, mid_snoc out (bgF (at_ + x.f1) post) at_]
    refine Ev.step (fun k => ?_) ih
    simp only [signalbenchref08_Edges.l0]
    rw [rd_mid, if_pos hlt, if_pos (snoc_pos q w), if_pos (by omega), if_pos (by omega), w64 (x := at_ + x.f1) (by omega) (by omega), succ_mid (q ++ [w]) x hn]
theorem ref_Edges_ev {l : List S39} (hw : RunsWf l) (hl : l.length ≤ 140737488351232) : Ev (fun k => signalbenchref08_Edges.f k l) (edsV l) := by
  unfold edsV
  refine Ev.bind (ref_Clean_ev hw hl) ?_
  unfold cleanV
  by_cases v : vld l = true
  · simp only [if_pos v]
    have hv := vld_iff.1 v
    have hj := vld_iff.1 (jn_vld v)
    rw [← bgs_jn]
    generalize jn l = m at hj
    cases m with
    | nil =>
      refine Ev.step (f := fun _ => some []) (fun k => ?_) (Ev.now _)
      simp only [signalbenchref08_Edges.l0]
      rw [if_neg (by simp)]
    | cons x m =>
      have hx := hj.2.1.cons
      have hs := hj.2.2
      have hc := hj.1
      have hs0 := sm_nonneg hx.2
      simp only [sm] at hs
      simp only [List.length_cons] at hc
      have h := ref_Edges_l0 m [] x [] x.f1 (by omega) (by omega) hx.2 (by simp only [List.length_append, List.length_cons, List.length_nil]; omega) (by simp only [List.length_nil]; omega)
      refine Ev.step (fun k => ?_) h
      simp only [signalbenchref08_Edges.l0]
      rw [rd_zero, if_pos (by simp only [List.length_cons]; omega), if_neg (by omega), if_pos (by omega), w64 (x := 0 + x.f1) (by omega) (by omega), Int.zero_add, wrap01]
      rfl
  · simp only [if_neg v]
    refine Ev.step (f := fun _ => some []) (fun k => ?_) (Ev.now _)
    simp only [signalbenchref08_Edges.l0]
    rw [if_neg (by simp)]

/-! ### Same, ints: of equal lists -/
theorem ref_Same_l0 : ∀ (post pre : List S39), (pre ++ post).length ≤ 140737488351232 → Ev (fun k => signalbenchref08_Same.l0 k (pre ++ post) (pre ++ post) (pre.length : Int)) true
  | [], pre, hl => by
    refine Ev.step (f := fun _ => some true) (fun k => ?_) (Ev.now _)
    simp only [signalbenchref08_Same.l0]
    rw [if_neg (by simp)]
  | x :: post, pre, hl => by
    have hlt := mid_lt pre post x
    have hn : pre.length ≤ 9223372036854775806 := by
      simp only [List.length_append, List.length_cons] at hl
      omega
    have ih := ref_Same_l0 post (pre ++ [x]) (by simpa using hl)
    rw [← mid_snoc pre post x] at ih
    refine Ev.step (fun k => ?_) ih
    simp only [signalbenchref08_Same.l0]
    rw [if_pos hlt, if_pos (by omega), if_pos hlt, if_neg (by simp), succ_mid pre x hn]
theorem ref_Same_ev (l : List S39) (hl : l.length ≤ 140737488351232) : Ev (fun k => signalbenchref08_Same.f k l l) true := by
  refine Ev.congr (fun k => ?_) (ref_Same_l0 l [] (by simpa using hl))
  unfold signalbenchref08_Same.f
  rw [if_pos rfl]
  rfl
theorem ref_Same_of {a b : List S39} (e : a = b) (hl : a.length ≤ 140737488351232) : Ev (fun k => signalbenchref08_Same.f k a b) true := by
  subst e
  exact ref_Same_ev a hl

/-! ### FromEdges -/
def chkE (at_ long : Int) : List Int → Bool
  | [] => true
  | e :: es => if at_ < e ∧ e < long then chkE e long es else false
def bldE (lev at_ long : Int) : List Int → List S39
  | [] => if at_ < long then [⟨lev, long - at_⟩] else []
  | e :: es => ⟨lev, e - at_⟩ :: bldE (1 - lev) e long es
def feV (first : Int) (edges : List Int) (long : Int) : List S39 × Int :=
  if first = 0 ∨ first = 1 then (if long < 0 ∨ 1099511627776 < long then ([], 2) else if 262144 ≤ edges.length then ([], 6) else if chkE 0 long edges = true then (bldE first 0 long edges, 0) else ([], 7)) else ([], 1)
theorem rdi_mid (pre post : List Int) (x : Int) : rd (pre ++ x :: post) (pre.length : Int) = x := by simp [rd, List.getD]
theorem midi_lt (pre post : List Int) (x : Int) : (pre.length : Int) < ((pre ++ x :: post).length : Int) := by
  simp only [List.length_append, List.length_cons]
  omega
theorem xor1 {a : Int} (h : a = 0 ∨ a = 1) : Go.bits .xor .i64 a 1 = 1 - a := by
  rcases h with rfl | rfl
  · exact xor1_0
  · exact xor1_1
theorem wave_FromEdges_l0 : ∀ (post pre : List Int) (lev long at_ : Int) (out : List S39), (lev = 0 ∨ lev = 1) → 0 ≤ at_ → at_ ≤ long → long ≤ 1099511627776 → (pre ++ post).length ≤ 262144 → out.length + post.length ≤ 262144 →
    Ev (fun k => wave_FromEdges.l0 k lev long out at_ (pre ++ post) ((pre ++ post).length : Int) (pre.length : Int)) (if chkE at_ long post = true then (out ++ bldE lev at_ long post, 0) else ([], 7))
  | [], pre, lev, long, at_, out, hv, h0, h1, h2, hl, ho => by
    simp only [List.length_nil] at ho
    by_cases c : at_ < long
    · refine Ev.step (f := fun _ => some (out ++ bldE lev at_ long [], 0)) (fun k => ?_) (by rw [chkE, if_pos rfl]; exact Ev.now _)
      simp only [wave_FromEdges.l0]
      rw [if_neg (by simp), if_pos (by omega), if_pos (by omega), w64 (by omega) (by omega), bldE, if_pos c]
    · refine Ev.step (f := fun _ => some (out ++ bldE lev at_ long [], 0)) (fun k => ?_) (by rw [chkE, if_pos rfl]; exact Ev.now _)
      simp only [wave_FromEdges.l0]
      rw [if_neg (by simp), if_neg (by omega), bldE, if_neg c, List.append_nil]
  | e :: post, pre, lev, long, at_, out, hv, h0, h1, h2, hl, ho => by
    have hlt := midi_lt pre post e
    simp only [List.length_cons] at ho
    have hn : pre.length ≤ 9223372036854775806 := by
      simp only [List.length_append, List.length_cons] at hl
      omega
    by_cases c : at_ < e ∧ e < long
    · have ih := wave_FromEdges_l0 post (pre ++ [e]) (1 - lev) long e (out ++ [⟨lev, e - at_⟩]) (by omega) (by omega) (by omega) h2 (by simpa using hl) (by simp only [List.length_append, List.length_cons, List.length_nil]; omega)
      rw [← mid_snoc pre post e] at ih
      rw [chkE, if_pos c, bldE, mid_snoc out (bldE (1 - lev) e long post) ⟨lev, e - at_⟩]
      refine Ev.step (fun k => ?_) ih
      simp only [wave_FromEdges.l0]
      rw [rdi_mid, if_pos hlt, if_pos (by omega), if_pos hlt, if_neg (by omega), if_neg (by omega), if_pos (by omega), w64 (x := e - at_) (by omega) (by omega), xor1 hv, succ_mid pre e hn]
    · rw [chkE, if_neg c, if_neg (by simp)]
      refine Ev.step (f := fun _ => some ([], 7)) (fun k => ?_) (Ev.now _)
      simp only [wave_FromEdges.l0]
      rw [rdi_mid, if_pos hlt, if_pos (by omega), if_pos hlt]
      by_cases c1 : e ≤ at_
      · rw [if_pos c1]
      · rw [if_neg c1, if_pos (by omega)]
theorem wave_FromEdges_ev {first long : Int} {edges : List Int} (hf : (Lit.int .i64 first).wf = true) : Ev (fun k => wave_FromEdges.f k first edges long) (feV first edges long) := by
  unfold feV
  by_cases c : first = 0 ∨ first = 1
  · rw [if_pos c]
    by_cases c1 : long < 0 ∨ 1099511627776 < long
    · rw [if_pos c1]
      refine Ev.congr (f := fun k => wave_FromEdges.j0 k first edges long true) (fun k => ?_) (Ev.step (f := fun _ => some ([], 2)) (fun k => ?_) (Ev.now _))
      · unfold wave_FromEdges.f
        rw [if_pos ((andNot1 hf).2 c)]
        by_cases c2 : long < 0
        · rw [if_pos c2]
        · rw [if_neg c2, decide_eq_true (by omega)]
      · simp only [wave_FromEdges.j0]
        rw [if_pos trivial]
    · rw [if_neg c1]
      refine Ev.congr (f := fun k => wave_FromEdges.j0 k first edges long false) (fun k => ?_) ?_
      · unfold wave_FromEdges.f
        rw [if_pos ((andNot1 hf).2 c), if_neg (by omega), decide_eq_false (by omega)]
      · by_cases c2 : 262144 ≤ edges.length
        · rw [if_pos c2]
          refine Ev.step (f := fun _ => some ([], 6)) (fun k => ?_) (Ev.now _)
          simp only [wave_FromEdges.j0]
          rw [if_neg (by simp), if_pos (by omega)]
        · rw [if_neg c2]
          have h := wave_FromEdges_l0 edges [] first long 0 [] c (by omega) (by omega) (by omega) (by simp; omega) (by simp; omega)
          refine Ev.step (fun k => ?_) h
          simp only [wave_FromEdges.j0]
          rw [if_neg (by simp), if_neg (by omega)]
          rfl
  · rw [if_neg c]
    refine Ev.congr (fun k => ?_) (Ev.now _)
    unfold wave_FromEdges.f
    rw [if_neg (fun h => c ((andNot1 hf).1 h))]
theorem ref_FromEdges_l1 : ∀ (post pre : List Int) (lev long at_ : Int) (out : List S39), (lev = 0 ∨ lev = 1) → 0 ≤ at_ → at_ ≤ long → long ≤ 1099511627776 → chkE at_ long post = true → (pre ++ post).length ≤ 262144 → out.length + post.length ≤ 262144 →
    Ev (fun k => signalbenchref08_FromEdges.l1 k (pre ++ post) long at_ out lev (pre.length : Int)) (out ++ bldE lev at_ long post, 0)
  | [], pre, lev, long, at_, out, hv, h0, h1, h2, hc, hl, ho => by
    simp only [List.length_nil] at ho
    refine Ev.step (f := fun _ => some (out ++ bldE lev at_ long [], 0)) (fun k => ?_) (Ev.now _)
    simp only [signalbenchref08_FromEdges.l1]
    by_cases c : at_ < long
    · rw [if_neg (by simp), if_pos (by omega), if_pos (by omega), w64 (by omega) (by omega), bldE, if_pos c]
    · rw [if_neg (by simp), if_neg (by omega), bldE, if_neg c, List.append_nil]
  | e :: post, pre, lev, long, at_, out, hv, h0, h1, h2, hc, hl, ho => by
    have hlt := midi_lt pre post e
    simp only [List.length_cons] at ho
    have hn : pre.length ≤ 9223372036854775806 := by
      simp only [List.length_append, List.length_cons] at hl
      omega
    have c : at_ < e ∧ e < long := by
      rw [chkE] at hc
      by_cases c : at_ < e ∧ e < long
      · exact c
      · rw [if_neg c] at hc
        cases hc
    rw [chkE, if_pos c] at hc
    have ih := ref_FromEdges_l1 post (pre ++ [e]) (1 - lev) long e (out ++ [⟨lev, e - at_⟩]) (by omega) (by omega) (by omega) h2 hc (by simpa using hl) (by simp only [List.length_append, List.length_cons, List.length_nil]; omega)
    rw [← mid_snoc pre post e] at ih
    rw [bldE, mid_snoc out (bldE (1 - lev) e long post) ⟨lev, e - at_⟩]
    refine Ev.step (fun k => ?_) ih
    simp only [signalbenchref08_FromEdges.l1]
    rw [rdi_mid, if_pos hlt, if_pos (by omega), if_pos (by omega), w64 (x := e - at_) (by omega) (by omega), w64 (x := 1 - lev) (by omega) (by omega), succ_mid pre e hn]
theorem ref_FromEdges_l0 : ∀ (post pre : List Int) (first long at_ : Int) (r : List S39 × Int), (pre ++ post).length ≤ 262144 → (chkE at_ long post = true → Ev (fun k => signalbenchref08_FromEdges.l1 k (pre ++ post) long 0 [] first 0) r) → (chkE at_ long post = false → r = ([], 7)) →
    Ev (fun k => signalbenchref08_FromEdges.l0 k first (pre ++ post) long at_ (pre.length : Int)) r
  | [], pre, first, long, at_, r, hl, hp, hn => by
    refine Ev.step (fun k => ?_) (hp rfl)
    simp only [signalbenchref08_FromEdges.l0]
    rw [if_neg (by simp)]
  | e :: post, pre, first, long, at_, r, hl, hp, hf => by
    have hlt := midi_lt pre post e
    have hn : pre.length ≤ 9223372036854775806 := by
      simp only [List.length_append, List.length_cons] at hl
      omega
    by_cases c : at_ < e ∧ e < long
    · rw [chkE, if_pos c] at hp hf
      have ih := ref_FromEdges_l0 post (pre ++ [e]) first long e r (by simpa using hl) (by rw [← mid_snoc pre post e]; exact hp) hf
      rw [← mid_snoc pre post e] at ih
      refine Ev.step (fun k => ?_) ih
      simp only [signalbenchref08_FromEdges.l0]
      rw [rdi_mid, if_pos hlt, if_pos (by omega), if_neg (by omega), if_neg (by omega), succ_mid pre e hn]
    · rw [chkE, if_neg c] at hf
      rw [hf rfl]
      refine Ev.step (f := fun _ => some ([], 7)) (fun k => ?_) (Ev.now _)
      simp only [signalbenchref08_FromEdges.l0]
      rw [rdi_mid, if_pos hlt, if_pos (by omega)]
      by_cases c1 : e ≤ at_
      · rw [if_pos c1]
      · rw [if_neg c1, if_pos (by omega)]
theorem ref_FromEdges_ev {first long : Int} {edges : List Int} : Ev (fun k => signalbenchref08_FromEdges.f k first edges long) (feV first edges long) := by
  unfold feV
  have hf : ∀ k, signalbenchref08_FromEdges.f k first edges long = signalbenchref08_FromEdges.j0 k first edges long (decide (¬ (first = 0 ∨ first = 1))) := fun k => by
    unfold signalbenchref08_FromEdges.f
    by_cases c : first = 0
    · rw [if_pos c, decide_eq_false (by omega)]
    · rw [if_neg c]
      congr 1
      rw [Bool.eq_iff_iff]
      simp [c]
  refine Ev.congr hf ?_
  by_cases c : first = 0 ∨ first = 1
  · rw [if_pos c]
    have hj : ∀ k, signalbenchref08_FromEdges.j0 (k + 1) first edges long (decide (¬ (first = 0 ∨ first = 1))) = signalbenchref08_FromEdges.j1 k first edges long (decide (long < 0 ∨ 1099511627776 < long)) := fun k => by
      simp only [signalbenchref08_FromEdges.j0]
      rw [if_neg (by simp [c])]
      by_cases c2 : long < 0
      · rw [if_pos c2, decide_eq_true (Or.inl c2)]
      · rw [if_neg c2]
        congr 1
        rw [Bool.eq_iff_iff]
        simp [c2]
    refine Ev.step hj ?_
    by_cases c1 : long < 0 ∨ 1099511627776 < long
    · rw [if_pos c1, decide_eq_true c1]
      refine Ev.step (f := fun _ => some ([], 2)) (fun k => ?_) (Ev.now _)
      simp only [signalbenchref08_FromEdges.j1]
      rw [if_pos trivial]
    · rw [if_neg c1, decide_eq_false c1]
      by_cases c2 : 262144 ≤ edges.length
      · rw [if_pos c2]
        refine Ev.step (f := fun _ => some ([], 6)) (fun k => ?_) (Ev.now _)
        simp only [signalbenchref08_FromEdges.j1]
        rw [if_neg (by simp), if_pos (by omega)]
      · rw [if_neg c2]
        have h := ref_FromEdges_l0 edges [] first long 0 (if chkE 0 long edges = true then (bldE first 0 long edges, 0) else ([], 7)) (by simp; omega) (fun hc => ?_) (fun hc => ?_)
        · refine Ev.step (fun k => ?_) h
          simp only [signalbenchref08_FromEdges.j1]
          rw [if_neg (by simp), if_neg (by omega)]
          rfl
        · rw [if_pos hc]
          exact ref_FromEdges_l1 edges [] first long 0 [] c (by omega) (by omega) (by omega) hc (by simp; omega) (by simp; omega)
        · rw [hc, if_neg (by simp)]
  · rw [if_neg c, decide_eq_true c]
    refine Ev.step (f := fun _ => some ([], 1)) (fun k => ?_) (Ev.now _)
    simp only [signalbenchref08_FromEdges.j0]
    rw [if_pos trivial]

/-! ### ints -/
theorem law_ints_l0 : ∀ (post pre : List Int), (pre ++ post).length ≤ 140737488351232 → Ev (fun k => signalbenchlaw08_ints.l0 k (pre ++ post) (pre ++ post) (pre.length : Int)) true
  | [], pre, hl => by
    refine Ev.step (f := fun _ => some true) (fun k => ?_) (Ev.now _)
    simp only [signalbenchlaw08_ints.l0]
    rw [if_neg (by simp)]
  | x :: post, pre, hl => by
    have hlt := midi_lt pre post x
    have hn : pre.length ≤ 9223372036854775806 := by
      simp only [List.length_append, List.length_cons] at hl
      omega
    have ih := law_ints_l0 post (pre ++ [x]) (by simpa using hl)
    rw [← mid_snoc pre post x] at ih
    refine Ev.step (fun k => ?_) ih
    simp only [signalbenchlaw08_ints.l0]
    rw [if_pos hlt, if_pos (by omega), if_pos hlt, if_pos trivial, succ_mid pre x hn]
theorem law_ints_ev (l : List Int) (hl : l.length ≤ 140737488351232) : Ev (fun k => signalbenchlaw08_ints.f k l l) true := by
  refine Ev.congr (fun k => ?_) (law_ints_l0 l [] (by simpa using hl))
  unfold signalbenchlaw08_ints.f
  rw [if_pos rfl]
  rfl

/-! ### Slice -/
def slF (a b at_ : Int) : List S39 → List S39
  | [] => []
  | x :: l => if mx at_ a < mn (at_ + x.f1) b then ⟨x.f0, mn (at_ + x.f1) b - mx at_ a⟩ :: slF a b (at_ + x.f1) l else slF a b (at_ + x.f1) l
def sliceV (l : List S39) (a b : Int) : List S39 := if vld l = true then slF a b 0 l else []
theorem wave_Slice_l0 : ∀ (post pre : List S39) (a b at_ : Int) (out : List S39), b ≤ 9223372036854775807 → 0 ≤ at_ → at_ + sm post ≤ 1099511627776 → RunsOk post → (pre ++ post).length ≤ 262144 → out.length + post.length ≤ 262144 →
    Ev (fun k => wave_Slice.l0 k a b out at_ (pre ++ post) ((pre ++ post).length : Int) (pre.length : Int)) (out ++ slF a b at_ post)
  | [], pre, a, b, at_, out, hb, h0, h1, hw, hl, ho => by
    refine Ev.step (f := fun _ => some out) (fun k => ?_) (by rw [slF, List.append_nil]; exact Ev.now _)
    simp only [wave_Slice.l0]
    rw [if_neg (by simp)]
  | x :: post, pre, a, b, at_, out, hb, h0, h1, hw, hl, ho => by
    have hx := hw.cons
    have hs := sm_nonneg hx.2
    simp only [sm] at h1
    simp only [List.length_cons] at ho
    have hlt := mid_lt pre post x
    have hn : pre.length ≤ 9223372036854775806 := by
      simp only [List.length_append, List.length_cons] at hl
      omega
    have e1 := w64 (x := at_ + x.f1) (by omega) (by omega)
    by_cases c : mx at_ a < mn (at_ + x.f1) b
    · have ih := wave_Slice_l0 post (pre ++ [x]) a b (at_ + x.f1) (out ++ [⟨x.f0, mn (at_ + x.f1) b - mx at_ a⟩]) hb (by omega) (by omega) hx.2 (by simpa using hl) (by simp only [List.length_append, List.length_cons, List.length_nil]; omega)
      rw [← mid_snoc pre post x] at ih
      rw [slF, if_pos c, mid_snoc out (slF a b (at_ + x.f1) post) ⟨x.f0, mn (at_ + x.f1) b - mx at_ a⟩]
      have e2 : wrap64 (mn (at_ + x.f1) b - mx at_ a) = mn (at_ + x.f1) b - mx at_ a := by
        unfold mx mn at c ⊢
        exact w64 (by split <;> split <;> omega) (by split <;> split <;> omega)
      refine Ev.step (fun k => ?_) ih
      simp only [wave_Slice.l0]
      rw [rd_mid, if_pos hlt, if_pos (by omega), if_pos hlt, e1, if_pos c, if_pos (by omega), e2, succ_mid pre x hn]
    · have ih := wave_Slice_l0 post (pre ++ [x]) a b (at_ + x.f1) out hb (by omega) (by omega) hx.2 (by simpa using hl) (by omega)
      rw [← mid_snoc pre post x] at ih
      rw [slF, if_neg c]
      refine Ev.step (fun k => ?_) ih
      simp only [wave_Slice.l0]
      rw [rd_mid, if_pos hlt, if_pos (by omega), if_pos hlt, e1, if_neg c, succ_mid pre x hn]
theorem wave_Slice_ev {l : List S39} {a b : Int} (hw : RunsWf l) (hl : l.length ≤ 140737488351232) (hb : b ≤ 9223372036854775807) : Ev (fun k => wave_Slice.f k l a b) (sliceV l a b) := by
  unfold sliceV
  refine Ev.bind (wave_Valid_ev hw hl) ?_
  by_cases v : vld l = true
  · simp only [if_pos v]
    have hv := vld_iff.1 v
    exact wave_Slice_l0 l [] a b 0 [] hb (by omega) (by omega) hv.2.1 (by simpa using hv.1) (by simpa using hv.1)
  · simp only [if_neg v]
    exact Ev.now _
def cutV (t long : Int) : Int := if t < 0 then 0 else if long < t then long else t
theorem ref_cut (t long : Int) : signalbenchref08_cut.f t long = some (cutV t long) := by
  unfold signalbenchref08_cut.f cutV
  by_cases c : t < 0
  · rw [if_pos c, if_pos c]
  · rw [if_neg c, if_neg c]
    by_cases c1 : long < t
    · rw [if_pos c1, if_pos (by omega)]
    · rw [if_neg c1, if_neg (by omega)]
theorem slF_cut : ∀ (l : List S39) (a b at_ long : Int), 0 ≤ at_ → at_ + sm l ≤ long → RunsOk l → slF (cutV a long) (cutV b long) at_ l = slF a b at_ l
  | [], a, b, at_, long, _, _, _ => rfl
  | x :: l, a, b, at_, long, h0, h1, hw => by
    have hx := hw.cons
    have hs := sm_nonneg hx.2
    simp only [sm] at h1
    have ih := slF_cut l a b (at_ + x.f1) long (by omega) (by omega) hx.2
    unfold slF
    rw [ih]
    by_cases c : mx at_ a < mn (at_ + x.f1) b
    · have e1 : mx at_ (cutV a long) = mx at_ a := by
        unfold mx mn at c
        unfold mx cutV
        split at c <;> split at c <;> split <;> split <;> (try split) <;> (try split) <;> omega
      have e2 : mn (at_ + x.f1) (cutV b long) = mn (at_ + x.f1) b := by
        unfold mx mn at c
        unfold mn cutV
        split at c <;> split at c <;> split <;> split <;> (try split) <;> (try split) <;> omega
      rw [e1, e2]
    · rw [if_neg c, if_neg]
      intro h
      apply c
      revert h
      unfold mx mn cutV
      split <;> split <;> (try split) <;> (try split) <;> (try split) <;> (try split) <;> omega
theorem ref_Slice_l0 : ∀ (post pre : List S39) (a b at_ : Int) (out : List S39), 0 ≤ at_ → b ≤ 9223372036854775807 → at_ + sm post ≤ 1099511627776 → RunsOk post → (pre ++ post).length ≤ 262144 → out.length + post.length ≤ 262144 →
    Ev (fun k => signalbenchref08_Slice.l0 k (pre ++ post) a b out at_ (pre.length : Int)) (out ++ slF a b at_ post)
  | [], pre, a, b, at_, out, h0, hb, h1, hw, hl, ho => by
    refine Ev.step (f := fun _ => some out) (fun k => ?_) (by rw [slF, List.append_nil]; exact Ev.now _)
    simp only [signalbenchref08_Slice.l0]
    rw [if_neg (by simp)]
  | x :: post, pre, a, b, at_, out, h0, hb, h1, hw, hl, ho => by
    have hx := hw.cons
    have hs := sm_nonneg hx.2
    simp only [sm] at h1
    simp only [List.length_cons] at ho
    have hlt := mid_lt pre post x
    have hn : pre.length ≤ 9223372036854775806 := by
      simp only [List.length_append, List.length_cons] at hl
      omega
    have e1 := w64 (x := at_ + x.f1) (by omega) (by omega)
    have e0 : ∀ k, signalbenchref08_Slice.l0 (k + 1) (pre ++ x :: post) a b out at_ (pre.length : Int) = signalbenchref08_Slice.j1 k (pre ++ x :: post) a b out (pre.length : Int) (at_ + x.f1) (mx at_ a) (at_ + x.f1) := fun k => by
      simp only [signalbenchref08_Slice.l0]
      rw [rd_mid, if_pos hlt, if_pos (by omega), e1]
      unfold mx
      by_cases c : at_ < a
      · rw [if_pos c, if_pos c]
      · rw [if_neg c, if_neg c]
    refine Ev.step e0 ?_
    by_cases c : mx at_ a < mn (at_ + x.f1) b
    · have ih := ref_Slice_l0 post (pre ++ [x]) a b (at_ + x.f1) (out ++ [⟨x.f0, mn (at_ + x.f1) b - mx at_ a⟩]) (by omega) hb (by omega) hx.2 (by simpa using hl) (by simp only [List.length_append, List.length_cons, List.length_nil]; omega)
      rw [← mid_snoc pre post x] at ih
      rw [slF, if_pos c, mid_snoc out (slF a b (at_ + x.f1) post) ⟨x.f0, mn (at_ + x.f1) b - mx at_ a⟩]
      have e2 : wrap64 (mn (at_ + x.f1) b - mx at_ a) = mn (at_ + x.f1) b - mx at_ a := by
        unfold mx mn at c ⊢
        exact w64 (by split <;> split <;> omega) (by split <;> split <;> omega)
      refine Ev.step (fun k => ?_) ih
      simp only [signalbenchref08_Slice.j1]
      rw [rd_mid]
      by_cases c1 : b < at_ + x.f1
      · have e3 : mn (at_ + x.f1) b = b := if_pos c1
        rw [e3] at c e2 ⊢
        rw [if_pos (by omega), if_pos c, if_pos (by omega), if_pos hlt, if_pos (by omega), e2, succ_mid pre x hn]
      · have e3 : mn (at_ + x.f1) b = at_ + x.f1 := if_neg c1
        rw [e3] at c e2 ⊢
        rw [if_neg (by omega), if_pos c, if_pos (by omega), if_pos hlt, if_pos (by omega), e2, succ_mid pre x hn]
    · have ih := ref_Slice_l0 post (pre ++ [x]) a b (at_ + x.f1) out (by omega) hb (by omega) hx.2 (by simpa using hl) (by omega)
      rw [← mid_snoc pre post x] at ih
      rw [slF, if_neg c]
      refine Ev.step (fun k => ?_) ih
      simp only [signalbenchref08_Slice.j1]
      by_cases c1 : b < at_ + x.f1
      · have e3 : mn (at_ + x.f1) b = b := if_pos c1
        rw [e3] at c
        rw [if_pos (by omega), if_neg c, succ_mid pre x hn]
      · have e3 : mn (at_ + x.f1) b = at_ + x.f1 := if_neg c1
        rw [e3] at c
        rw [if_neg (by omega), if_neg c, succ_mid pre x hn]
theorem cutV_le {t long : Int} (h : 0 ≤ long) : 0 ≤ cutV t long ∧ cutV t long ≤ long := by
  unfold cutV
  split
  · omega
  · split <;> omega
theorem longV_le (l : List S39) : 0 ≤ longV l ∧ longV l ≤ 1099511627776 := by
  unfold longV
  split
  · rename_i v
    have hv := vld_iff.1 v
    exact ⟨sm_nonneg hv.2.1, hv.2.2⟩
  · omega
theorem ref_Slice_ev {l : List S39} {a b : Int} (hw : RunsWf l) (hl : l.length ≤ 140737488351232) : Ev (fun k => signalbenchref08_Slice.f k l a b) (sliceV l a b) := by
  have hlong := longV_le l
  refine Ev.congr (f := fun k => (signalbenchref08_Long.f k l).bind fun t319 => (signalbenchref08_Valid.f k l).bind fun t325 => (if t325 = true then (signalbenchref08_Slice.l0 k l (cutV a t319) (cutV b t319) [] 0 0) else (some []))) (fun k => ?_) (Ev.bind (ref_Long_ev hw hl) (Ev.bind (ref_Valid_ev hw hl) ?_))
  · unfold signalbenchref08_Slice.f
    simp only [ref_cut, Option.bind_some]
  unfold sliceV
  by_cases v : vld l = true
  · simp only [if_pos v]
    have hv := vld_iff.1 v
    have el : longV l = sm l := if_pos v
    have h := ref_Slice_l0 l [] (cutV a (longV l)) (cutV b (longV l)) 0 [] (by omega) (by have := cutV_le (t := b) hlong.1; omega) (by omega) hv.2.1 (by simpa using hv.1) (by simpa using hv.1)
    rw [slF_cut l a b 0 (longV l) (by omega) (by omega) hv.2.1] at h
    exact h
  · simp only [if_neg v]
    exact Ev.now _

/-! ### Invert -/
def invR (x : S39) : S39 := ⟨1 - x.f0, x.f1⟩
def invV (l : List S39) : List S39 := if vld l = true then l.map invR else []
theorem ref_Invert_l0 : ∀ (post pre out : List S39), RunsOk post → (pre ++ post).length ≤ 262144 → out.length + post.length ≤ 262144 →
    Ev (fun k => signalbenchref08_Invert.l0 k (pre ++ post) out (pre.length : Int)) (out ++ post.map invR)
  | [], pre, out, hw, hl, ho => by
    refine Ev.step (f := fun _ => some out) (fun k => ?_) (by rw [List.map_nil, List.append_nil]; exact Ev.now _)
    simp only [signalbenchref08_Invert.l0]
    rw [if_neg (by simp)]
  | x :: post, pre, out, hw, hl, ho => by
    have hx := hw.cons
    simp only [List.length_cons] at ho
    have hlt := mid_lt pre post x
    have hn : pre.length ≤ 9223372036854775806 := by
      simp only [List.length_append, List.length_cons] at hl
      omega
    have ih := ref_Invert_l0 post (pre ++ [x]) (out ++ [invR x]) hx.2 (by simpa using hl) (by simp only [List.length_append, List.length_cons, List.length_nil]; omega)
    rw [← mid_snoc pre post x] at ih
    rw [List.map_cons, mid_snoc out (post.map invR) (invR x)]
    refine Ev.step (fun k => ?_) ih
    simp only [signalbenchref08_Invert.l0]
    rw [rd_mid, if_pos hlt, if_pos (by omega), if_pos (by omega), w64 (x := 1 - x.f0) (by omega) (by omega), succ_mid pre x hn]
    rfl
theorem ref_Invert_ev {l : List S39} (hw : RunsWf l) (hl : l.length ≤ 140737488351232) : Ev (fun k => signalbenchref08_Invert.f k l) (invV l) := by
  refine Ev.congr (f := fun k => (signalbenchref08_Valid.f k l).bind fun t285 => (if t285 = true then (signalbenchref08_Invert.l0 k l [] 0) else (some []))) (fun k => rfl) (Ev.bind (ref_Valid_ev hw hl) ?_)
  unfold invV
  by_cases v : vld l = true
  · simp only [if_pos v]
    have hv := vld_iff.1 v
    exact ref_Invert_l0 l [] [] hv.2.1 (by simpa using hv.1) (by simpa using hv.1)
  · simp only [if_neg v]
    exact Ev.now _
end Go.Proofs.Ytakjoggjggcdpaa
