/- The law WaveJoins as a plain statement on numbers and lists: with enough rounds it answers true; conditions: each number is one of its kind, no list or string is longer than its memory allows. -/
import Derived.Laws.BitsAllLaws
import Derived.WalkKit
import Derived.Test.YtakjoggjggcdpaaWMore
import Derived.Test.YtakjoggjggcdpaaQx0
import Derived.Test.YtakjoggjggcdpaaQx2
import Derived.Test.YtakjoggjggcdpaaQx6
import Derived.Test.YtakjoggjggcdpaaQx8
import Derived.Test.YtakjoggjggcdpaaQx9
import Derived.Test.YtakjoggjggcdpaaQx13
import Derived.Test.YtakjoggjggcdpaaQx15
import Derived.Test.YtakjoggjggcdpaaQx17
import Derived.Test.YtakjoggjggcdpaaQx18
import Derived.Test.YtakjoggjggcdpaaQx32
import Derived.Test.YtakjoggjggcdpaaQx33
import Derived.Test.YtakjoggjggcdpaaQx34
import Derived.Test.YtakjoggjggcdpaaQx35
import Derived.Test.YtakjoggjggcdpaaQx36
namespace Go.Proofs.Ytakjoggjggcdpaa
open Go Go.RowKit Go.Proofs.YtakjoggjggcdpaaW.PrintWords Go.Proofs.YtakjoggjggcdpaaW.PrintLast Go.Proofs.Ytakjoggjggcdpaa.Q
set_option linter.unusedVariables false
theorem w64 {x : Int} (h0 : -9223372036854775808 ≤ x) (h1 : x ≤ 9223372036854775807) : wrap64 x = x := by
  unfold wrap64
  omega
theorem wf64 {x : Int} (h : (Lit.int .i64 x).wf = true) : -9223372036854775808 ≤ x ∧ x ≤ 9223372036854775807 := by
  simp [Lit.wf, IntKind.min, IntKind.max, IntKind.bits, IntKind.signed] at h
  omega
theorem andNot1 {a : Int} (h : (Lit.int .i64 a).wf = true) : Go.bits .andNot .i64 a 1 = 0 ↔ a = 0 ∨ a = 1 := by
  have hw := wf64 h
  have e1 : Go.bits .andNot .i64 a 1 = IntKind.i64.wrap (((BitVec.ofInt 64 a &&& ~~~BitVec.ofInt 64 1).toNat : Nat) : Int) := rfl
  have e2 : (BitVec.ofInt 64 a &&& ~~~BitVec.ofInt 64 1).toNat = (BitVec.ofInt 64 a).toNat &&& 18446744073709551614 := by
    rw [BitVec.toNat_and]
    rfl
  have e3 : ((BitVec.ofInt 64 a).toNat : Int) = a % 18446744073709551616 := by
    rw [BitVec.toNat_ofInt]
    omega
  rw [e1, e2, nat_hi64_1, IntKind.wrap_i64]
  omega
theorem succ_mid {α : Type} (pre : List α) (x : α) (h : pre.length ≤ 9223372036854775806) : wrap64 ((pre.length : Int) + 1) = ((pre ++ [x]).length : Int) := by
  rw [w64 (by omega) (by omega)]
  simp
theorem wrap01 : wrap64 (0 + 1) = 1 := by
  unfold wrap64
  rfl
theorem mid_snoc {α : Type} (pre post : List α) (x : α) : pre ++ x :: post = (pre ++ [x]) ++ post := by simp
def sm : List S39 → Int
  | [] => 0
  | x :: l => x.f1 + sm l
def vldF (left : Int) : List S39 → Bool
  | [] => true
  | x :: l => if (x.f0 = 0 ∨ x.f0 = 1) ∧ 1 ≤ x.f1 ∧ x.f1 ≤ left then vldF (left - x.f1) l else false
def vld (l : List S39) : Bool := if l.length ≤ 262144 then vldF 1099511627776 l else false
def RunWf (x : S39) : Prop := (Lit.int .i64 x.f0).wf = true ∧ (Lit.int .i64 x.f1).wf = true
def RunsWf (l : List S39) : Prop := ∀ x ∈ l, RunWf x
def RunsOk (l : List S39) : Prop := ∀ x ∈ l, (x.f0 = 0 ∨ x.f0 = 1) ∧ 1 ≤ x.f1
theorem rd_mid (pre post : List S39) (x : S39) : rd_T39 (pre ++ x :: post) (pre.length : Int) = x := by simp [rd_T39, List.getD]
theorem mid_lt (pre post : List S39) (x : S39) : (pre.length : Int) < ((pre ++ x :: post).length : Int) := by
  simp only [List.length_append, List.length_cons]
  omega
theorem sm_nonneg : ∀ {l : List S39}, RunsOk l → 0 ≤ sm l
  | [], _ => Int.le_refl _
  | x :: l, h => by
    have h1 := h x (by simp)
    have h2 := sm_nonneg (l := l) (fun y hy => h y (by simp [hy]))
    simp only [sm]
    omega
theorem sm_append : ∀ (a b : List S39), sm (a ++ b) = sm a + sm b
  | [], b => by simp [sm]
  | x :: a, b => by
    have := sm_append a b
    simp only [List.cons_append, sm]
    omega
theorem vldF_iff : ∀ {l : List S39} {left : Int}, 0 ≤ left → (vldF left l = true ↔ RunsOk l ∧ sm l ≤ left)
  | [], left, h => by simp [vldF, RunsOk, sm, h]
  | x :: l, left, h => by
    unfold vldF
    by_cases c : (x.f0 = 0 ∨ x.f0 = 1) ∧ 1 ≤ x.f1 ∧ x.f1 ≤ left
    · rw [if_pos c, vldF_iff (l := l) (by omega)]
      simp only [RunsOk, sm, List.mem_cons, forall_eq_or_imp]
      constructor
      · rintro ⟨h1, h2⟩
        exact ⟨⟨⟨c.1, c.2.1⟩, h1⟩, by omega⟩
      · rintro ⟨⟨h1, h2⟩, h3⟩
        exact ⟨h2, by omega⟩
    · rw [if_neg c]
      simp only [Bool.false_eq_true, false_iff]
      rintro ⟨h1, h2⟩
      have h3 := h1 x (by simp)
      have h4 := sm_nonneg (l := l) (fun y hy => h1 y (by simp [hy]))
      simp only [sm] at h2
      exact c ⟨h3.1, h3.2, by omega⟩
theorem vld_iff {l : List S39} : vld l = true ↔ l.length ≤ 262144 ∧ RunsOk l ∧ sm l ≤ 1099511627776 := by
  unfold vld
  by_cases c : l.length ≤ 262144
  · rw [if_pos c, vldF_iff (by omega)]
    simp [c]
  · rw [if_neg c]
    simp [c]
theorem RunsOk.cons {x : S39} {l : List S39} (h : RunsOk (x :: l)) : ((x.f0 = 0 ∨ x.f0 = 1) ∧ 1 ≤ x.f1) ∧ RunsOk l := ⟨h x (by simp), fun y hy => h y (by simp [hy])⟩
theorem RunsOk.append {a b : List S39} (h : RunsOk a) (h' : RunsOk b) : RunsOk (a ++ b) := fun x hx => by
  rcases List.mem_append.1 hx with hx | hx
  · exact h x hx
  · exact h' x hx
theorem RunsOk.left {a b : List S39} (h : RunsOk (a ++ b)) : RunsOk a := fun x hx => h x (List.mem_append_left _ hx)
theorem wave_Valid_l0 : ∀ (post pre : List S39) (left : Int), 0 ≤ left → left ≤ 1099511627776 → RunsWf post → (pre ++ post).length ≤ 140737488351232 →
    Ev (fun k => wave_Valid.l0 k left (pre ++ post) ((pre ++ post).length : Int) (pre.length : Int)) (vldF left post)
  | [], pre, left, h0, h1, hw, hl => by
    refine Ev.step (f := fun _ => some true) (fun k => ?_) (Ev.now _)
    simp only [wave_Valid.l0]
    rw [if_neg (by simp)]
  | x :: post, pre, left, h0, h1, hw, hl => by
    have hx := hw x (by simp)
    have hlt := mid_lt pre post x
    have hn : pre.length ≤ 9223372036854775806 := by
      simp only [List.length_append, List.length_cons] at hl
      omega
    by_cases c : (x.f0 = 0 ∨ x.f0 = 1) ∧ 1 ≤ x.f1 ∧ x.f1 ≤ left
    · have ih := wave_Valid_l0 post (pre ++ [x]) (left - x.f1) (by omega) (by omega) (fun y hy => hw y (by simp [hy])) (by simpa using hl)
      rw [← mid_snoc] at ih
      rw [vldF, if_pos c]
      refine Ev.step (fun k => ?_) ih
      simp only [wave_Valid.l0]
      rw [rd_mid, if_pos hlt, if_pos (by omega), if_pos hlt, if_pos ((andNot1 hx.1).2 c.1), if_neg (by omega), if_neg (by omega), w64 (by omega) (by omega), succ_mid _ _ hn]
    · rw [vldF, if_neg c]
      refine Ev.step (f := fun _ => some false) (fun k => ?_) (Ev.now _)
      simp only [wave_Valid.l0]
      rw [rd_mid, if_pos hlt, if_pos (by omega), if_pos hlt]
      by_cases c1 : x.f0 = 0 ∨ x.f0 = 1
      · rw [if_pos ((andNot1 hx.1).2 c1)]
        by_cases c2 : x.f1 < 1
        · rw [if_pos c2]
        · rw [if_neg c2, if_pos (by
            have : ¬ (1 ≤ x.f1 ∧ x.f1 ≤ left) := fun h => c ⟨c1, h⟩
            omega)]
      · rw [if_neg (fun h => c1 ((andNot1 hx.1).1 h))]
theorem wave_Valid_ev {l : List S39} (hw : RunsWf l) (hl : l.length ≤ 140737488351232) : Ev (fun k => wave_Valid.f k l) (vld l) := by
  unfold vld
  by_cases c : l.length ≤ 262144
  · rw [if_pos c]
    refine Ev.congr (fun k => ?_) (wave_Valid_l0 l [] 1099511627776 (by omega) (by omega) hw (by simpa using hl))
    unfold wave_Valid.f
    rw [if_neg (by omega)]
    rfl
  · rw [if_neg c]
    refine Ev.congr (fun k => ?_) (Ev.now _)
    unfold wave_Valid.f
    rw [if_pos (by omega)]
theorem ref_Valid_l0 : ∀ (post pre : List S39) (s : Int), 0 ≤ s → s ≤ 1099511627776 → RunsWf post → (pre ++ post).length ≤ 140737488351232 →
    Ev (fun k => signalbenchref08_Valid.l0 k (pre ++ post) s (pre.length : Int)) (vldF (1099511627776 - s) post)
  | [], pre, s, h0, h1, hw, hl => by
    refine Ev.step (f := fun _ => some true) (fun k => ?_) (Ev.now _)
    simp only [signalbenchref08_Valid.l0]
    rw [if_neg (by simp)]
  | x :: post, pre, s, h0, h1, hw, hl => by
    have hx := hw x (by simp)
    have hx1 := wf64 hx.2
    have hlt := mid_lt pre post x
    have hn : pre.length ≤ 9223372036854775806 := by
      simp only [List.length_append, List.length_cons] at hl
      omega
    by_cases c1 : x.f0 = 0 ∨ x.f0 = 1
    · have e0 : ∀ k, signalbenchref08_Valid.l0 (k + 1) (pre ++ x :: post) s (pre.length : Int) = signalbenchref08_Valid.j1 k (pre ++ x :: post) s (pre.length : Int) false := by
        intro k
        simp only [signalbenchref08_Valid.l0]
        rw [rd_mid, if_pos hlt, if_pos (by omega)]
        rcases c1 with c1 | c1
        · rw [if_pos c1]
        · rw [if_neg (by omega), c1]
          rfl
      refine Ev.step e0 ?_
      by_cases c : 1 ≤ x.f1 ∧ x.f1 ≤ 1099511627776 - s
      · have ih := ref_Valid_l0 post (pre ++ [x]) (s + x.f1) (by omega) (by omega) (fun y hy => hw y (by simp [hy])) (by simpa using hl)
        rw [← mid_snoc] at ih
        rw [vldF, if_pos ⟨c1, c⟩]
        have e1 : 1099511627776 - (s + x.f1) = 1099511627776 - s - x.f1 := by omega
        rw [e1] at ih
        refine Ev.step (fun k => ?_) ih
        simp only [signalbenchref08_Valid.j1]
        rw [rd_mid, if_neg (by simp), if_pos (by omega), if_pos hlt, if_neg (by omega), if_neg (by rw [w64 (by omega) (by omega)]; omega), w64 (by omega) (by omega), succ_mid _ _ hn]
      · rw [vldF, if_neg (fun h => c h.2)]
        refine Ev.step (f := fun _ => some false) (fun k => ?_) (Ev.now _)
        simp only [signalbenchref08_Valid.j1]
        rw [rd_mid, if_neg (by simp), if_pos (by omega), if_pos hlt]
        by_cases c2 : x.f1 < 1
        · rw [if_pos c2]
        · rw [if_neg c2, if_pos (by rw [w64 (by omega) (by omega)]; omega)]
    · rw [vldF, if_neg (fun h => c1 h.1)]
      refine Ev.step (f := fun k => signalbenchref08_Valid.j1 k (pre ++ x :: post) s (pre.length : Int) true) (fun k => ?_) (Ev.step (f := fun _ => some false) (fun k => ?_) (Ev.now _))
      · simp only [signalbenchref08_Valid.l0]
        rw [rd_mid, if_pos hlt, if_pos (by omega), if_neg (by omega)]
        congr 1
        simp
        omega
      · simp only [signalbenchref08_Valid.j1]
        rw [if_pos trivial]
theorem ref_Valid_ev {l : List S39} (hw : RunsWf l) (hl : l.length ≤ 140737488351232) : Ev (fun k => signalbenchref08_Valid.f k l) (vld l) := by
  unfold vld
  by_cases c : l.length ≤ 262144
  · rw [if_pos c]
    have h := ref_Valid_l0 l [] 0 (by omega) (by omega) hw (by simpa using hl)
    refine Ev.congr (fun k => ?_) h
    unfold signalbenchref08_Valid.f
    rw [if_neg (by omega)]
    rfl
  · rw [if_neg c]
    refine Ev.congr (fun k => ?_) (Ev.now _)
    unfold signalbenchref08_Valid.f
    rw [if_pos (by omega)]
def longV (l : List S39) : Int := if vld l = true then sm l else 0
theorem wave_sum_l0 : ∀ (post pre : List S39) (s : Int), 0 ≤ s → s + sm post ≤ 4611686018427387904 → RunsOk post → (pre ++ post).length ≤ 140737488351232 →
    Ev (fun k => wave_sum.l0 k s (pre ++ post) ((pre ++ post).length : Int) (pre.length : Int)) (s + sm post)
  | [], pre, s, h0, h1, hw, hl => by
    refine Ev.step (f := fun _ => some s) (fun k => ?_) ?_
    · simp only [wave_sum.l0]
      rw [if_neg (by simp)]
    · simp only [sm, Int.add_zero]
      exact Ev.now _
  | x :: post, pre, s, h0, h1, hw, hl => by
    have hx := hw.cons
    have hs := sm_nonneg hx.2
    simp only [sm] at h1
    have hlt := mid_lt pre post x
    have hn : pre.length ≤ 9223372036854775806 := by
      simp only [List.length_append, List.length_cons] at hl
      omega
    have ih := wave_sum_l0 post (pre ++ [x]) (s + x.f1) (by omega) (by omega) hx.2 (by simpa using hl)
    rw [← mid_snoc] at ih
    have e1 : s + sm (x :: post) = s + x.f1 + sm post := by
      simp only [sm]
      omega
    rw [e1]
    refine Ev.step (fun k => ?_) ih
    simp only [wave_sum.l0]
    rw [rd_mid, if_pos hlt, if_pos (by omega), if_pos hlt, w64 (x := s + x.f1) (by omega) (by omega), succ_mid _ _ hn]
theorem wave_sum_ev {l : List S39} (hw : RunsOk l) (hs : sm l ≤ 4611686018427387904) (hl : l.length ≤ 140737488351232) : Ev (fun k => wave_sum.f k l) (sm l) := by
  have h := wave_sum_l0 l [] 0 (by omega) (by omega) hw (by simpa using hl)
  rw [Int.zero_add] at h
  exact Ev.congr (fun k => rfl) h
theorem ref_Long_l0 : ∀ (post pre : List S39) (s : Int), 0 ≤ s → s + sm post ≤ 4611686018427387904 → RunsOk post → (pre ++ post).length ≤ 140737488351232 →
    Ev (fun k => signalbenchref08_Long.l0 k (pre ++ post) s (pre.length : Int)) (s + sm post)
  | [], pre, s, h0, h1, hw, hl => by
    refine Ev.step (f := fun _ => some s) (fun k => ?_) ?_
    · simp only [signalbenchref08_Long.l0]
      rw [if_neg (by simp)]
    · simp only [sm, Int.add_zero]
      exact Ev.now _
  | x :: post, pre, s, h0, h1, hw, hl => by
    have hx := hw.cons
    have hs := sm_nonneg hx.2
    simp only [sm] at h1
    have hlt := mid_lt pre post x
    have hn : pre.length ≤ 9223372036854775806 := by
      simp only [List.length_append, List.length_cons] at hl
      omega
    have ih := ref_Long_l0 post (pre ++ [x]) (s + x.f1) (by omega) (by omega) hx.2 (by simpa using hl)
    rw [← mid_snoc] at ih
    have e1 : s + sm (x :: post) = s + x.f1 + sm post := by
      simp only [sm]
      omega
    rw [e1]
    refine Ev.step (fun k => ?_) ih
    simp only [signalbenchref08_Long.l0]
    rw [rd_mid, if_pos hlt, if_pos (by omega), w64 (x := s + x.f1) (by omega) (by omega), succ_mid _ _ hn]
theorem ref_Long_ev {l : List S39} (hw : RunsWf l) (hl : l.length ≤ 140737488351232) : Ev (fun k => signalbenchref08_Long.f k l) (longV l) := by
  unfold longV
  refine Ev.bind (ref_Valid_ev hw hl) ?_
  by_cases v : vld l = true
  · simp only [if_pos v]
    have hv := vld_iff.1 v
    have h := ref_Long_l0 l [] 0 (by omega) (by omega) hv.2.1 (by simpa using hl)
    rw [Int.zero_add] at h
    exact Ev.congr (fun k => rfl) h
  · simp only [if_neg v]
    exact Ev.now _
def jnc (x : S39) : List S39 → List S39
  | [] => [x]
  | y :: l => if x.f0 = y.f0 then jnc ⟨x.f0, x.f1 + y.f1⟩ l else x :: jnc y l
def jn : List S39 → List S39
  | [] => []
  | x :: l => jnc x l
theorem last_at (o : List S39) (x : S39) (h : o.length ≤ 9223372036854775806) : wrap64 (((o ++ [x]).length : Int) - 1) = (o.length : Int) := by
  rw [w64 (by simp only [List.length_append, List.length_cons, List.length_nil]; omega) (by simp only [List.length_append, List.length_cons, List.length_nil]; omega)]
  simp
theorem rd_last (o : List S39) (x : S39) : rd_T39 (o ++ [x]) (o.length : Int) = x := rd_mid o [] x
theorem set_last (o : List S39) (x y : S39) : (o ++ [x]).set ((o.length : Int)).toNat y = o ++ [y] := by
  rw [Int.toNat_natCast, List.set_append_right _ _ (Nat.le_refl _), Nat.sub_self]
  rfl
theorem snoc_pos (o : List S39) (x : S39) : ((o ++ [x]).length : Int) > 0 := by
  simp only [List.length_append, List.length_cons, List.length_nil]
  omega
theorem last_lt (o : List S39) (x : S39) : (o.length : Int) < ((o ++ [x]).length : Int) := mid_lt o [] x
theorem wave_joined_l0 : ∀ (post pre o : List S39) (x : S39), 0 ≤ x.f1 → x.f1 + sm post ≤ 4611686018427387904 → RunsOk post → (pre ++ post).length ≤ 140737488351232 → o.length + post.length ≤ 4398046511104 →
    Ev (fun k => wave_joined.l0 k (o ++ [x]) (pre ++ post) ((pre ++ post).length : Int) (pre.length : Int)) (o ++ jnc x post)
  | [], pre, o, x, h0, h1, hw, hl, ho => by
    refine Ev.step (f := fun _ => some (o ++ [x])) (fun k => ?_) (Ev.now _)
    simp only [wave_joined.l0]
    rw [if_neg (by simp)]
  | y :: post, pre, o, x, h0, h1, hw, hl, ho => by
    have hy := hw.cons
    have hs := sm_nonneg hy.2
    simp only [sm] at h1
    simp only [List.length_cons] at ho
    have hlt := mid_lt pre post y
    have hn : pre.length ≤ 9223372036854775806 := by
      simp only [List.length_append, List.length_cons] at hl
      omega
    by_cases c : x.f0 = y.f0
    · have ih := wave_joined_l0 post (pre ++ [y]) o ⟨x.f0, x.f1 + y.f1⟩ (by simp only; omega) (by simp only; omega) hy.2 (by simpa using hl) (by omega)
      rw [← mid_snoc pre post y] at ih
      rw [jnc, if_pos c]
      refine Ev.step (fun k => ?_) ih
      simp only [wave_joined.l0]
      rw [rd_mid, if_pos hlt, if_pos (by omega), if_pos hlt, if_pos (snoc_pos o x), last_at o x (by omega), if_pos (by omega), if_pos (last_lt o x), rd_last, if_pos c, set_last, w64 (x := x.f1 + y.f1) (by omega) (by omega), succ_mid pre y hn]
    · have ih := wave_joined_l0 post (pre ++ [y]) (o ++ [x]) y (by omega) (by omega) hy.2 (by simpa using hl) (by simp only [List.length_append, List.length_cons, List.length_nil]; omega)
      rw [← mid_snoc pre post y] at ih
      rw [jnc, if_neg c, show o ++ x :: jnc y post = (o ++ [x]) ++ jnc y post by simp]
      refine Ev.step (fun k => ?_) ih
      simp only [wave_joined.l0]
      rw [rd_mid, if_pos hlt, if_pos (by omega), if_pos hlt, if_pos (snoc_pos o x), last_at o x (by omega), if_pos (by omega), if_pos (last_lt o x), rd_last, if_neg c, if_pos (by simp only [List.length_append, List.length_cons, List.length_nil]; omega), succ_mid pre y hn]
theorem wave_joined_ev {l : List S39} (hw : RunsOk l) (hs : sm l ≤ 4611686018427387904) (hl : l.length ≤ 4398046511104) : Ev (fun k => wave_joined.f k l) (jn l) := by
  refine Ev.congr (f := fun k => wave_joined.l0 k [] l (l.length : Int) 0) (fun k => rfl) ?_
  cases l with
  | nil =>
    refine Ev.step (f := fun _ => some []) (fun k => ?_) (Ev.now _)
    simp only [wave_joined.l0]
    rw [if_neg (by simp)]
  | cons x l =>
    have hx := hw.cons
    simp only [sm] at hs
    simp only [List.length_cons] at hl
    have h := wave_joined_l0 l [x] [] x (by omega) (by omega) hx.2 (by simp; omega) (by simp; omega)
    refine Ev.step (fun k => ?_) h
    simp only [wave_joined.l0]
    have e := rd_mid [] l x
    simp only [List.nil_append, List.length_nil] at e
    have e' : rd_T39 (x :: l) 0 = x := e
    rw [e', if_pos (by simp only [List.length_cons]; omega), if_pos (by omega), if_pos (by simp only [List.length_cons]; omega), if_neg (by simp), if_pos (by simp), wrap01]
    rfl
theorem ref_joined_l0 : ∀ (post pre o : List S39) (x : S39), 0 ≤ x.f1 → x.f1 + sm post ≤ 4611686018427387904 → RunsOk post → (pre ++ post).length ≤ 140737488351232 → o.length + post.length ≤ 4398046511104 →
    Ev (fun k => signalbenchref08_joined.l0 k (pre ++ post) (o ++ [x]) (pre.length : Int)) (o ++ jnc x post)
  | [], pre, o, x, h0, h1, hw, hl, ho => by
    refine Ev.step (f := fun _ => some (o ++ [x])) (fun k => ?_) (Ev.now _)
    simp only [signalbenchref08_joined.l0]
    rw [if_neg (by simp)]
  | y :: post, pre, o, x, h0, h1, hw, hl, ho => by
    have hy := hw.cons
    have hs := sm_nonneg hy.2
    simp only [sm] at h1
    simp only [List.length_cons] at ho
    have hlt := mid_lt pre post y
    have hn : pre.length ≤ 9223372036854775806 := by
      simp only [List.length_append, List.length_cons] at hl
      omega
    by_cases c : x.f0 = y.f0
    · have ih := ref_joined_l0 post (pre ++ [y]) o ⟨x.f0, x.f1 + y.f1⟩ (by simp only; omega) (by simp only; omega) hy.2 (by simpa using hl) (by omega)
      rw [← mid_snoc pre post y] at ih
      rw [jnc, if_pos c]
      refine Ev.step (fun k => ?_) ih
      simp only [signalbenchref08_joined.l0]
      rw [rd_mid, if_pos hlt, if_pos (snoc_pos o x), last_at o x (by omega), if_pos (by omega), if_pos (last_lt o x), if_pos (by omega), rd_last, if_pos c, set_last, w64 (x := x.f1 + y.f1) (by omega) (by omega), succ_mid pre y hn]
    · have ih := ref_joined_l0 post (pre ++ [y]) (o ++ [x]) y (by omega) (by omega) hy.2 (by simpa using hl) (by simp only [List.length_append, List.length_cons, List.length_nil]; omega)
      rw [← mid_snoc pre post y] at ih
      rw [jnc, if_neg c, show o ++ x :: jnc y post = (o ++ [x]) ++ jnc y post by simp]
      refine Ev.step (fun k => ?_) ih
      simp only [signalbenchref08_joined.l0]
      rw [rd_mid, if_pos hlt, if_pos (snoc_pos o x), last_at o x (by omega), if_pos (by omega), if_pos (last_lt o x), if_pos (by omega), rd_last, if_neg c, if_pos (by simp only [List.length_append, List.length_cons, List.length_nil]; omega), succ_mid pre y hn]
theorem ref_joined_ev {l : List S39} (hw : RunsOk l) (hs : sm l ≤ 4611686018427387904) (hl : l.length ≤ 4398046511104) : Ev (fun k => signalbenchref08_joined.f k l) (jn l) := by
  have hf : ∀ k, signalbenchref08_joined.f k l = signalbenchref08_joined.l0 k l [] 0 := fun k => by
    unfold signalbenchref08_joined.f
    rw [if_pos (by omega), if_pos (by omega)]
    rfl
  refine Ev.congr hf ?_
  cases l with
  | nil =>
    refine Ev.step (f := fun _ => some []) (fun k => ?_) (Ev.now _)
    simp only [signalbenchref08_joined.l0]
    rw [if_neg (by simp)]
  | cons x l =>
    have hx := hw.cons
    simp only [sm] at hs
    simp only [List.length_cons] at hl
    have h := ref_joined_l0 l [x] [] x (by omega) (by omega) hx.2 (by simp; omega) (by simp; omega)
    refine Ev.step (fun k => ?_) h
    simp only [signalbenchref08_joined.l0]
    have e := rd_mid [] l x
    simp only [List.nil_append, List.length_nil] at e
    have e' : rd_T39 (x :: l) 0 = x := e
    rw [e', if_pos (by simp only [List.length_cons]; omega), if_neg (by simp), if_pos (by omega), if_pos (by simp), wrap01]
    rfl
theorem jnc_len : ∀ (l : List S39) (x : S39), (jnc x l).length ≤ l.length + 1
  | [], x => Nat.le_refl _
  | y :: l, x => by
    unfold jnc
    split
    · have := jnc_len l ⟨x.f0, x.f1 + y.f1⟩
      simp only [List.length_cons]
      omega
    · have := jnc_len l y
      simp only [List.length_cons]
      omega
theorem jn_len (l : List S39) : (jn l).length ≤ l.length := by
  cases l with
  | nil => exact Nat.le_refl _
  | cons x l => exact jnc_len l x
theorem ref_Same_l0 : ∀ (post pre : List S39), (pre ++ post).length ≤ 140737488351232 → Ev (fun k => signalbenchref08_Same.l0 k (pre ++ post) (pre ++ post) (pre.length : Int)) true
  | [], pre, hl => by
    refine Ev.step (f := fun _ => some true) (fun k => ?_) (Ev.now _)
    simp only [signalbenchref08_Same.l0]
    rw [if_neg (by simp)]
  | x :: post, pre, hl => by
    have hlt := mid_lt pre post x
    have hn : pre.length ≤ 9223372036854775806 := by
      simp only [List.length_append, List.length_cons] at hl
      omega
    have ih := ref_Same_l0 post (pre ++ [x]) (by simpa using hl)
    rw [← mid_snoc pre post x] at ih
    refine Ev.step (fun k => ?_) ih
    simp only [signalbenchref08_Same.l0]
    rw [if_pos hlt, if_pos (by omega), if_pos hlt, if_neg (by simp), succ_mid pre x hn]
theorem ref_Same_ev (l : List S39) (hl : l.length ≤ 140737488351232) : Ev (fun k => signalbenchref08_Same.f k l l) true := by
  refine Ev.congr (fun k => ?_) (ref_Same_l0 l [] (by simpa using hl))
  unfold signalbenchref08_Same.f
  rw [if_pos rfl]
  rfl
def lens : List (List S39) → Nat
  | [] => 0
  | a :: ll => a.length + lens ll
theorem rdl_mid (pre post : List (List S39)) (x : List S39) : rd_L2 (pre ++ x :: post) (pre.length : Int) = x := by simp [rd_L2, List.getD]
theorem midl_lt (pre post : List (List S39)) (x : List S39) : (pre.length : Int) < ((pre ++ x :: post).length : Int) := by
  simp only [List.length_append, List.length_cons]
  omega
theorem slices_Concat_l1 : ∀ (post pre : List (List S39)) (out : List S39), (pre ++ post).length ≤ 140737488351232 → out.length + lens post ≤ 4398046511104 →
    Ev (fun k => slices_Concat_Run.l1 k out (pre ++ post) ((pre ++ post).length : Int) (pre.length : Int)) (out ++ post.flatten)
  | [], pre, out, hl, ho => by
    refine Ev.step (f := fun _ => some out) (fun k => ?_) (by rw [List.flatten_nil, List.append_nil]; exact Ev.now _)
    simp only [slices_Concat_Run.l1]
    rw [if_neg (by simp)]
  | x :: post, pre, out, hl, ho => by
    simp only [lens] at ho
    have hlt := midl_lt pre post x
    have hb : pre.length ≤ 9223372036854775806 := by
      simp only [List.length_append, List.length_cons] at hl
      omega
    have ih := slices_Concat_l1 post (pre ++ [x]) (out ++ x) (by simpa using hl) (by simp only [List.length_append]; omega)
    rw [← mid_snoc pre post x] at ih
    rw [List.flatten_cons, ← List.append_assoc]
    refine Ev.step (fun k => ?_) ih
    simp only [slices_Concat_Run.l1]
    rw [rdl_mid, if_pos hlt, if_pos (by omega), if_pos hlt, if_pos (by omega), succ_mid pre x hb]
theorem slices_Concat_l0 : ∀ (post pre : List (List S39)) (s : Int) (ll : List (List S39)), 0 ≤ s → s + lens post ≤ 4398046511104 → (pre ++ post).length ≤ 140737488351232 → ll.length ≤ 140737488351232 → lens ll ≤ 4398046511104 →
    Ev (fun k => slices_Concat_Run.l0 k ll s (pre ++ post) ((pre ++ post).length : Int) (pre.length : Int)) ll.flatten
  | [], pre, s, ll, h0, h1, hl, hm, hn => by
    simp only [lens] at h1
    have h := slices_Concat_l1 ll [] [] (by simpa using hm) (by simpa using hn)
    refine Ev.step (fun k => ?_) h
    simp only [slices_Concat_Run.l0]
    rw [if_neg (by simp)]
    unfold slices_Grow_Run.f
    rw [if_pos h0, if_pos (by omega)]
    rfl
  | x :: post, pre, s, ll, h0, h1, hl, hm, hn => by
    simp only [lens] at h1
    have hlt := midl_lt pre post x
    have hb : pre.length ≤ 9223372036854775806 := by
      simp only [List.length_append, List.length_cons] at hl
      omega
    have ih := slices_Concat_l0 post (pre ++ [x]) (s + x.length) ll (by omega) (by omega) (by simpa using hl) hm hn
    rw [← mid_snoc pre post x] at ih
    refine Ev.step (fun k => ?_) ih
    simp only [slices_Concat_Run.l0]
    rw [rdl_mid, if_pos hlt, if_pos (by omega), if_pos hlt, w64 (x := s + (x.length : Int)) (by omega) (by omega), if_neg (by omega), succ_mid pre x hb]
theorem slices_Concat_ev {ll : List (List S39)} (hm : ll.length ≤ 140737488351232) (hn : lens ll ≤ 4398046511104) : Ev (fun k => slices_Concat_Run.f k ll) ll.flatten :=
  Ev.congr (fun k => rfl) (slices_Concat_l0 ll [] 0 ll (by omega) (by omega) (by simpa using hm) hm hn)
def joinV (a b : List S39) : List S39 × Int :=
  if vld a = true ∧ vld b = true then (if 262144 < a.length + b.length then ([], 6) else if 1099511627776 < sm a + sm b then ([], 2) else (jn (a ++ b), 0)) else ([], 1)
theorem joinV_bad {a b : List S39} (h : ¬ (vld a = true ∧ vld b = true)) : joinV a b = ([], 1) := if_neg h
theorem wave_Join_ev {a b : List S39} (ha : RunsWf a) (hb : RunsWf b) (hla : a.length ≤ 140737488351232) (hlb : b.length ≤ 140737488351232) : Ev (fun k => wave_Join.f k a b) (joinV a b) := by
  have stop : Ev (fun k => wave_Join.j0 k a b true) ([], 1) := Ev.step (f := fun _ => some ([], 1)) (fun k => by
    simp only [wave_Join.j0]
    rw [if_pos trivial]) (Ev.now _)
  refine Ev.bind (wave_Valid_ev ha hla) ?_
  by_cases va : vld a = true
  · simp only [if_pos va]
    refine Ev.bind (wave_Valid_ev hb hlb) ?_
    by_cases vb : vld b = true
    · have hva := vld_iff.1 va
      have hvb := vld_iff.1 vb
      have hsa := sm_nonneg hva.2.1
      have hsb := sm_nonneg hvb.2.1
      unfold joinV
      rw [vb, if_pos ⟨va, rfl⟩]
      have e : wrap64 ((a.length : Int) + (b.length : Int)) = (a.length : Int) + (b.length : Int) := w64 (by omega) (by omega)
      have e2 : wrap64 (sm a + sm b) = sm a + sm b := w64 (by omega) (by omega)
      by_cases c : 262144 < a.length + b.length
      · rw [if_pos c]
        refine Ev.step (f := fun _ => some ([], 6)) (fun k => ?_) (Ev.now _)
        simp only [wave_Join.j0]
        rw [if_neg (by simp), e, if_pos (by omega)]
      · rw [if_neg c]
        refine Ev.step (f := fun k => (wave_sum.f k a).bind fun t379 => ((wave_sum.f k b).bind fun t380 => (if (wrap64 (t379 + t380)) > 1099511627776 then (some (([] : List S39), 2)) else ((slices_Concat_Run.f k [a, b]).bind fun t384 => ((wave_joined.f k t384).bind fun t387 => (some (t387, 0))))))) (fun k => ?_) ?_
        · simp only [wave_Join.j0]
          rw [if_neg (by simp), e, if_neg (by omega)]
        · refine Ev.bind (wave_sum_ev hva.2.1 (by omega) (by omega)) (Ev.bind (wave_sum_ev hvb.2.1 (by omega) (by omega)) ?_)
          simp only [e2]
          by_cases c2 : 1099511627776 < sm a + sm b
          · rw [if_pos c2]
            exact Ev.congr (fun k => if_pos c2) (Ev.now _)
          · rw [if_neg c2]
            refine Ev.congr (fun k => if_neg (by omega)) ?_
            have hc := slices_Concat_ev (ll := [a, b]) (by simp) (by simp only [lens]; omega)
            have e3 : [a, b].flatten = a ++ b := by simp
            rw [e3] at hc
            refine Ev.bind hc (Ev.bind (wave_joined_ev (hva.2.1.append hvb.2.1) ?_ ?_) (Ev.now _))
            · rw [sm_append]
              omega
            · rw [List.length_append]
              omega
    · rw [joinV_bad (fun h => vb h.2), Bool.eq_false_iff.2 vb]
      exact stop
  · simp only [if_neg va]
    rw [joinV_bad (fun h => va h.1)]
    exact stop
theorem ref_Join_ev {a b : List S39} (ha : RunsWf a) (hb : RunsWf b) (hla : a.length ≤ 140737488351232) (hlb : b.length ≤ 140737488351232) : Ev (fun k => signalbenchref08_Join.f k a b) (joinV a b) := by
  have stop : Ev (fun k => signalbenchref08_Join.j0 k a b true) ([], 1) := Ev.step (f := fun _ => some ([], 1)) (fun k => by
    simp only [signalbenchref08_Join.j0]
    rw [if_pos trivial]) (Ev.now _)
  refine Ev.bind (ref_Valid_ev ha hla) ?_
  by_cases va : vld a = true
  · simp only [if_pos va]
    refine Ev.bind (ref_Valid_ev hb hlb) ?_
    by_cases vb : vld b = true
    · have hva := vld_iff.1 va
      have hvb := vld_iff.1 vb
      have hsa := sm_nonneg hva.2.1
      have hsb := sm_nonneg hvb.2.1
      have ela : longV a = sm a := if_pos va
      have elb : longV b = sm b := if_pos vb
      unfold joinV
      rw [vb, if_pos ⟨va, rfl⟩]
      have e : wrap64 ((a.length : Int) + (b.length : Int)) = (a.length : Int) + (b.length : Int) := w64 (by omega) (by omega)
      have e2 : wrap64 (longV a + longV b) = sm a + sm b := by
        rw [ela, elb]
        exact w64 (by omega) (by omega)
      by_cases c : 262144 < a.length + b.length
      · rw [if_pos c]
        refine Ev.step (f := fun _ => some ([], 6)) (fun k => ?_) (Ev.now _)
        simp only [signalbenchref08_Join.j0]
        rw [if_neg (by simp), e, if_pos (by omega)]
      · rw [if_neg c]
        refine Ev.step (f := fun k => (signalbenchref08_Long.f k a).bind fun t353 => ((signalbenchref08_Long.f k b).bind fun t354 => (if (wrap64 (t353 + t354)) > 1099511627776 then (some (([] : List S39), 2)) else ((signalbenchref08_joined.f k (a ++ b)).bind fun t364 => (some (t364, 0)))))) (fun k => ?_) ?_
        · simp only [signalbenchref08_Join.j0]
          rw [if_neg (by simp), e, if_neg (by omega), if_pos (by omega), if_pos (by omega)]
          simp only [Option.bind_some, List.replicate_zero, List.nil_append, List.length_nil]
          rw [if_pos (by omega), if_pos (by omega)]
        · refine Ev.bind (ref_Long_ev ha hla) (Ev.bind (ref_Long_ev hb hlb) ?_)
          simp only [e2]
          by_cases c2 : 1099511627776 < sm a + sm b
          · rw [if_pos c2]
            exact Ev.congr (fun k => if_pos c2) (Ev.now _)
          · rw [if_neg c2]
            refine Ev.congr (fun k => if_neg (by omega)) ?_
            refine Ev.bind (ref_joined_ev (hva.2.1.append hvb.2.1) ?_ ?_) (Ev.now _)
            · rw [sm_append]
              omega
            · rw [List.length_append]
              omega
    · rw [joinV_bad (fun h => vb h.2), Bool.eq_false_iff.2 vb]
      exact stop
  · simp only [if_neg va]
    rw [joinV_bad (fun h => va h.1)]
    exact stop
theorem awake_ev : Ev (fun k => signalbenchlaw08_awake.f k) true := Ev.of (k := 40) (fun k => signalbenchlaw08_awake.mono k) (by decide +kernel)
theorem awake_then : Ev (fun k => (signalbenchlaw08_awake.f k).bind fun t => some t) true := Ev.bind awake_ev (Ev.now true)
theorem RunsOk.wf {l : List S39} (h : RunsOk l) (hs : sm l ≤ 1099511627776) : RunsWf l := by
  intro x hx
  have h1 := h x hx
  have h2 : x.f1 ≤ sm l := by
    clear h1 hs
    induction l with
    | nil => simp at hx
    | cons y l ih =>
      have hy := h.cons
      have hn := sm_nonneg hy.2
      simp only [sm]
      rcases List.mem_cons.1 hx with rfl | hx
      · omega
      · have := ih hy.2 hx
        omega
  have wf : ∀ n : Int, 0 ≤ n → n ≤ 1099511627776 → (Lit.int .i64 n).wf = true := fun n h0 h1 => by
    simp [Lit.wf, IntKind.min, IntKind.max, IntKind.bits, IntKind.signed]
    omega
  exact ⟨wf _ (by omega) (by omega), wf _ (by omega) (by omega)⟩
theorem joinV_len (a b : List S39) : (joinV a b).1.length ≤ a.length + b.length := by
  unfold joinV
  split
  · split
    · simp
    · split
      · simp
      · have := jn_len (a ++ b)
        rw [List.length_append] at this
        exact this
  · simp
theorem WaveJoins_pure {a b : List S39} (ha : RunsWf a) (hb : RunsWf b) (hla : a.length ≤ 17592186043904) (hlb : b.length ≤ 17592186043904) : ∃ k, signalbenchlaw08_WaveJoins.f k a b = some true := by
  refine Ev.rounds (g := fun k => signalbenchlaw08_WaveJoins.f k a b) ?_
  refine Ev.bind (wave_Join_ev ha hb (by omega) (by omega)) (Ev.bind (ref_Join_ev ha hb (by omega) (by omega)) ?_)
  simp only [if_true]
  refine Ev.bind (ref_Same_ev _ ?_) ?_
  · have := joinV_len a b
    omega
  · simp only [if_true]
    exact awake_then
end Go.Proofs.Ytakjoggjggcdpaa
