/- The law WaveParts as a plain statement on numbers and lists: with enough rounds it answers true; conditions: each number is one of its kind, no list or string is longer than its memory allows. -/
import Derived.Laws.BitsAllLaws
import Derived.WalkKit
import Derived.Test.YtakjoggjggcdpaaWMore
import Derived.Test.YtakjoggjggcdpaaQx0
import Derived.Test.YtakjoggjggcdpaaQx2
import Derived.Test.YtakjoggjggcdpaaQx6
import Derived.Test.YtakjoggjggcdpaaQx7
import Derived.Test.YtakjoggjggcdpaaQx8
import Derived.Test.YtakjoggjggcdpaaQx9
import Derived.Test.YtakjoggjggcdpaaQx10
import Derived.Test.YtakjoggjggcdpaaQx13
import Derived.Test.YtakjoggjggcdpaaQx28
import Derived.Test.YtakjoggjggcdpaaQx32
import Derived.Test.YtakjoggjggcdpaaQx33
import Derived.Test.YtakjoggjggcdpaaQx34
import Derived.Test.YtakjoggjggcdpaaQx37
namespace Go.Proofs.Ytakjoggjggcdpaa
open Go Go.RowKit Go.Proofs.YtakjoggjggcdpaaW.PrintWords Go.Proofs.YtakjoggjggcdpaaW.PrintLast Go.Proofs.Ytakjoggjggcdpaa.Q
set_option linter.unusedVariables false
theorem w64 {x : Int} (h0 : -9223372036854775808 ≤ x) (h1 : x ≤ 9223372036854775807) : wrap64 x = x := by
  unfold wrap64
  omega
theorem wf64 {x : Int} (h : (Lit.int .i64 x).wf = true) : -9223372036854775808 ≤ x ∧ x ≤ 9223372036854775807 := by
  simp [Lit.wf, IntKind.min, IntKind.max, IntKind.bits, IntKind.signed] at h
  omega
theorem andNot1 {a : Int} (h : (Lit.int .i64 a).wf = true) : Go.bits .andNot .i64 a 1 = 0 ↔ a = 0 ∨ a = 1 := by
  have hw := wf64 h
  have e1 : Go.bits .andNot .i64 a 1 = IntKind.i64.wrap (((BitVec.ofInt 64 a &&& ~~~BitVec.ofInt 64 1).toNat : Nat) : Int) := rfl
  have e2 : (BitVec.ofInt 64 a &&& ~~~BitVec.ofInt 64 1).toNat = (BitVec.ofInt 64 a).toNat &&& 18446744073709551614 := by
    rw [BitVec.toNat_and]
    rfl
  have e3 : ((BitVec.ofInt 64 a).toNat : Int) = a % 18446744073709551616 := by
    rw [BitVec.toNat_ofInt]
    omega
  rw [e1, e2, nat_hi64_1, IntKind.wrap_i64]
  omega
theorem succ_mid {α : Type} (pre : List α) (x : α) (h : pre.length ≤ 9223372036854775806) : wrap64 ((pre.length : Int) + 1) = ((pre ++ [x]).length : Int) := by
  rw [w64 (by omega) (by omega)]
  simp
theorem wrap01 : wrap64 (0 + 1) = 1 := by
  unfold wrap64
  rfl
theorem mid_snoc {α : Type} (pre post : List α) (x : α) : pre ++ x :: post = (pre ++ [x]) ++ post := by simp
def sm : List S39 → Int
  | [] => 0
  | x :: l => x.f1 + sm l
def vldF (left : Int) : List S39 → Bool
  | [] => true
  | x :: l => if (x.f0 = 0 ∨ x.f0 = 1) ∧ 1 ≤ x.f1 ∧ x.f1 ≤ left then vldF (left - x.f1) l else false
def vld (l : List S39) : Bool := if l.length ≤ 262144 then vldF 1099511627776 l else false
def RunWf (x : S39) : Prop := (Lit.int .i64 x.f0).wf = true ∧ (Lit.int .i64 x.f1).wf = true
def RunsWf (l : List S39) : Prop := ∀ x ∈ l, RunWf x
def RunsOk (l : List S39) : Prop := ∀ x ∈ l, (x.f0 = 0 ∨ x.f0 = 1) ∧ 1 ≤ x.f1
theorem rd_mid (pre post : List S39) (x : S39) : rd_T39 (pre ++ x :: post) (pre.length : Int) = x := by simp [rd_T39, List.getD]
theorem mid_lt (pre post : List S39) (x : S39) : (pre.length : Int) < ((pre ++ x :: post).length : Int) := by
  simp only [List.length_append, List.length_cons]
  omega
theorem sm_nonneg : ∀ {l : List S39}, RunsOk l → 0 ≤ sm l
  | [], _ => Int.le_refl _
  | x :: l, h => by
    have h1 := h x (by simp)
    have h2 := sm_nonneg (l := l) (fun y hy => h y (by simp [hy]))
    simp only [sm]
    omega
theorem sm_append : ∀ (a b : List S39), sm (a ++ b) = sm a + sm b
  | [], b => by simp [sm]
  | x :: a, b => by
    have := sm_append a b
    simp only [List.cons_append, sm]
    omega
theorem vldF_iff : ∀ {l : List S39} {left : Int}, 0 ≤ left → (vldF left l = true ↔ RunsOk l ∧ sm l ≤ left)
  | [], left, h => by simp [vldF, RunsOk, sm, h]
  | x :: l, left, h => by
    unfold vldF
    by_cases c : (x.f0 = 0 ∨ x.f0 = 1) ∧ 1 ≤ x.f1 ∧ x.f1 ≤ left
    · rw [if_pos c, vldF_iff (l := l) (by omega)]
      simp only [RunsOk, sm, List.mem_cons, forall_eq_or_imp]
      constructor
      · rintro ⟨h1, h2⟩
        exact ⟨⟨⟨c.1, c.2.1⟩, h1⟩, by omega⟩
      · rintro ⟨⟨h1, h2⟩, h3⟩
        exact ⟨h2, by omega⟩
    · rw [if_neg c]
      simp only [Bool.false_eq_true, false_iff]
      rintro ⟨h1, h2⟩
      have h3 := h1 x (by simp)
      have h4 := sm_nonneg (l := l) (fun y hy => h1 y (by simp [hy]))
      simp only [sm] at h2
      exact c ⟨h3.1, h3.2, by omega⟩
theorem vld_iff {l : List S39} : vld l = true ↔ l.length ≤ 262144 ∧ RunsOk l ∧ sm l ≤ 1099511627776 := by
  unfold vld
  by_cases c : l.length ≤ 262144
  · rw [if_pos c, vldF_iff (by omega)]
    simp [c]
  · rw [if_neg c]
    simp [c]
theorem RunsOk.cons {x : S39} {l : List S39} (h : RunsOk (x :: l)) : ((x.f0 = 0 ∨ x.f0 = 1) ∧ 1 ≤ x.f1) ∧ RunsOk l := ⟨h x (by simp), fun y hy => h y (by simp [hy])⟩
theorem RunsOk.append {a b : List S39} (h : RunsOk a) (h' : RunsOk b) : RunsOk (a ++ b) := fun x hx => by
  rcases List.mem_append.1 hx with hx | hx
  · exact h x hx
  · exact h' x hx
theorem RunsOk.left {a b : List S39} (h : RunsOk (a ++ b)) : RunsOk a := fun x hx => h x (List.mem_append_left _ hx)
theorem wave_Valid_l0 : ∀ (post pre : List S39) (left : Int), 0 ≤ left → left ≤ 1099511627776 → RunsWf post → (pre ++ post).length ≤ 140737488351232 →
    Ev (fun k => wave_Valid.l0 k left (pre ++ post) ((pre ++ post).length : Int) (pre.length : Int)) (vldF left post)
  | [], pre, left, h0, h1, hw, hl => by
    refine Ev.step (f := fun _ => some true) (fun k => ?_) (Ev.now _)
    simp only [wave_Valid.l0]
    rw [if_neg (by simp)]
  | x :: post, pre, left, h0, h1, hw, hl => by
    have hx := hw x (by simp)
    have hlt := mid_lt pre post x
    have hn : pre.length ≤ 9223372036854775806 := by
      simp only [List.length_append, List.length_cons] at hl
      omega
    by_cases c : (x.f0 = 0 ∨ x.f0 = 1) ∧ 1 ≤ x.f1 ∧ x.f1 ≤ left
    · have ih := wave_Valid_l0 post (pre ++ [x]) (left - x.f1) (by omega) (by omega) (fun y hy => hw y (by simp [hy])) (by simpa using hl)
      rw [← mid_snoc] at ih
      rw [vldF, if_pos c]
      refine Ev.step (fun k => ?_) ih
      simp only [wave_Valid.l0]
      rw [rd_mid, if_pos hlt, if_pos (by omega), if_pos hlt, if_pos ((andNot1 hx.1).2 c.1), if_neg (by omega), if_neg (by omega), w64 (by omega) (by omega), succ_mid _ _ hn]
    · rw [vldF, if_neg c]
      refine Ev.step (f := fun _ => some false) (fun k => ?_) (Ev.now _)
      simp only [wave_Valid.l0]
      rw [rd_mid, if_pos hlt, if_pos (by omega), if_pos hlt]
      by_cases c1 : x.f0 = 0 ∨ x.f0 = 1
      · rw [if_pos ((andNot1 hx.1).2 c1)]
        by_cases c2 : x.f1 < 1
        · rw [if_pos c2]
        · rw [if_neg c2, if_pos (by
            have : ¬ (1 ≤ x.f1 ∧ x.f1 ≤ left) := fun h => c ⟨c1, h⟩
            omega)]
      · rw [if_neg (fun h => c1 ((andNot1 hx.1).1 h))]
theorem wave_Valid_ev {l : List S39} (hw : RunsWf l) (hl : l.length ≤ 140737488351232) : Ev (fun k => wave_Valid.f k l) (vld l) := by
  unfold vld
  by_cases c : l.length ≤ 262144
  · rw [if_pos c]
    refine Ev.congr (fun k => ?_) (wave_Valid_l0 l [] 1099511627776 (by omega) (by omega) hw (by simpa using hl))
    unfold wave_Valid.f
    rw [if_neg (by omega)]
    rfl
  · rw [if_neg c]
    refine Ev.congr (fun k => ?_) (Ev.now _)
    unfold wave_Valid.f
    rw [if_pos (by omega)]
def longV (l : List S39) : Int := if vld l = true then sm l else 0
theorem wave_sum_l0 : ∀ (post pre : List S39) (s : Int), 0 ≤ s → s + sm post ≤ 4611686018427387904 → RunsOk post → (pre ++ post).length ≤ 140737488351232 →
    Ev (fun k => wave_sum.l0 k s (pre ++ post) ((pre ++ post).length : Int) (pre.length : Int)) (s + sm post)
  | [], pre, s, h0, h1, hw, hl => by
    refine Ev.step (f := fun _ => some s) (fun k => ?_) ?_
    · simp only [wave_sum.l0]
      rw [if_neg (by simp)]
    · simp only [sm, Int.add_zero]
      exact Ev.now _
  | x :: post, pre, s, h0, h1, hw, hl => by
    have hx := hw.cons
    have hs := sm_nonneg hx.2
    simp only [sm] at h1
    have hlt := mid_lt pre post x
    have hn : pre.length ≤ 9223372036854775806 := by
      simp only [List.length_append, List.length_cons] at hl
      omega
    have ih := wave_sum_l0 post (pre ++ [x]) (s + x.f1) (by omega) (by omega) hx.2 (by simpa using hl)
    rw [← mid_snoc] at ih
    have e1 : s + sm (x :: post) = s + x.f1 + sm post := by
      simp only [sm]
      omega
    rw [e1]
    refine Ev.step (fun k => ?_) ih
    simp only [wave_sum.l0]
    rw [rd_mid, if_pos hlt, if_pos (by omega), if_pos hlt, w64 (x := s + x.f1) (by omega) (by omega), succ_mid _ _ hn]
theorem wave_sum_ev {l : List S39} (hw : RunsOk l) (hs : sm l ≤ 4611686018427387904) (hl : l.length ≤ 140737488351232) : Ev (fun k => wave_sum.f k l) (sm l) := by
  have h := wave_sum_l0 l [] 0 (by omega) (by omega) hw (by simpa using hl)
  rw [Int.zero_add] at h
  exact Ev.congr (fun k => rfl) h
theorem wave_Long_ev {l : List S39} (hw : RunsWf l) (hl : l.length ≤ 140737488351232) : Ev (fun k => wave_Long.f k l) (longV l) := by
  unfold longV
  refine Ev.bind (wave_Valid_ev hw hl) ?_
  by_cases v : vld l = true
  · simp only [if_pos v]
    have hv := vld_iff.1 v
    exact Ev.bind (wave_sum_ev hv.2.1 (by omega) hl) (Ev.now _)
  · simp only [if_neg v]
    exact Ev.now _
def jnc (x : S39) : List S39 → List S39
  | [] => [x]
  | y :: l => if x.f0 = y.f0 then jnc ⟨x.f0, x.f1 + y.f1⟩ l else x :: jnc y l
def jn : List S39 → List S39
  | [] => []
  | x :: l => jnc x l
theorem last_at (o : List S39) (x : S39) (h : o.length ≤ 9223372036854775806) : wrap64 (((o ++ [x]).length : Int) - 1) = (o.length : Int) := by
  rw [w64 (by simp only [List.length_append, List.length_cons, List.length_nil]; omega) (by simp only [List.length_append, List.length_cons, List.length_nil]; omega)]
  simp
theorem rd_last (o : List S39) (x : S39) : rd_T39 (o ++ [x]) (o.length : Int) = x := rd_mid o [] x
theorem set_last (o : List S39) (x y : S39) : (o ++ [x]).set ((o.length : Int)).toNat y = o ++ [y] := by
  rw [Int.toNat_natCast, List.set_append_right _ _ (Nat.le_refl _), Nat.sub_self]
  rfl
theorem snoc_pos (o : List S39) (x : S39) : ((o ++ [x]).length : Int) > 0 := by
  simp only [List.length_append, List.length_cons, List.length_nil]
  omega
theorem last_lt (o : List S39) (x : S39) : (o.length : Int) < ((o ++ [x]).length : Int) := mid_lt o [] x
theorem wave_joined_l0 : ∀ (post pre o : List S39) (x : S39), 0 ≤ x.f1 → x.f1 + sm post ≤ 4611686018427387904 → RunsOk post → (pre ++ post).length ≤ 140737488351232 → o.length + post.length ≤ 4398046511104 →
    Ev (fun k => wave_joined.l0 k (o ++ [x]) (pre ++ post) ((pre ++ post).length : Int) (pre.length : Int)) (o ++ jnc x post)
  | [], pre, o, x, h0, h1, hw, hl, ho => by
    refine Ev.step (f := fun _ => some (o ++ [x])) (fun k => ?_) (Ev.now _)
    simp only [wave_joined.l0]
    rw [if_neg (by simp)]
  | y :: post, pre, o, x, h0, h1, hw, hl, ho => by
    have hy := hw.cons
    have hs := sm_nonneg hy.2
    simp only [sm] at h1
    simp only [List.length_cons] at ho
    have hlt := mid_lt pre post y
    have hn : pre.length ≤ 9223372036854775806 := by
      simp only [List.length_append, List.length_cons] at hl
      omega
    by_cases c : x.f0 = y.f0
    · have ih := wave_joined_l0 post (pre ++ [y]) o ⟨x.f0, x.f1 + y.f1⟩ (by simp only; omega) (by simp only; omega) hy.2 (by simpa using hl) (by omega)
      rw [← mid_snoc pre post y] at ih
      rw [jnc, if_pos c]
      refine Ev.step (fun k => ?_) ih
      simp only [wave_joined.l0]
      rw [rd_mid, if_pos hlt, if_pos (by omega), if_pos hlt, if_pos (snoc_pos o x), last_at o x (by omega), if_pos (by omega), if_pos (last_lt o x), rd_last, if_pos c, set_last, w64 (x := x.f1 + y.f1) (by omega) (by omega), succ_mid pre y hn]
    · have ih := wave_joined_l0 post (pre ++ [y]) (o ++ [x]) y (by omega) (by omega) hy.2 (by simpa using hl) (by simp only [List.length_append, List.length_cons, List.length_nil]; omega)
      rw [← mid_snoc pre post y] at ih
      rw [jnc, if_neg c, show o ++ x :: jnc y post = (o ++ [x]) ++ jnc y post by simp]
      refine Ev.step (fun k => ?_) ih
      simp only [wave_joined.l0]
      rw [rd_mid, if_pos hlt, if_pos (by omega), if_pos hlt, if_pos (snoc_pos o x), last_at o x (by omega), if_pos (by omega), if_pos (last_lt o x), rd_last, if_neg c, if_pos (by simp only [List.length_append, List.length_cons, List.length_nil]; omega), succ_mid pre y hn]
theorem wave_joined_ev {l : List S39} (hw : RunsOk l) (hs : sm l ≤ 4611686018427387904) (hl : l.length ≤ 4398046511104) : Ev (fun k => wave_joined.f k l) (jn l) := by
  refine Ev.congr (f := fun k => wave_joined.l0 k [] l (l.length : Int) 0) (fun k => rfl) ?_
  cases l with
  | nil =>
    refine Ev.step (f := fun _ => some []) (fun k => ?_) (Ev.now _)
    simp only [wave_joined.l0]
    rw [if_neg (by simp)]
  | cons x l =>
    have hx := hw.cons
    simp only [sm] at hs
    simp only [List.length_cons] at hl
    have h := wave_joined_l0 l [x] [] x (by omega) (by omega) hx.2 (by simp; omega) (by simp; omega)
    refine Ev.step (fun k => ?_) h
    simp only [wave_joined.l0]
    have e := rd_mid [] l x
    simp only [List.nil_append, List.length_nil] at e
    have e' : rd_T39 (x :: l) 0 = x := e
    rw [e', if_pos (by simp only [List.length_cons]; omega), if_pos (by omega), if_pos (by simp only [List.length_cons]; omega), if_neg (by simp), if_pos (by simp), wrap01]
    rfl
/-- The clean wave. -/
def cleanV (l : List S39) : List S39 := if vld l = true then jn l else []
theorem wave_Clean_ev {l : List S39} (hw : RunsWf l) (hl : l.length ≤ 140737488351232) : Ev (fun k => wave_Clean.f k l) (cleanV l) := by
  unfold cleanV
  refine Ev.bind (wave_Valid_ev hw hl) ?_
  by_cases v : vld l = true
  · simp only [if_pos v]
    have hv := vld_iff.1 v
    exact Ev.bind (wave_joined_ev hv.2.1 (by omega) (by omega)) (Ev.now _)
  · simp only [if_neg v]
    exact Ev.now _
theorem jnc_len : ∀ (l : List S39) (x : S39), (jnc x l).length ≤ l.length + 1
  | [], x => Nat.le_refl _
  | y :: l, x => by
    unfold jnc
    split
    · have := jnc_len l ⟨x.f0, x.f1 + y.f1⟩
      simp only [List.length_cons]
      omega
    · have := jnc_len l y
      simp only [List.length_cons]
      omega
theorem jn_len (l : List S39) : (jn l).length ≤ l.length := by
  cases l with
  | nil => exact Nat.le_refl _
  | cons x l => exact jnc_len l x
theorem ref_Same_l0 : ∀ (post pre : List S39), (pre ++ post).length ≤ 140737488351232 → Ev (fun k => signalbenchref08_Same.l0 k (pre ++ post) (pre ++ post) (pre.length : Int)) true
  | [], pre, hl => by
    refine Ev.step (f := fun _ => some true) (fun k => ?_) (Ev.now _)
    simp only [signalbenchref08_Same.l0]
    rw [if_neg (by simp)]
  | x :: post, pre, hl => by
    have hlt := mid_lt pre post x
    have hn : pre.length ≤ 9223372036854775806 := by
      simp only [List.length_append, List.length_cons] at hl
      omega
    have ih := ref_Same_l0 post (pre ++ [x]) (by simpa using hl)
    rw [← mid_snoc pre post x] at ih
    refine Ev.step (fun k => ?_) ih
    simp only [signalbenchref08_Same.l0]
    rw [if_pos hlt, if_pos (by omega), if_pos hlt, if_neg (by simp), succ_mid pre x hn]
theorem ref_Same_ev (l : List S39) (hl : l.length ≤ 140737488351232) : Ev (fun k => signalbenchref08_Same.f k l l) true := by
  refine Ev.congr (fun k => ?_) (ref_Same_l0 l [] (by simpa using hl))
  unfold signalbenchref08_Same.f
  rw [if_pos rfl]
  rfl
def slF (a b at_ : Int) : List S39 → List S39
  | [] => []
  | x :: l => if mx at_ a < mn (at_ + x.f1) b then ⟨x.f0, mn (at_ + x.f1) b - mx at_ a⟩ :: slF a b (at_ + x.f1) l else slF a b (at_ + x.f1) l
def sliceV (l : List S39) (a b : Int) : List S39 := if vld l = true then slF a b 0 l else []
theorem wave_Slice_l0 : ∀ (post pre : List S39) (a b at_ : Int) (out : List S39), b ≤ 9223372036854775807 → 0 ≤ at_ → at_ + sm post ≤ 1099511627776 → RunsOk post → (pre ++ post).length ≤ 262144 → out.length + post.length ≤ 262144 →
    Ev (fun k => wave_Slice.l0 k a b out at_ (pre ++ post) ((pre ++ post).length : Int) (pre.length : Int)) (out ++ slF a b at_ post)
  | [], pre, a, b, at_, out, hb, h0, h1, hw, hl, ho => by
    refine Ev.step (f := fun _ => some out) (fun k => ?_) (by rw [slF, List.append_nil]; exact Ev.now _)
    simp only [wave_Slice.l0]
    rw [if_neg (by simp)]
  | x :: post, pre, a, b, at_, out, hb, h0, h1, hw, hl, ho => by
    have hx := hw.cons
    have hs := sm_nonneg hx.2
    simp only [sm] at h1
    simp only [List.length_cons] at ho
    have hlt := mid_lt pre post x
    have hn : pre.length ≤ 9223372036854775806 := by
      simp only [List.length_append, List.length_cons] at hl
      omega
    have e1 := w64 (x := at_ + x.f1) (by omega) (by omega)
    by_cases c : mx at_ a < mn (at_ + x.f1) b
    · have ih := wave_Slice_l0 post (pre ++ [x]) a b (at_ + x.f1) (out ++ [⟨x.f0, mn (at_ + x.f1) b - mx at_ a⟩]) hb (by omega) (by omega) hx.2 (by simpa using hl) (by simp only [List.length_append, List.length_cons, List.length_nil]; omega)
      rw [← mid_snoc pre post x] at ih
      rw [slF, if_pos c, mid_snoc out (slF a b (at_ + x.f1) post) ⟨x.f0, mn (at_ + x.f1) b - mx at_ a⟩]
      have e2 : wrap64 (mn (at_ + x.f1) b - mx at_ a) = mn (at_ + x.f1) b - mx at_ a := by
        unfold mx mn at c ⊢
        exact w64 (by split <;> split <;> omega) (by split <;> split <;> omega)
      refine Ev.step (fun k => ?_) ih
      simp only [wave_Slice.l0]
      rw [rd_mid, if_pos hlt, if_pos (by omega), if_pos hlt, e1, if_pos c, if_pos (by omega), e2, succ_mid pre x hn]
    · have ih := wave_Slice_l0 post (pre ++ [x]) a b (at_ + x.f1) out hb (by omega) (by omega) hx.2 (by simpa using hl) (by omega)
      rw [← mid_snoc pre post x] at ih
      rw [slF, if_neg c]
      refine Ev.step (fun k => ?_) ih
      simp only [wave_Slice.l0]
      rw [rd_mid, if_pos hlt, if_pos (by omega), if_pos hlt, e1, if_neg c, succ_mid pre x hn]
theorem wave_Slice_ev {l : List S39} {a b : Int} (hw : RunsWf l) (hl : l.length ≤ 140737488351232) (hb : b ≤ 9223372036854775807) : Ev (fun k => wave_Slice.f k l a b) (sliceV l a b) := by
  unfold sliceV
  refine Ev.bind (wave_Valid_ev hw hl) ?_
  by_cases v : vld l = true
  · simp only [if_pos v]
    have hv := vld_iff.1 v
    exact wave_Slice_l0 l [] a b 0 [] hb (by omega) (by omega) hv.2.1 (by simpa using hv.1) (by simpa using hv.1)
  · simp only [if_neg v]
    exact Ev.now _
theorem longV_le (l : List S39) : 0 ≤ longV l ∧ longV l ≤ 1099511627776 := by
  unfold longV
  split
  · rename_i v
    have hv := vld_iff.1 v
    exact ⟨sm_nonneg hv.2.1, hv.2.2⟩
  · omega
def lens : List (List S39) → Nat
  | [] => 0
  | a :: ll => a.length + lens ll
theorem rdl_mid (pre post : List (List S39)) (x : List S39) : rd_L2 (pre ++ x :: post) (pre.length : Int) = x := by simp [rd_L2, List.getD]
theorem midl_lt (pre post : List (List S39)) (x : List S39) : (pre.length : Int) < ((pre ++ x :: post).length : Int) := by
  simp only [List.length_append, List.length_cons]
  omega
theorem slices_Concat_l1 : ∀ (post pre : List (List S39)) (out : List S39), (pre ++ post).length ≤ 140737488351232 → out.length + lens post ≤ 4398046511104 →
    Ev (fun k => slices_Concat_Run.l1 k out (pre ++ post) ((pre ++ post).length : Int) (pre.length : Int)) (out ++ post.flatten)
  | [], pre, out, hl, ho => by
    refine Ev.step (f := fun _ => some out) (fun k => ?_) (by rw [List.flatten_nil, List.append_nil]; exact Ev.now _)
    simp only [slices_Concat_Run.l1]
    rw [if_neg (by simp)]
  | x :: post, pre, out, hl, ho => by
    simp only [lens] at ho
    have hlt := midl_lt pre post x
    have hb : pre.length ≤ 9223372036854775806 := by
      simp only [List.length_append, List.length_cons] at hl
      omega
    have ih := slices_Concat_l1 post (pre ++ [x]) (out ++ x) (by simpa using hl) (by simp only [List.length_append]; omega)
    rw [← mid_snoc pre post x] at ih
    rw [List.flatten_cons, ← List.append_assoc]
    refine Ev.step (fun k => ?_) ih
    simp only [slices_Concat_Run.l1]
    rw [rdl_mid, if_pos hlt, if_pos (by omega), if_pos hlt, if_pos (by omega), succ_mid pre x hb]
theorem slices_Concat_l0 : ∀ (post pre : List (List S39)) (s : Int) (ll : List (List S39)), 0 ≤ s → s + lens post ≤ 4398046511104 → (pre ++ post).length ≤ 140737488351232 → ll.length ≤ 140737488351232 → lens ll ≤ 4398046511104 →
    Ev (fun k => slices_Concat_Run.l0 k ll s (pre ++ post) ((pre ++ post).length : Int) (pre.length : Int)) ll.flatten
  | [], pre, s, ll, h0, h1, hl, hm, hn => by
    simp only [lens] at h1
    have h := slices_Concat_l1 ll [] [] (by simpa using hm) (by simpa using hn)
    refine Ev.step (fun k => ?_) h
    simp only [slices_Concat_Run.l0]
    rw [if_neg (by simp)]
    unfold slices_Grow_Run.f
    rw [if_pos h0, if_pos (by omega)]
    rfl
  | x :: post, pre, s, ll, h0, h1, hl, hm, hn => by
    simp only [lens] at h1
    have hlt := midl_lt pre post x
    have hb : pre.length ≤ 9223372036854775806 := by
      simp only [List.length_append, List.length_cons] at hl
      omega
    have ih := slices_Concat_l0 post (pre ++ [x]) (s + x.length) ll (by omega) (by omega) (by simpa using hl) hm hn
    rw [← mid_snoc pre post x] at ih
    refine Ev.step (fun k => ?_) ih
    simp only [slices_Concat_Run.l0]
    rw [rdl_mid, if_pos hlt, if_pos (by omega), if_pos hlt, w64 (x := s + (x.length : Int)) (by omega) (by omega), if_neg (by omega), succ_mid pre x hb]
theorem slices_Concat_ev {ll : List (List S39)} (hm : ll.length ≤ 140737488351232) (hn : lens ll ≤ 4398046511104) : Ev (fun k => slices_Concat_Run.f k ll) ll.flatten :=
  Ev.congr (fun k => rfl) (slices_Concat_l0 ll [] 0 ll (by omega) (by omega) (by simpa using hm) hm hn)
def joinV (a b : List S39) : List S39 × Int :=
  if vld a = true ∧ vld b = true then (if 262144 < a.length + b.length then ([], 6) else if 1099511627776 < sm a + sm b then ([], 2) else (jn (a ++ b), 0)) else ([], 1)
theorem joinV_bad {a b : List S39} (h : ¬ (vld a = true ∧ vld b = true)) : joinV a b = ([], 1) := if_neg h
theorem wave_Join_ev {a b : List S39} (ha : RunsWf a) (hb : RunsWf b) (hla : a.length ≤ 140737488351232) (hlb : b.length ≤ 140737488351232) : Ev (fun k => wave_Join.f k a b) (joinV a b) := by
  have stop : Ev (fun k => wave_Join.j0 k a b true) ([], 1) := Ev.step (f := fun _ => some ([], 1)) (fun k => by
    simp only [wave_Join.j0]
    rw [if_pos trivial]) (Ev.now _)
  refine Ev.bind (wave_Valid_ev ha hla) ?_
  by_cases va : vld a = true
  · simp only [if_pos va]
    refine Ev.bind (wave_Valid_ev hb hlb) ?_
    by_cases vb : vld b = true
    · have hva := vld_iff.1 va
      have hvb := vld_iff.1 vb
      have hsa := sm_nonneg hva.2.1
      have hsb := sm_nonneg hvb.2.1
      unfold joinV
      rw [vb, if_pos ⟨va, rfl⟩]
      have e : wrap64 ((a.length : Int) + (b.length : Int)) = (a.length : Int) + (b.length : Int) := w64 (by omega) (by omega)
      have e2 : wrap64 (sm a + sm b) = sm a + sm b := w64 (by omega) (by omega)
      by_cases c : 262144 < a.length + b.length
      · rw [if_pos c]
        refine Ev.step (f := fun _ => some ([], 6)) (fun k => ?_) (Ev.now _)
        simp only [wave_Join.j0]
        rw [if_neg (by simp), e, if_pos (by omega)]
      · rw [if_neg c]
        refine Ev.step (f := fun k => (wave_sum.f k a).bind fun t379 => ((wave_sum.f k b).bind fun t380 => (if (wrap64 (t379 + t380)) > 1099511627776 then (some (([] : List S39), 2)) else ((slices_Concat_Run.f k [a, b]).bind fun t384 => ((wave_joined.f k t384).bind fun t387 => (some (t387, 0))))))) (fun k => ?_) ?_
        · simp only [wave_Join.j0]
          rw [if_neg (by simp), e, if_neg (by omega)]
        · refine Ev.bind (wave_sum_ev hva.2.1 (by omega) (by omega)) (Ev.bind (wave_sum_ev hvb.2.1 (by omega) (by omega)) ?_)
          simp only [e2]
          by_cases c2 : 1099511627776 < sm a + sm b
          · rw [if_pos c2]
            exact Ev.congr (fun k => if_pos c2) (Ev.now _)
          · rw [if_neg c2]
            refine Ev.congr (fun k => if_neg (by omega)) ?_
            have hc := slices_Concat_ev (ll := [a, b]) (by simp) (by simp only [lens]; omega)
            have e3 : [a, b].flatten = a ++ b := by simp
            rw [e3] at hc
            refine Ev.bind hc (Ev.bind (wave_joined_ev (hva.2.1.append hvb.2.1) ?_ ?_) (Ev.now _))
            · rw [sm_append]
              omega
            · rw [List.length_append]
              omega
    · rw [joinV_bad (fun h => vb h.2), Bool.eq_false_iff.2 vb]
      exact stop
  · simp only [if_neg va]
    rw [joinV_bad (fun h => va h.1)]
    exact stop
theorem awake_ev : Ev (fun k => signalbenchlaw08_awake.f k) true := Ev.of (k := 40) (fun k => signalbenchlaw08_awake.mono k) (by decide +kernel)
theorem awake_then : Ev (fun k => (signalbenchlaw08_awake.f k).bind fun t => some t) true := Ev.bind awake_ev (Ev.now true)
theorem RunsOk.wf {l : List S39} (h : RunsOk l) (hs : sm l ≤ 1099511627776) : RunsWf l := by
  intro x hx
  have h1 := h x hx
  have h2 : x.f1 ≤ sm l := by
    clear h1 hs
    induction l with
    | nil => simp at hx
    | cons y l ih =>
      have hy := h.cons
      have hn := sm_nonneg hy.2
      simp only [sm]
      rcases List.mem_cons.1 hx with rfl | hx
      · omega
      · have := ih hy.2 hx
        omega
  have wf : ∀ n : Int, 0 ≤ n → n ≤ 1099511627776 → (Lit.int .i64 n).wf = true := fun n h0 h1 => by
    simp [Lit.wf, IntKind.min, IntKind.max, IntKind.bits, IntKind.signed]
    omega
  exact ⟨wf _ (by omega) (by omega), wf _ (by omega) (by omega)⟩
theorem vld_wf {l : List S39} (v : vld l = true) : RunsWf l := (vld_iff.1 v).2.1.wf (vld_iff.1 v).2.2
theorem slF_ok : ∀ {l : List S39} {a b at_ : Int}, RunsOk l → RunsOk (slF a b at_ l)
  | [], a, b, at_, h => h
  | x :: l, a, b, at_, h => by
    have ih := slF_ok (l := l) (a := a) (b := b) (at_ := at_ + x.f1) h.cons.2
    unfold slF
    split
    · intro y hy
      rcases List.mem_cons.1 hy with rfl | hy
      · exact ⟨h.cons.1.1, by simp only; omega⟩
      · exact ih y hy
    · exact ih
theorem slF_before : ∀ (l : List S39) (b at_ : Int), 0 ≤ at_ → b ≤ at_ → RunsOk l → slF 0 b at_ l = []
  | [], b, at_, h0, h, hw => rfl
  | x :: l, b, at_, h0, h, hw => by
    have hx := hw.cons
    unfold slF
    rw [if_neg, slF_before l b (at_ + x.f1) (by omega) (by omega) hx.2]
    unfold mx mn
    split <;> split <;> omega
theorem slF_behind : ∀ (l : List S39) (a at_ long : Int), a ≤ at_ → at_ + sm l ≤ long → RunsOk l → slF a long at_ l = l
  | [], a, at_, long, h0, h, hw => rfl
  | x :: l, a, at_, long, h0, h, hw => by
    have hx := hw.cons
    have hs := sm_nonneg hx.2
    simp only [sm] at h
    have e1 : mx at_ a = at_ := by unfold mx; split <;> omega
    have e2 : mn (at_ + x.f1) long = at_ + x.f1 := by unfold mn; split <;> omega
    unfold slF
    rw [e1, e2, if_pos (by omega), slF_behind l a (at_ + x.f1) long (by omega) (by omega) hx.2, show at_ + x.f1 - at_ = x.f1 by omega]
/-- The two parts joined are the whole joined, and no longer than it by more than one run. -/
theorem jnc_push (l : List S39) (x : S39) (a b : Int) (h : a + b = x.f1) : jnc ⟨x.f0, a⟩ (⟨x.f0, b⟩ :: l) = jnc x l := by
  rw [jnc, if_pos rfl]
  simp only [h]
theorem jn_split : ∀ (l : List S39) (t at_ long : Int), 0 ≤ at_ → at_ + sm l = long → RunsOk l →
    (jn (slF 0 t at_ l ++ slF t long at_ l) = jn l ∧ ∀ x : S39, jnc x (slF 0 t at_ l ++ slF t long at_ l) = jnc x l) ∧ sm (slF 0 t at_ l) + sm (slF t long at_ l) = sm l ∧ (slF 0 t at_ l).length + (slF t long at_ l).length ≤ l.length + 1
  | [], t, at_, long, h0, h, hw => by simp [slF, sm]
  | x :: l, t, at_, long, h0, h, hw => by
    have hx := hw.cons
    have hs := sm_nonneg hx.2
    have hsum : at_ + x.f1 + sm l = long := by
      simp only [sm] at h
      omega
    by_cases c : at_ + x.f1 ≤ t
    · -- the run lies ahead of the tick
      have ih := jn_split l t (at_ + x.f1) long (by omega) hsum hx.2
      have e1 : slF 0 t at_ (x :: l) = x :: slF 0 t (at_ + x.f1) l := by
        have m1 : mx at_ 0 = at_ := by unfold mx; split <;> omega
        have m2 : mn (at_ + x.f1) t = at_ + x.f1 := by unfold mn; split <;> omega
        rw [slF, m1, m2, if_pos (by omega), show at_ + x.f1 - at_ = x.f1 by omega]
      have e2 : slF t long at_ (x :: l) = slF t long (at_ + x.f1) l := by
        rw [slF, if_neg]
        unfold mx mn
        split <;> split <;> omega
      rw [e1, e2]
      refine ⟨⟨?_, fun y => ?_⟩, ?_, ?_⟩
      · exact ih.1.2 x
      · rw [List.cons_append, jnc, jnc, ih.1.2, ih.1.2]
      · simp only [sm]
        omega
      · simp only [List.length_cons]
        omega
    · by_cases c2 : t ≤ at_
      · -- the run lies behind it
        rw [slF_before (x :: l) t at_ h0 c2 hw, slF_behind (x :: l) t at_ long c2 (by omega) hw]
        simp [sm]
      · -- the tick lies in the run
        have e1 : slF 0 t at_ (x :: l) = [⟨x.f0, t - at_⟩] := by
          have m1 : mx at_ 0 = at_ := by unfold mx; split <;> omega
          have m2 : mn (at_ + x.f1) t = t := by unfold mn; split <;> omega
          rw [slF, m1, m2, if_pos (by omega), slF_before l t (at_ + x.f1) (by omega) (by omega) hx.2]
        have e2 : slF t long at_ (x :: l) = ⟨x.f0, at_ + x.f1 - t⟩ :: l := by
          have m1 : mx at_ t = t := by unfold mx; split <;> omega
          have m2 : mn (at_ + x.f1) long = at_ + x.f1 := by unfold mn; split <;> omega
          rw [slF, m1, m2, if_pos (by omega), slF_behind l t (at_ + x.f1) long (by omega) (by omega) hx.2]
        rw [e1, e2]
        have e3 : t - at_ + (at_ + x.f1 - t) = x.f1 := by omega
        refine ⟨⟨?_, fun y => ?_⟩, ?_, ?_⟩
        · exact jnc_push l x _ _ e3
        · show jnc y (⟨x.f0, t - at_⟩ :: ⟨x.f0, at_ + x.f1 - t⟩ :: l) = jnc y (x :: l)
          by_cases c3 : y.f0 = x.f0
          · rw [jnc, if_pos c3, jnc, if_pos c3, jnc, if_pos c3]
            simp only
            rw [Int.add_assoc, e3]
          · rw [jnc, if_neg c3, jnc_push l x _ _ e3, jnc, if_neg c3]
        · simp only [sm]
          omega
        · simp only [List.length_cons, List.length_nil]
          omega
theorem WaveParts_pure {l : List S39} {t : Int} (hw : RunsWf l) (hl : l.length ≤ 140737488351232) (ht : (Lit.int .i64 t).wf = true) : ∃ k, signalbenchlaw08_WaveParts.f k l t = some true := by
  refine Ev.rounds (g := fun k => signalbenchlaw08_WaveParts.f k l t) ?_
  refine Ev.bind (wave_Valid_ev hw hl) ?_
  have stop : Ev (fun k => signalbenchlaw08_WaveParts.j0 k l t true) true := Ev.step (fun k => by
    simp only [signalbenchlaw08_WaveParts.j0]
    rw [if_pos trivial]) awake_then
  by_cases v : vld l = true
  · simp only [if_pos v]
    have hv := vld_iff.1 v
    by_cases c : 262144 ≤ l.length
    · rw [decide_eq_true (by omega)]
      exact stop
    · rw [decide_eq_false (by omega)]
      refine Ev.step (f := fun k => (wave_Slice.f k l 0 t).bind fun t418 => ((wave_Long.f k l).bind fun t421 => ((wave_Slice.f k l t t421).bind fun t422 => ((wave_Join.f k t418 t422).bind fun bt425 => (if bt425.2 = 0 then ((wave_Clean.f k l).bind fun t429 => ((signalbenchref08_Same.f k bt425.1 t429).bind fun t432 => (if t432 = true then ((signalbenchlaw08_awake.f k).bind fun t433 => (some t433)) else (some false)))) else (some false)))))) (fun k => ?_) ?_
      · simp only [signalbenchlaw08_WaveParts.j0]
        rw [if_neg (by simp)]
      · have hs := sm_nonneg hv.2.1
        have elong : longV l = sm l := if_pos v
        have hlong := longV_le l
        have hsp := jn_split l t 0 (sm l) (by omega) (by omega) hv.2.1
        have eA : sliceV l 0 t = slF 0 t 0 l := if_pos v
        have eB : sliceV l t (longV l) = slF t (sm l) 0 l := by rw [elong]; exact if_pos v
        have oA := slF_ok (a := 0) (b := t) (at_ := 0) hv.2.1
        have oB := slF_ok (a := t) (b := sm l) (at_ := 0) hv.2.1
        have sA := sm_nonneg oA
        have sB := sm_nonneg oB
        have vA : vld (slF 0 t 0 l) = true := vld_iff.2 ⟨by omega, oA, by omega⟩
        have vB : vld (slF t (sm l) 0 l) = true := vld_iff.2 ⟨by omega, oB, by omega⟩
        have hj : joinV (slF 0 t 0 l) (slF t (sm l) 0 l) = (jn l, 0) := by
          unfold joinV
          rw [if_pos ⟨vA, vB⟩, if_neg (by omega), if_neg (by omega), hsp.1.1]
        have b1 := wave_Slice_ev (a := 0) (b := t) hw hl (wf64 ht).2
        have b2 := wave_Slice_ev (a := t) (b := longV l) hw hl (by omega)
        have b3 := wave_Join_ev (vld_wf vA) (vld_wf vB) (by omega) (by omega)
        have b4 := wave_Clean_ev hw hl
        have ecl : cleanV l = jn l := if_pos v
        rw [eA] at b1
        rw [eB] at b2
        rw [hj] at b3
        rw [ecl] at b4
        refine Ev.bind b1 (Ev.bind (wave_Long_ev hw hl) (Ev.bind b2 (Ev.bind b3 ?_)))
        simp only [if_true]
        refine Ev.bind b4 (Ev.bind (ref_Same_ev _ ?_) ?_)
        · have := jn_len l
          omega
        · simp only [if_true]
          exact awake_then
  · simp only [if_neg v]
    exact stop
end Go.Proofs.Ytakjoggjggcdpaa
