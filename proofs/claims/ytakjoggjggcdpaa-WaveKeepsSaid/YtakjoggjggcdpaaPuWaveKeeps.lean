/- The law WaveKeeps as a plain statement on numbers and lists: with enough rounds it answers true; conditions: each number is one of its kind, no list or string is longer than its memory allows. -/
import Derived.Laws.BitsAllLaws
import Derived.WalkKit
import Derived.Test.YtakjoggjggcdpaaWMore
import Derived.Test.YtakjoggjggcdpaaQx0
import Derived.Test.YtakjoggjggcdpaaQx2
import Derived.Test.YtakjoggjggcdpaaQx3
import Derived.Test.YtakjoggjggcdpaaQx6
import Derived.Test.YtakjoggjggcdpaaQx7
import Derived.Test.YtakjoggjggcdpaaQx8
import Derived.Test.YtakjoggjggcdpaaQx9
import Derived.Test.YtakjoggjggcdpaaQx10
import Derived.Test.YtakjoggjggcdpaaQx13
import Derived.Test.YtakjoggjggcdpaaQx24
import Derived.Test.YtakjoggjggcdpaaQx27
namespace Go.Proofs.Ytakjoggjggcdpaa
open Go Go.RowKit Go.Proofs.YtakjoggjggcdpaaW.PrintWords Go.Proofs.YtakjoggjggcdpaaW.PrintLast Go.Proofs.Ytakjoggjggcdpaa.Q
set_option linter.unusedVariables false
theorem w64 {x : Int} (h0 : -9223372036854775808 ≤ x) (h1 : x ≤ 9223372036854775807) : wrap64 x = x := by
  unfold wrap64
  omega
theorem wf64 {x : Int} (h : (Lit.int .i64 x).wf = true) : -9223372036854775808 ≤ x ∧ x ≤ 9223372036854775807 := by
  simp [Lit.wf, IntKind.min, IntKind.max, IntKind.bits, IntKind.signed] at h
  omega
theorem andNot1 {a : Int} (h : (Lit.int .i64 a).wf = true) : Go.bits .andNot .i64 a 1 = 0 ↔ a = 0 ∨ a = 1 := by
  have hw := wf64 h
  have e1 : Go.bits .andNot .i64 a 1 = IntKind.i64.wrap (((BitVec.ofInt 64 a &&& ~~~BitVec.ofInt 64 1).toNat : Nat) : Int) := rfl
  have e2 : (BitVec.ofInt 64 a &&& ~~~BitVec.ofInt 64 1).toNat = (BitVec.ofInt 64 a).toNat &&& 18446744073709551614 := by
    rw [BitVec.toNat_and]
    rfl
  have e3 : ((BitVec.ofInt 64 a).toNat : Int) = a % 18446744073709551616 := by
    rw [BitVec.toNat_ofInt]
    omega
  rw [e1, e2, nat_hi64_1, IntKind.wrap_i64]
  omega
theorem xor1_0 : Go.bits .xor .i64 0 1 = 1 := by decide
theorem xor1_1 : Go.bits .xor .i64 1 1 = 0 := by decide
theorem succ_mid {α : Type} (pre : List α) (x : α) (h : pre.length ≤ 9223372036854775806) : wrap64 ((pre.length : Int) + 1) = ((pre ++ [x]).length : Int) := by
  rw [w64 (by omega) (by omega)]
  simp
theorem wrap01 : wrap64 (0 + 1) = 1 := by
  unfold wrap64
  rfl
theorem mid_snoc {α : Type} (pre post : List α) (x : α) : pre ++ x :: post = (pre ++ [x]) ++ post := by simp
def sm : List S39 → Int
  | [] => 0
  | x :: l => x.f1 + sm l
def vldF (left : Int) : List S39 → Bool
  | [] => true
  | x :: l => if (x.f0 = 0 ∨ x.f0 = 1) ∧ 1 ≤ x.f1 ∧ x.f1 ≤ left then vldF (left - x.f1) l else false
def vld (l : List S39) : Bool := if l.length ≤ 262144 then vldF 1099511627776 l else false
def RunWf (x : S39) : Prop := (Lit.int .i64 x.f0).wf = true ∧ (Lit.int .i64 x.f1).wf = true
def RunsWf (l : List S39) : Prop := ∀ x ∈ l, RunWf x
def RunsOk (l : List S39) : Prop := ∀ x ∈ l, (x.f0 = 0 ∨ x.f0 = 1) ∧ 1 ≤ x.f1
theorem rd_mid (pre post : List S39) (x : S39) : rd_T39 (pre ++ x :: post) (pre.length : Int) = x := by simp [rd_T39, List.getD]
theorem mid_lt (pre post : List S39) (x : S39) : (pre.length : Int) < ((pre ++ x :: post).length : Int) := by
  simp only [List.length_append, List.length_cons]
  omega
theorem sm_nonneg : ∀ {l : List S39}, RunsOk l → 0 ≤ sm l
  | [], _ => Int.le_refl _
  | x :: l, h => by
    have h1 := h x (by simp)
    have h2 := sm_nonneg (l := l) (fun y hy => h y (by simp [hy]))
    simp only [sm]
    omega
theorem vldF_iff : ∀ {l : List S39} {left : Int}, 0 ≤ left → (vldF left l = true ↔ RunsOk l ∧ sm l ≤ left)
  | [], left, h => by simp [vldF, RunsOk, sm, h]
  | x :: l, left, h => by
    unfold vldF
    by_cases c : (x.f0 = 0 ∨ x.f0 = 1) ∧ 1 ≤ x.f1 ∧ x.f1 ≤ left
    · rw [if_pos c, vldF_iff (l := l) (by omega)]
      simp only [RunsOk, sm, List.mem_cons, forall_eq_or_imp]
      constructor
      · rintro ⟨h1, h2⟩
        exact ⟨⟨⟨c.1, c.2.1⟩, h1⟩, by omega⟩
      · rintro ⟨⟨h1, h2⟩, h3⟩
        exact ⟨h2, by omega⟩
    · rw [if_neg c]
      simp only [Bool.false_eq_true, false_iff]
      rintro ⟨h1, h2⟩
      have h3 := h1 x (by simp)
      have h4 := sm_nonneg (l := l) (fun y hy => h1 y (by simp [hy]))
      simp only [sm] at h2
      exact c ⟨h3.1, h3.2, by omega⟩
theorem vld_iff {l : List S39} : vld l = true ↔ l.length ≤ 262144 ∧ RunsOk l ∧ sm l ≤ 1099511627776 := by
  unfold vld
  by_cases c : l.length ≤ 262144
  · rw [if_pos c, vldF_iff (by omega)]
    simp [c]
  · rw [if_neg c]
    simp [c]
theorem RunsOk.cons {x : S39} {l : List S39} (h : RunsOk (x :: l)) : ((x.f0 = 0 ∨ x.f0 = 1) ∧ 1 ≤ x.f1) ∧ RunsOk l := ⟨h x (by simp), fun y hy => h y (by simp [hy])⟩
theorem RunsOk.left {a b : List S39} (h : RunsOk (a ++ b)) : RunsOk a := fun x hx => h x (List.mem_append_left _ hx)
theorem wave_Valid_l0 : ∀ (post pre : List S39) (left : Int), 0 ≤ left → left ≤ 1099511627776 → RunsWf post → (pre ++ post).length ≤ 140737488351232 →
    Ev (fun k => wave_Valid.l0 k left (pre ++ post) ((pre ++ post).length : Int) (pre.length : Int)) (vldF left post)
  | [], pre, left, h0, h1, hw, hl => by
    refine Ev.step (f := fun _ => some true) (fun k => ?_) (Ev.now _)
    simp only [wave_Valid.l0]
    rw [if_neg (by simp)]
  | x :: post, pre, left, h0, h1, hw, hl => by
    have hx := hw x (by simp)
    have hlt := mid_lt pre post x
    have hn : pre.length ≤ 9223372036854775806 := by
      simp only [List.length_append, List.length_cons] at hl
      omega
    by_cases c : (x.f0 = 0 ∨ x.f0 = 1) ∧ 1 ≤ x.f1 ∧ x.f1 ≤ left
    · have ih := wave_Valid_l0 post (pre ++ [x]) (left - x.f1) (by omega) (by omega) (fun y hy => hw y (by simp [hy])) (by simpa using hl)
      rw [← mid_snoc] at ih
      rw [vldF, if_pos c]
      refine Ev.step (fun k => ?_) ih
      simp only [wave_Valid.l0]
      rw [rd_mid, if_pos hlt, if_pos (by omega), if_pos hlt, if_pos ((andNot1 hx.1).2 c.1), if_neg (by omega), if_neg (by omega), w64 (by omega) (by omega), succ_mid _ _ hn]
    · rw [vldF, if_neg c]
      refine Ev.step (f := fun _ => some false) (fun k => ?_) (Ev.now _)
      simp only [wave_Valid.l0]
      rw [rd_mid, if_pos hlt, if_pos (by omega), if_pos hlt]
      by_cases c1 : x.f0 = 0 ∨ x.f0 = 1
      · rw [if_pos ((andNot1 hx.1).2 c1)]
        by_cases c2 : x.f1 < 1
        · rw [if_pos c2]
        · rw [if_neg c2, if_pos (by
            have : ¬ (1 ≤ x.f1 ∧ x.f1 ≤ left) := fun h => c ⟨c1, h⟩
            omega)]
      · rw [if_neg (fun h => c1 ((andNot1 hx.1).1 h))]
theorem wave_Valid_ev {l : List S39} (hw : RunsWf l) (hl : l.length ≤ 140737488351232) : Ev (fun k => wave_Valid.f k l) (vld l) := by
  unfold vld
  by_cases c : l.length ≤ 262144
  · rw [if_pos c]
    refine Ev.congr (fun k => ?_) (wave_Valid_l0 l [] 1099511627776 (by omega) (by omega) hw (by simpa using hl))
    unfold wave_Valid.f
    rw [if_neg (by omega)]
    rfl
  · rw [if_neg c]
    refine Ev.congr (fun k => ?_) (Ev.now _)
    unfold wave_Valid.f
    rw [if_pos (by omega)]
def atS : List S39 → Int → Int × Bool
  | [], _ => (-1, false)
  | x :: l, t => if t < x.f1 then (x.f0, true) else atS l (t - x.f1)
/-- At a tick of any list of runs: (-1, false) where there is no level. -/
def atV (l : List S39) (t : Int) : Int × Bool := if t < 0 then (-1, false) else if vld l = true then atS l t else (-1, false)
theorem wave_At_l0 : ∀ (post pre : List S39) (t : Int), 0 ≤ t → t ≤ 9223372036854775807 → RunsOk post → (pre ++ post).length ≤ 140737488351232 →
    Ev (fun k => wave_At.l0 k t (pre ++ post) ((pre ++ post).length : Int) (pre.length : Int)) (atS post t)
  | [], pre, t, h0, h1, hw, hl => by
    refine Ev.step (f := fun _ => some ((-1), false)) (fun k => ?_) (Ev.now _)
    simp only [wave_At.l0]
    rw [if_neg (by simp)]
  | x :: post, pre, t, h0, h1, hw, hl => by
    have hx := hw.cons
    have hlt := mid_lt pre post x
    have hn : pre.length ≤ 9223372036854775806 := by
      simp only [List.length_append, List.length_cons] at hl
      omega
    by_cases c : t < x.f1
    · rw [atS, if_pos c]
      refine Ev.step (f := fun _ => some (x.f0, true)) (fun k => ?_) (Ev.now _)
      simp only [wave_At.l0]
      rw [rd_mid, if_pos hlt, if_pos (by omega), if_pos hlt, if_pos c]
    · have ih := wave_At_l0 post (pre ++ [x]) (t - x.f1) (by omega) (by omega) hx.2 (by simpa using hl)
      rw [← mid_snoc] at ih
      rw [atS, if_neg c]
      refine Ev.step (fun k => ?_) ih
      simp only [wave_At.l0]
      rw [rd_mid, if_pos hlt, if_pos (by omega), if_pos hlt, if_neg c, w64 (by omega) (by omega), succ_mid _ _ hn]
theorem wave_At_ev {l : List S39} {t : Int} (hw : RunsWf l) (hl : l.length ≤ 140737488351232) (ht : (Lit.int .i64 t).wf = true) : Ev (fun k => wave_At.f k l t) (atV l t) := by
  have ht' := wf64 ht
  unfold atV
  by_cases c : t < 0
  · rw [if_pos c]
    refine Ev.congr (f := fun k => wave_At.j0 k l t true) (fun k => ?_) (Ev.step (f := fun _ => some (-1, false)) (fun k => ?_) (Ev.now _))
    · unfold wave_At.f
      rw [if_pos c]
    · simp only [wave_At.j0]
      rw [if_pos trivial]
  · rw [if_neg c]
    refine Ev.congr (f := fun k => (wave_Valid.f k l).bind fun t103 => (wave_At.j0 k l t (!t103))) (fun k => ?_) (Ev.bind (wave_Valid_ev hw hl) ?_)
    · unfold wave_At.f
      rw [if_neg c]
    · by_cases v : vld l = true
      · rw [if_pos v, v]
        refine Ev.step (fun k => ?_) (wave_At_l0 l [] t (by omega) (by omega) (vld_iff.1 v).2.1 (by simpa using hl))
        simp only [wave_At.j0]
        rw [if_neg (by simp)]
        rfl
      · rw [if_neg v, Bool.eq_false_iff.2 v]
        refine Ev.step (f := fun _ => some (-1, false)) (fun k => ?_) (Ev.now _)
        simp only [wave_At.j0]
        rw [if_pos (by rfl)]
def longV (l : List S39) : Int := if vld l = true then sm l else 0
theorem wave_sum_l0 : ∀ (post pre : List S39) (s : Int), 0 ≤ s → s + sm post ≤ 4611686018427387904 → RunsOk post → (pre ++ post).length ≤ 140737488351232 →
    Ev (fun k => wave_sum.l0 k s (pre ++ post) ((pre ++ post).length : Int) (pre.length : Int)) (s + sm post)
  | [], pre, s, h0, h1, hw, hl => by
    refine Ev.step (f := fun _ => some s) (fun k => ?_) ?_
    · simp only [wave_sum.l0]
      rw [if_neg (by simp)]
    · simp only [sm, Int.add_zero]
      exact Ev.now _
  | x :: post, pre, s, h0, h1, hw, hl => by
    have hx := hw.cons
    have hs := sm_nonneg hx.2
    simp only [sm] at h1
    have hlt := mid_lt pre post x
    have hn : pre.length ≤ 9223372036854775806 := by
      simp only [List.length_append, List.length_cons] at hl
      omega
    have ih := wave_sum_l0 post (pre ++ [x]) (s + x.f1) (by omega) (by omega) hx.2 (by simpa using hl)
    rw [← mid_snoc] at ih
    have e1 : s + sm (x :: post) = s + x.f1 + sm post := by
      simp only [sm]
      omega
    rw [e1]
    refine Ev.step (fun k => ?_) ih
    simp only [wave_sum.l0]
    rw [rd_mid, if_pos hlt, if_pos (by omega), if_pos hlt, w64 (x := s + x.f1) (by omega) (by omega), succ_mid _ _ hn]
theorem wave_sum_ev {l : List S39} (hw : RunsOk l) (hs : sm l ≤ 4611686018427387904) (hl : l.length ≤ 140737488351232) : Ev (fun k => wave_sum.f k l) (sm l) := by
  have h := wave_sum_l0 l [] 0 (by omega) (by omega) hw (by simpa using hl)
  rw [Int.zero_add] at h
  exact Ev.congr (fun k => rfl) h
theorem wave_Long_ev {l : List S39} (hw : RunsWf l) (hl : l.length ≤ 140737488351232) : Ev (fun k => wave_Long.f k l) (longV l) := by
  unfold longV
  refine Ev.bind (wave_Valid_ev hw hl) ?_
  by_cases v : vld l = true
  · simp only [if_pos v]
    have hv := vld_iff.1 v
    exact Ev.bind (wave_sum_ev hv.2.1 (by omega) hl) (Ev.now _)
  · simp only [if_neg v]
    exact Ev.now _
def jnc (x : S39) : List S39 → List S39
  | [] => [x]
  | y :: l => if x.f0 = y.f0 then jnc ⟨x.f0, x.f1 + y.f1⟩ l else x :: jnc y l
def jn : List S39 → List S39
  | [] => []
  | x :: l => jnc x l
theorem last_at (o : List S39) (x : S39) (h : o.length ≤ 9223372036854775806) : wrap64 (((o ++ [x]).length : Int) - 1) = (o.length : Int) := by
  rw [w64 (by simp only [List.length_append, List.length_cons, List.length_nil]; omega) (by simp only [List.length_append, List.length_cons, List.length_nil]; omega)]
  simp
theorem rd_last (o : List S39) (x : S39) : rd_T39 (o ++ [x]) (o.length : Int) = x := rd_mid o [] x
theorem set_last (o : List S39) (x y : S39) : (o ++ [x]).set ((o.length : Int)).toNat y = o ++ [y] := by
  rw [Int.toNat_natCast, List.set_append_right _ _ (Nat.le_refl _), Nat.sub_self]
  rfl
theorem snoc_pos (o : List S39) (x : S39) : ((o ++ [x]).length : Int) > 0 := by
  simp only [List.length_append, List.length_cons, List.length_nil]
  omega
theorem last_lt (o : List S39) (x : S39) : (o.length : Int) < ((o ++ [x]).length : Int) := mid_lt o [] x
theorem wave_joined_l0 : ∀ (post pre o : List S39) (x : S39), 0 ≤ x.f1 → x.f1 + sm post ≤ 4611686018427387904 → RunsOk post → (pre ++ post).length ≤ 140737488351232 → o.length + post.length ≤ 4398046511104 →
    Ev (fun k => wave_joined.l0 k (o ++ [x]) (pre ++ post) ((pre ++ post).length : Int) (pre.length : Int)) (o ++ jnc x post)
  | [], pre, o, x, h0, h1, hw, hl, ho => by
    refine Ev.step (f := fun _ => some (o ++ [x])) (fun k => ?_) (Ev.now _)
    simp only [wave_joined.l0]
    rw [if_neg (by simp)]
  | y :: post, pre, o, x, h0, h1, hw, hl, ho => by
    have hy := hw.cons
    have hs := sm_nonneg hy.2
    simp only [sm] at h1
    simp only [List.length_cons] at ho
    have hlt := mid_lt pre post y
    have hn : pre.length ≤ 9223372036854775806 := by
      simp only [List.length_append, List.length_cons] at hl
      omega
    by_cases c : x.f0 = y.f0
    · have ih := wave_joined_l0 post (pre ++ [y]) o ⟨x.f0, x.f1 + y.f1⟩ (by simp only; omega) (by simp only; omega) hy.2 (by simpa using hl) (by omega)
      rw [← mid_snoc pre post y] at ih
      rw [jnc, if_pos c]
      refine Ev.step (fun k => ?_) ih
      simp only [wave_joined.l0]
      rw [rd_mid, if_pos hlt, if_pos (by omega), if_pos hlt, if_pos (snoc_pos o x), last_at o x (by omega), if_pos (by omega), if_pos (last_lt o x), rd_last, if_pos c, set_last, w64 (x := x.f1 + y.f1) (by omega) (by omega), succ_mid pre y hn]
    · have ih := wave_joined_l0 post (pre ++ [y]) (o ++ [x]) y (by omega) (by omega) hy.2 (by simpa using hl) (by simp only [List.length_append, List.length_cons, List.length_nil]; omega)
      rw [← mid_snoc pre post y] at ih
      rw [jnc, if_neg c, show o ++ x :: jnc y post = (o ++ [x]) ++ jnc y post by simp]
      refine Ev.step (fun k => ?_) ih
      simp only [wave_joined.l0]
      rw [rd_mid, if_pos hlt, if_pos (by omega), if_pos hlt, if_pos (snoc_pos o x), last_at o x (by omega), if_pos (by omega), if_pos (last_lt o x), rd_last, if_neg c, if_pos (by simp only [List.length_append, List.length_cons, List.length_nil]; omega), succ_mid pre y hn]
theorem wave_joined_ev {l : List S39} (hw : RunsOk l) (hs : sm l ≤ 4611686018427387904) (hl : l.length ≤ 4398046511104) : Ev (fun k => wave_joined.f k l) (jn l) := by
  refine Ev.congr (f := fun k => wave_joined.l0 k [] l (l.length : Int) 0) (fun k => rfl) ?_
  cases l with
  | nil =>
    refine Ev.step (f := fun _ => some []) (fun k => ?_) (Ev.now _)
    simp only [wave_joined.l0]
    rw [if_neg (by simp)]
  | cons x l =>
    have hx := hw.cons
    simp only [sm] at hs
    simp only [List.length_cons] at hl
    have h := wave_joined_l0 l [x] [] x (by omega) (by omega) hx.2 (by simp; omega) (by simp; omega)
    refine Ev.step (fun k => ?_) h
    simp only [wave_joined.l0]
    have e := rd_mid [] l x
    simp only [List.nil_append, List.length_nil] at e
    have e' : rd_T39 (x :: l) 0 = x := e
    rw [e', if_pos (by simp only [List.length_cons]; omega), if_pos (by omega), if_pos (by simp only [List.length_cons]; omega), if_neg (by simp), if_pos (by simp), wrap01]
    rfl
/-- The clean wave. -/
def cleanV (l : List S39) : List S39 := if vld l = true then jn l else []
theorem wave_Clean_ev {l : List S39} (hw : RunsWf l) (hl : l.length ≤ 140737488351232) : Ev (fun k => wave_Clean.f k l) (cleanV l) := by
  unfold cleanV
  refine Ev.bind (wave_Valid_ev hw hl) ?_
  by_cases v : vld l = true
  · simp only [if_pos v]
    have hv := vld_iff.1 v
    exact Ev.bind (wave_joined_ev hv.2.1 (by omega) (by omega)) (Ev.now _)
  · simp only [if_neg v]
    exact Ev.now _
theorem jnc_sm : ∀ (l : List S39) (x : S39), sm (jnc x l) = x.f1 + sm l
  | [], x => rfl
  | y :: l, x => by
    unfold jnc
    split
    · rw [jnc_sm l]
      simp only [sm]
      omega
    · simp only [sm]
      rw [jnc_sm l y]
theorem jn_sm (l : List S39) : sm (jn l) = sm l := by
  cases l with
  | nil => rfl
  | cons x l => exact jnc_sm l x
theorem jnc_len : ∀ (l : List S39) (x : S39), (jnc x l).length ≤ l.length + 1
  | [], x => Nat.le_refl _
  | y :: l, x => by
    unfold jnc
    split
    · have := jnc_len l ⟨x.f0, x.f1 + y.f1⟩
      simp only [List.length_cons]
      omega
    · have := jnc_len l y
      simp only [List.length_cons]
      omega
theorem jn_len (l : List S39) : (jn l).length ≤ l.length := by
  cases l with
  | nil => exact Nat.le_refl _
  | cons x l => exact jnc_len l x
theorem jnc_ok : ∀ (l : List S39) (x : S39), RunsOk (x :: l) → RunsOk (jnc x l)
  | [], x, h => h
  | y :: l, x, h => by
    have hx := h.cons
    have hy := hx.2.cons
    unfold jnc
    split
    · refine jnc_ok l _ (fun z hz => ?_)
      rcases List.mem_cons.1 hz with rfl | hz
      · exact ⟨hx.1.1, by simp only; omega⟩
      · exact hy.2 z hz
    · intro z hz
      rcases List.mem_cons.1 hz with rfl | hz
      · exact hx.1
      · exact jnc_ok l y hx.2 z hz
theorem jn_ok {l : List S39} (h : RunsOk l) : RunsOk (jn l) := by
  cases l with
  | nil => exact h
  | cons x l => exact jnc_ok l x h
theorem jn_vld {l : List S39} (h : vld l = true) : vld (jn l) = true := by
  have hv := vld_iff.1 h
  have h1 := jn_len l
  exact vld_iff.2 ⟨by omega, jn_ok hv.2.1, by rw [jn_sm]; exact hv.2.2⟩
/-- No two runs of one level side by side: behind a run of level p. -/
def apartF : Int → List S39 → Prop
  | _, [] => True
  | p, x :: l => p ≠ x.f0 ∧ apartF x.f0 l
def apart : List S39 → Prop
  | [] => True
  | x :: l => apartF x.f0 l
theorem jnc_head : ∀ (l : List S39) (x : S39), ∃ t m, jnc x l = ⟨x.f0, t⟩ :: m
  | [], x => ⟨x.f1, [], rfl⟩
  | y :: l, x => by
    unfold jnc
    split
    · exact jnc_head l ⟨x.f0, x.f1 + y.f1⟩
    · exact ⟨x.f1, _, rfl⟩
theorem jnc_apart : ∀ (l : List S39) (x : S39), apart (jnc x l)
  | [], x => trivial
  | y :: l, x => by
    unfold jnc
    split
    · exact jnc_apart l _
    · rename_i c
      obtain ⟨t, m, e⟩ := jnc_head l y
      have h := jnc_apart l y
      rw [e] at h ⊢
      exact ⟨c, h⟩
theorem jn_apart (l : List S39) : apart (jn l) := by
  cases l with
  | nil => trivial
  | cons x l => exact jnc_apart l x
theorem jnc_of_apart : ∀ (l : List S39) (x : S39), apartF x.f0 l → jnc x l = x :: l
  | [], x, _ => rfl
  | y :: l, x, h => by
    unfold jnc
    rw [if_neg h.1, jnc_of_apart l y h.2]
theorem jn_of_apart {l : List S39} (h : apart l) : jn l = l := by
  cases l with
  | nil => rfl
  | cons x l => exact jnc_of_apart l x h
theorem jn_jn (l : List S39) : jn (jn l) = jn l := jn_of_apart (jn_apart l)
theorem jnc_at : ∀ (l : List S39) (x : S39) (t : Int), 0 ≤ x.f1 → RunsOk l → atS (jnc x l) t = atS (x :: l) t
  | [], x, t, _, _ => rfl
  | y :: l, x, t, h0, h => by
    have hy := h.cons
    unfold jnc
    split
    · rename_i c
      rw [jnc_at l _ t (by simp only; omega) hy.2]
      simp only [atS]
      by_cases c1 : t < x.f1
      · rw [if_pos c1, if_pos (by omega)]
      · rw [if_neg c1]
        by_cases c2 : t - x.f1 < y.f1
        · rw [if_pos c2, if_pos (by omega), c]
        · rw [if_neg c2, if_neg (by omega)]
          congr 1
          omega
    · simp only [atS]
      rw [jnc_at l y _ (by omega) hy.2]
      simp only [atS]
theorem jn_at {l : List S39} (h : RunsOk l) (t : Int) : atS (jn l) t = atS l t := by
  cases l with
  | nil => rfl
  | cons x l => exact jnc_at l x t (by have := h.cons; omega) h.cons.2
theorem rd_prev (q post : List S39) (w : S39) : rd_T39 ((q ++ [w]) ++ post) (q.length : Int) = w := by
  rw [← mid_snoc]
  exact rd_mid q post w
theorem prev_lt (q post : List S39) (w : S39) : (q.length : Int) < (((q ++ [w]) ++ post).length : Int) := by
  rw [← mid_snoc]
  exact mid_lt q post w
theorem ref_Same_l0 : ∀ (post pre : List S39), (pre ++ post).length ≤ 140737488351232 → Ev (fun k => signalbenchref08_Same.l0 k (pre ++ post) (pre ++ post) (pre.length : Int)) true
  | [], pre, hl => by
    refine Ev.step (f := fun _ => some true) (fun k => ?_) (Ev.now _)
    simp only [signalbenchref08_Same.l0]
    rw [if_neg (by simp)]
  | x :: post, pre, hl => by
    have hlt := mid_lt pre post x
    have hn : pre.length ≤ 9223372036854775806 := by
      simp only [List.length_append, List.length_cons] at hl
      omega
    have ih := ref_Same_l0 post (pre ++ [x]) (by simpa using hl)
    rw [← mid_snoc pre post x] at ih
    refine Ev.step (fun k => ?_) ih
    simp only [signalbenchref08_Same.l0]
    rw [if_pos hlt, if_pos (by omega), if_pos hlt, if_neg (by simp), succ_mid pre x hn]
theorem ref_Same_ev (l : List S39) (hl : l.length ≤ 140737488351232) : Ev (fun k => signalbenchref08_Same.f k l l) true := by
  refine Ev.congr (fun k => ?_) (ref_Same_l0 l [] (by simpa using hl))
  unfold signalbenchref08_Same.f
  rw [if_pos rfl]
  rfl
theorem xor1 {a : Int} (h : a = 0 ∨ a = 1) : Go.bits .xor .i64 a 1 = 1 - a := by
  rcases h with rfl | rfl
  · exact xor1_0
  · exact xor1_1
def invR (x : S39) : S39 := ⟨1 - x.f0, x.f1⟩
def invV (l : List S39) : List S39 := if vld l = true then l.map invR else []
theorem set_mid (pre post : List S39) (x y : S39) : (pre ++ x :: post).set ((pre.length : Int)).toNat y = pre ++ y :: post := by
  rw [Int.toNat_natCast, List.set_append_right _ _ (Nat.le_refl _), Nat.sub_self]
  rfl
theorem wave_Invert_l0 : ∀ (post pre : List S39) (n : Int), RunsOk post → (pre ++ post).length ≤ 262144 → n = ((pre ++ post).length : Int) →
    Ev (fun k => wave_Invert.l0 k (pre ++ post) n (pre.length : Int)) (pre ++ post.map invR)
  | [], pre, n, hw, hl, hn => by
    refine Ev.step (f := fun _ => some (pre ++ [])) (fun k => ?_) (Ev.now _)
    simp only [wave_Invert.l0]
    rw [if_neg (by rw [hn]; simp)]
  | x :: post, pre, n, hw, hl, hn => by
    have hx := hw.cons
    have hlt := mid_lt pre post x
    have hb : pre.length ≤ 9223372036854775806 := by
      simp only [List.length_append, List.length_cons] at hl
      omega
    have ih := wave_Invert_l0 post (pre ++ [invR x]) n hx.2 (by simpa using hl) (by rw [hn]; simp)
    rw [← mid_snoc pre post (invR x)] at ih
    rw [List.map_cons, mid_snoc pre (post.map invR) (invR x)]
    refine Ev.step (fun k => ?_) ih
    simp only [wave_Invert.l0]
    rw [rd_mid, if_pos (by rw [hn]; exact hlt), if_pos (by omega), if_pos hlt, set_mid, xor1 hx.1.1, succ_mid pre (invR x) hb]
    rfl
theorem copy_all (n : Nat) (z : S39) (l : List S39) (h : n = l.length) : Kd.copyL (List.replicate n z) l = l := by
  unfold Kd.copyL
  rw [List.length_replicate, h, List.take_length, List.drop_of_length_le (by simp), List.append_nil]
theorem wave_Invert_ev {l : List S39} (hw : RunsWf l) (hl : l.length ≤ 140737488351232) : Ev (fun k => wave_Invert.f k l) (invV l) := by
  unfold invV
  refine Ev.bind (wave_Valid_ev hw hl) ?_
  by_cases v : vld l = true
  · simp only [if_pos v]
    have hv := vld_iff.1 v
    have e : ((l.length : Int)).toNat = l.length := Int.toNat_natCast _
    have h := wave_Invert_l0 l [] (l.length : Int) hv.2.1 (by simpa using hv.1) (by simp)
    refine Ev.congr (fun k => ?_) h
    rw [if_pos (by omega), if_pos (by omega)]
    simp only [Option.bind_some]
    rw [if_pos (by rw [List.length_replicate, e]; omega), copy_all _ _ _ e]
    rfl
  · simp only [if_neg v]
    exact Ev.now _
theorem awake_ev : Ev (fun k => signalbenchlaw08_awake.f k) true := Ev.of (k := 40) (fun k => signalbenchlaw08_awake.mono k) (by decide +kernel)
theorem awake_then : Ev (fun k => (signalbenchlaw08_awake.f k).bind fun t => some t) true := Ev.bind awake_ev (Ev.now true)
theorem RunsOk.wf {l : List S39} (h : RunsOk l) (hs : sm l ≤ 1099511627776) : RunsWf l := by
  intro x hx
  have h1 := h x hx
  have h2 : x.f1 ≤ sm l := by
    clear h1 hs
    induction l with
    | nil => simp at hx
    | cons y l ih =>
      have hy := h.cons
      have hn := sm_nonneg hy.2
      simp only [sm]
      rcases List.mem_cons.1 hx with rfl | hx
      · omega
      · have := ih hy.2 hx
        omega
  have wf : ∀ n : Int, 0 ≤ n → n ≤ 1099511627776 → (Lit.int .i64 n).wf = true := fun n h0 h1 => by
    simp [Lit.wf, IntKind.min, IntKind.max, IntKind.bits, IntKind.signed]
    omega
  exact ⟨wf _ (by omega) (by omega), wf _ (by omega) (by omega)⟩
theorem vld_wf {l : List S39} (v : vld l = true) : RunsWf l := (vld_iff.1 v).2.1.wf (vld_iff.1 v).2.2
theorem cleanV_wf (l : List S39) : RunsWf (cleanV l) := by
  unfold cleanV
  by_cases v : vld l = true
  · rw [if_pos v]
    exact vld_wf (jn_vld v)
  · rw [if_neg v]
    exact fun x hx => by simp at hx
theorem cleanV_len (l : List S39) : (cleanV l).length ≤ l.length := by
  unfold cleanV
  split
  · exact jn_len l
  · simp
theorem inv_ok {l : List S39} (h : RunsOk l) : RunsOk (l.map invR) := by
  intro y hy
  obtain ⟨x, hx, rfl⟩ := List.mem_map.1 hy
  have := h x hx
  unfold invR
  exact ⟨by simp only; omega, this.2⟩
theorem inv_sm : ∀ (l : List S39), sm (l.map invR) = sm l
  | [] => rfl
  | x :: l => by
    simp only [List.map_cons, sm, inv_sm l]
    rfl
theorem inv_vld {l : List S39} (v : vld l = true) : vld (l.map invR) = true := by
  have hv := vld_iff.1 v
  exact vld_iff.2 ⟨by simpa using hv.1, inv_ok hv.2.1, by rw [inv_sm]; exact hv.2.2⟩
theorem inv_inv (l : List S39) : (l.map invR).map invR = l := by
  rw [List.map_map]
  conv => rhs; rw [← List.map_id l]
  refine List.map_congr_left (fun x _ => ?_)
  show (⟨1 - (1 - x.f0), x.f1⟩ : S39) = x
  have : 1 - (1 - x.f0) = x.f0 := by omega
  rw [this]
theorem invV_wf (l : List S39) : RunsWf (invV l) := by
  unfold invV
  by_cases v : vld l = true
  · rw [if_pos v]
    exact vld_wf (inv_vld v)
  · rw [if_neg v]
    exact fun x hx => by simp at hx
theorem invV_len (l : List S39) : (invV l).length ≤ l.length := by
  unfold invV
  split <;> simp
theorem inv_at : ∀ (l : List S39) (t : Int), atS (l.map invR) t = if (atS l t).2 = true then (1 - (atS l t).1, true) else (-1, false)
  | [], t => by simp [atS]
  | x :: l, t => by
    have e : (invR x).f1 = x.f1 := rfl
    by_cases c : t < x.f1
    · have e1 : atS (x :: l) t = (x.f0, true) := by rw [atS, if_pos c]
      have e2 : atS ((x :: l).map invR) t = (1 - x.f0, true) := by
        rw [List.map_cons, atS, e, if_pos c]
        rfl
      rw [e1, e2]
      rfl
    · have e1 : atS (x :: l) t = atS l (t - x.f1) := by rw [atS, if_neg c]
      have e2 : atS ((x :: l).map invR) t = atS (l.map invR) (t - x.f1) := by rw [List.map_cons, atS, e, if_neg c]
      rw [e1, e2]
      exact inv_at l _
theorem atS_level : ∀ {l : List S39} {t : Int}, RunsOk l → (atS l t).2 = true → (atS l t).1 = 0 ∨ (atS l t).1 = 1
  | [], t, h, h2 => by simp [atS] at h2
  | x :: l, t, h, h2 => by
    simp only [atS] at h2 ⊢
    by_cases c : t < x.f1
    · rw [if_pos c]
      exact h.cons.1.1
    · rw [if_neg c] at h2 ⊢
      exact atS_level h.cons.2 h2
theorem clean_at (l : List S39) (t : Int) : atV (cleanV l) t = atV l t := by
  unfold atV cleanV
  by_cases c : t < 0
  · rw [if_pos c, if_pos c]
  · rw [if_neg c, if_neg c]
    by_cases v : vld l = true
    · rw [if_pos v, if_pos v, if_pos (jn_vld v), jn_at (vld_iff.1 v).2.1]
    · rw [if_neg v, if_neg v]
      split <;> rfl
theorem clean_long (l : List S39) : longV (cleanV l) = longV l := by
  unfold longV cleanV
  by_cases v : vld l = true
  · rw [if_pos v, if_pos v, if_pos (jn_vld v), jn_sm]
  · rw [if_neg v, if_neg v]
    split <;> rfl
theorem clean_clean (l : List S39) : cleanV (cleanV l) = cleanV l := by
  unfold cleanV
  by_cases v : vld l = true
  · rw [if_pos v, if_pos (jn_vld v), jn_jn]
  · rw [if_neg v]
    split <;> rfl
theorem clean_apart (l : List S39) : apart (cleanV l) := by
  unfold cleanV
  split
  · exact jn_apart l
  · trivial
theorem vld_clean (l : List S39) : vld (cleanV l) = true := by
  unfold cleanV
  by_cases v : vld l = true
  · rw [if_pos v]
    exact jn_vld v
  · rw [if_neg v]
    rfl
theorem WaveKeeps_l0 {x0 x5 : List S39} {x1 x6 : Int} {x7 : Bool} (hend : Ev (fun k => (wave_Invert.f k x0).bind fun t326 => ((wave_At.f k t326 x1).bind fun bt329 => (if (bt329.2 != x7) = true then (signalbenchlaw08_WaveKeeps.j2 k x5 true) else (if x7 = true then (signalbenchlaw08_WaveKeeps.j2 k x5 ((wrap64 (bt329.1 + x6)) != 1)) else (signalbenchlaw08_WaveKeeps.j2 k x5 false))))) true) :
    ∀ (post q : List S39) (w : S39), x5 = (q ++ [w]) ++ post → x5.length ≤ 140737488351232 → apartF w.f0 post → Ev (fun k => signalbenchlaw08_WaveKeeps.l0 k x0 x1 x5 x6 x7 ((q ++ [w]).length : Int)) true
  | [], q, w, e, hl, h => by
    refine Ev.step (fun k => ?_) hend
    simp only [signalbenchlaw08_WaveKeeps.l0]
    rw [if_neg (by rw [e]; simp)]
  | y :: post, q, w, e, hl, h => by
    have ih := WaveKeeps_l0 hend post (q ++ [w]) y (by rw [e]; simp) hl h.2
    have hlt := mid_lt (q ++ [w]) post y
    rw [← e] at hlt
    have hq : q.length ≤ 9223372036854775806 := by
      rw [e] at hl
      simp only [List.length_append, List.length_cons] at hl
      omega
    have hn : (q ++ [w]).length ≤ 9223372036854775806 := by
      rw [e] at hl
      simp only [List.length_append, List.length_cons] at hl ⊢
      omega
    have hr := rd_prev q (y :: post) w
    have hp := prev_lt q (y :: post) w
    have hr2 := rd_mid (q ++ [w]) post y
    rw [← e] at hr hp hr2
    refine Ev.step (fun k => ?_) ih
    simp only [signalbenchlaw08_WaveKeeps.l0]
    rw [if_pos hlt, if_pos (by omega), last_at q w hq, if_pos (by omega), if_pos hp, hr, hr2, if_neg (fun h2 => h.1 h2.symm), succ_mid (q ++ [w]) y hn]
theorem WaveKeeps_start {x0 x5 : List S39} {x1 x6 : Int} {x7 : Bool} (hend : Ev (fun k => (wave_Invert.f k x0).bind fun t326 => ((wave_At.f k t326 x1).bind fun bt329 => (if (bt329.2 != x7) = true then (signalbenchlaw08_WaveKeeps.j2 k x5 true) else (if x7 = true then (signalbenchlaw08_WaveKeeps.j2 k x5 ((wrap64 (bt329.1 + x6)) != 1)) else (signalbenchlaw08_WaveKeeps.j2 k x5 false))))) true)
    (hl : x5.length ≤ 140737488351232) (h : apart x5) : Ev (fun k => signalbenchlaw08_WaveKeeps.l0 k x0 x1 x5 x6 x7 1) true := by
  cases x5 with
  | nil =>
    refine Ev.step (fun k => ?_) hend
    simp only [signalbenchlaw08_WaveKeeps.l0]
    rw [if_neg (by simp)]
  | cons w post => exact WaveKeeps_l0 hend post [] w rfl hl h
theorem WaveKeeps_pure {l : List S39} {t : Int} (hw : RunsWf l) (hl : l.length ≤ 140737488351232) (ht : (Lit.int .i64 t).wf = true) : ∃ k, signalbenchlaw08_WaveKeeps.f k l t = some true := by
  refine Ev.rounds (g := fun k => signalbenchlaw08_WaveKeeps.f k l t) ?_
  have hc := cleanV_wf l
  have hcl := cleanV_len l
  have a1 := wave_At_ev hc (by omega) ht
  rw [clean_at] at a1
  have a2 := wave_Long_ev hc (by omega)
  rw [clean_long] at a2
  have a3 := wave_Clean_ev hc (by omega)
  rw [clean_clean] at a3
  refine Ev.bind (wave_Clean_ev hw hl) (Ev.bind (wave_At_ev hw hl ht) (Ev.bind a1 ?_))
  simp only [if_true, bne_self_eq_false, Bool.false_eq_true, if_false]
  refine Ev.bind a2 (Ev.bind (wave_Long_ev hw hl) ?_)
  simp only [if_true]
  refine Ev.bind a3 (Ev.bind (ref_Same_ev _ (by omega)) ?_)
  refine Ev.step (f := fun k => signalbenchlaw08_WaveKeeps.l0 k l t (cleanV l) (atV l t).1 (atV l t).2 1) (fun k => ?_) ?_
  · simp only [signalbenchlaw08_WaveKeeps.j0]
    rw [if_neg (by simp)]
  · refine WaveKeeps_start ?_ (by omega) (clean_apart l)
    refine Ev.bind (wave_Invert_ev hw hl) (Ev.bind (wave_At_ev (invV_wf l) (by have := invV_len l; omega) ht) ?_)
    have h2 : (atV (invV l) t).2 = (atV l t).2 ∧ ((atV l t).2 = true → (atV (invV l) t).1 + (atV l t).1 = 1 ∧ ((atV l t).1 = 0 ∨ (atV l t).1 = 1)) := by
      unfold atV invV
      by_cases c : t < 0
      · rw [if_pos c, if_pos c]
        simp
      · rw [if_neg c, if_neg c]
        by_cases v : vld l = true
        · rw [if_pos v, if_pos v, if_pos (inv_vld v), inv_at]
          cases hb : (atS l t).2 with
          | true =>
            simp only [if_true, true_and]
            intro _
            have := atS_level (vld_iff.1 v).2.1 hb
            exact ⟨by omega, this⟩
          | false =>
            simp
        · rw [if_neg v, if_neg v]
          split <;> simp [atS]
    have last : Ev (fun k => signalbenchlaw08_WaveKeeps.j2 k (cleanV l) false) true := by
      have hi : (invV (cleanV l)) = (cleanV l).map invR := if_pos (vld_clean l)
      have b1 := wave_Invert_ev hc (by omega)
      have b2 := wave_Invert_ev (invV_wf (cleanV l)) (by have := invV_len (cleanV l); omega)
      have e2 : invV (invV (cleanV l)) = cleanV l := by
        rw [hi]
        unfold invV
        rw [if_pos (inv_vld (vld_clean l)), inv_inv]
      rw [e2] at b2
      refine Ev.step (f := fun k => (wave_Invert.f k (cleanV l)).bind fun a => ((wave_Invert.f k a).bind fun b => ((signalbenchref08_Same.f k b (cleanV l)).bind fun c => (if c = true then ((signalbenchlaw08_awake.f k).bind fun t => (some t)) else (some false))))) (fun k => ?_) ?_
      · simp only [signalbenchlaw08_WaveKeeps.j2]
        rw [if_neg (by simp)]
      · refine Ev.bind b1 (Ev.bind b2 (Ev.bind (ref_Same_ev _ (by omega)) ?_))
        simp only [if_true]
        exact awake_then
    rw [h2.1]
    simp only [bne_self_eq_false, Bool.false_eq_true, if_false]
    cases hb : (atV l t).2 with
    | true =>
      have h3 := h2.2 hb
      simp only [if_true]
      rw [w64 (by omega) (by omega), h3.1]
      exact last
    | false =>
      simp only [Bool.false_eq_true, if_false]
      exact last
end Go.Proofs.Ytakjoggjggcdpaa
