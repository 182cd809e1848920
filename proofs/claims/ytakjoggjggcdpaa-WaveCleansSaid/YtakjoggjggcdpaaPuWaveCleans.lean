/- The law WaveCleans as a plain statement on numbers and lists: with enough rounds it answers true; conditions: each number is one of its kind, no list or string is longer than its memory allows. -/
import Derived.Laws.BitsAllLaws
import Derived.WalkKit
import Derived.Test.YtakjoggjggcdpaaWMore
import Derived.Test.YtakjoggjggcdpaaQx0
import Derived.Test.YtakjoggjggcdpaaQx2
import Derived.Test.YtakjoggjggcdpaaQx8
import Derived.Test.YtakjoggjggcdpaaQx9
import Derived.Test.YtakjoggjggcdpaaQx10
import Derived.Test.YtakjoggjggcdpaaQx13
import Derived.Test.YtakjoggjggcdpaaQx15
import Derived.Test.YtakjoggjggcdpaaQx18
import Derived.Test.YtakjoggjggcdpaaQx19
import Derived.Test.YtakjoggjggcdpaaQx24
import Derived.Test.YtakjoggjggcdpaaQx25
import Derived.Test.YtakjoggjggcdpaaQx26
namespace Go.Proofs.Ytakjoggjggcdpaa
open Go Go.RowKit Go.Proofs.YtakjoggjggcdpaaW.PrintWords Go.Proofs.YtakjoggjggcdpaaW.PrintLast Go.Proofs.Ytakjoggjggcdpaa.Q
set_option linter.unusedVariables false
theorem w64 {x : Int} (h0 : -9223372036854775808 ≤ x) (h1 : x ≤ 9223372036854775807) : wrap64 x = x := by
  unfold wrap64
  omega
theorem wf64 {x : Int} (h : (Lit.int .i64 x).wf = true) : -9223372036854775808 ≤ x ∧ x ≤ 9223372036854775807 := by
  simp [Lit.wf, IntKind.min, IntKind.max, IntKind.bits, IntKind.signed] at h
  omega
theorem andNot1 {a : Int} (h : (Lit.int .i64 a).wf = true) : Go.bits .andNot .i64 a 1 = 0 ↔ a = 0 ∨ a = 1 := by
  have hw := wf64 h
  have e1 : Go.bits .andNot .i64 a 1 = IntKind.i64.wrap (((BitVec.ofInt 64 a &&& ~~~BitVec.ofInt 64 1).toNat : Nat) : Int) := rfl
  have e2 : (BitVec.ofInt 64 a &&& ~~~BitVec.ofInt 64 1).toNat = (BitVec.ofInt 64 a).toNat &&& 18446744073709551614 := by
    rw [BitVec.toNat_and]
    rfl
  have e3 : ((BitVec.ofInt 64 a).toNat : Int) = a % 18446744073709551616 := by
    rw [BitVec.toNat_ofInt]
    omega
  rw [e1, e2, nat_hi64_1, IntKind.wrap_i64]
  omega
theorem xor1_0 : Go.bits .xor .i64 0 1 = 1 := by decide
theorem xor1_1 : Go.bits .xor .i64 1 1 = 0 := by decide
theorem succ_mid {α : Type} (pre : List α) (x : α) (h : pre.length ≤ 9223372036854775806) : wrap64 ((pre.length : Int) + 1) = ((pre ++ [x]).length : Int) := by
  rw [w64 (by omega) (by omega)]
  simp
theorem wrap01 : wrap64 (0 + 1) = 1 := by
  unfold wrap64
  rfl
theorem mid_snoc {α : Type} (pre post : List α) (x : α) : pre ++ x :: post = (pre ++ [x]) ++ post := by simp
def sm : List S39 → Int
  | [] => 0
  | x :: l => x.f1 + sm l
def vldF (left : Int) : List S39 → Bool
  | [] => true
  | x :: l => if (x.f0 = 0 ∨ x.f0 = 1) ∧ 1 ≤ x.f1 ∧ x.f1 ≤ left then vldF (left - x.f1) l else false
def vld (l : List S39) : Bool := if l.length ≤ 262144 then vldF 1099511627776 l else false
def RunWf (x : S39) : Prop := (Lit.int .i64 x.f0).wf = true ∧ (Lit.int .i64 x.f1).wf = true
def RunsWf (l : List S39) : Prop := ∀ x ∈ l, RunWf x
def RunsOk (l : List S39) : Prop := ∀ x ∈ l, (x.f0 = 0 ∨ x.f0 = 1) ∧ 1 ≤ x.f1
theorem rd_mid (pre post : List S39) (x : S39) : rd_T39 (pre ++ x :: post) (pre.length : Int) = x := by simp [rd_T39, List.getD]
theorem mid_lt (pre post : List S39) (x : S39) : (pre.length : Int) < ((pre ++ x :: post).length : Int) := by
  simp only [List.length_append, List.length_cons]
  omega
theorem sm_nonneg : ∀ {l : List S39}, RunsOk l → 0 ≤ sm l
  | [], _ => Int.le_refl _
  | x :: l, h => by
    have h1 := h x (by simp)
    have h2 := sm_nonneg (l := l) (fun y hy => h y (by simp [hy]))
    simp only [sm]
    omega
theorem vldF_iff : ∀ {l : List S39} {left : Int}, 0 ≤ left → (vldF left l = true ↔ RunsOk l ∧ sm l ≤ left)
  | [], left, h => by simp [vldF, RunsOk, sm, h]
  | x :: l, left, h => by
    unfold vldF
    by_cases c : (x.f0 = 0 ∨ x.f0 = 1) ∧ 1 ≤ x.f1 ∧ x.f1 ≤ left
    · rw [if_pos c, vldF_iff (l := l) (by omega)]
      simp only [RunsOk, sm, List.mem_cons, forall_eq_or_imp]
      constructor
      · rintro ⟨h1, h2⟩
        exact ⟨⟨⟨c.1, c.2.1⟩, h1⟩, by omega⟩
      · rintro ⟨⟨h1, h2⟩, h3⟩
        exact ⟨h2, by omega⟩
    · rw [if_neg c]
      simp only [Bool.false_eq_true, false_iff]
      rintro ⟨h1, h2⟩
      have h3 := h1 x (by simp)
      have h4 := sm_nonneg (l := l) (fun y hy => h1 y (by simp [hy]))
      simp only [sm] at h2
      exact c ⟨h3.1, h3.2, by omega⟩
theorem vld_iff {l : List S39} : vld l = true ↔ l.length ≤ 262144 ∧ RunsOk l ∧ sm l ≤ 1099511627776 := by
  unfold vld
  by_cases c : l.length ≤ 262144
  · rw [if_pos c, vldF_iff (by omega)]
    simp [c]
  · rw [if_neg c]
    simp [c]
theorem RunsOk.cons {x : S39} {l : List S39} (h : RunsOk (x :: l)) : ((x.f0 = 0 ∨ x.f0 = 1) ∧ 1 ≤ x.f1) ∧ RunsOk l := ⟨h x (by simp), fun y hy => h y (by simp [hy])⟩
theorem RunsOk.left {a b : List S39} (h : RunsOk (a ++ b)) : RunsOk a := fun x hx => h x (List.mem_append_left _ hx)
theorem wave_Valid_l0 : ∀ (post pre : List S39) (left : Int), 0 ≤ left → left ≤ 1099511627776 → RunsWf post → (pre ++ post).length ≤ 140737488351232 →
    Ev (fun k => wave_Valid.l0 k left (pre ++ post) ((pre ++ post).length : Int) (pre.length : Int)) (vldF left post)
  | [], pre, left, h0, h1, hw, hl => by
    refine Ev.step (f := fun _ => some true) (fun k => ?_) (Ev.now _)
    simp only [wave_Valid.l0]
    rw [if_neg (by simp)]
  | x :: post, pre, left, h0, h1, hw, hl => by
    have hx := hw x (by simp)
    have hlt := mid_lt pre post x
    have hn : pre.length ≤ 9223372036854775806 := by
      simp only [List.length_append, List.length_cons] at hl
      omega
    by_cases c : (x.f0 = 0 ∨ x.f0 = 1) ∧ 1 ≤ x.f1 ∧ x.f1 ≤ left
    · have ih := wave_Valid_l0 post (pre ++ [x]) (left - x.f1) (by omega) (by omega) (fun y hy => hw y (by simp [hy])) (by simpa using hl)
      rw [← mid_snoc] at ih
      rw [vldF, if_pos c]
      refine Ev.step (fun k => ?_) ih
      simp only [wave_Valid.l0]
      rw [rd_mid, if_pos hlt, if_pos (by omega), if_pos hlt, if_pos ((andNot1 hx.1).2 c.1), if_neg (by omega), if_neg (by omega), w64 (by omega) (by omega), succ_mid _ _ hn]
    · rw [vldF, if_neg c]
      refine Ev.step (f := fun _ => some false) (fun k => ?_) (Ev.now _)
      simp only [wave_Valid.l0]
      rw [rd_mid, if_pos hlt, if_pos (by omega), if_pos hlt]
      by_cases c1 : x.f0 = 0 ∨ x.f0 = 1
      · rw [if_pos ((andNot1 hx.1).2 c1)]
        by_cases c2 : x.f1 < 1
        · rw [if_pos c2]
        · rw [if_neg c2, if_pos (by
            have : ¬ (1 ≤ x.f1 ∧ x.f1 ≤ left) := fun h => c ⟨c1, h⟩
            omega)]
      · rw [if_neg (fun h => c1 ((andNot1 hx.1).1 h))]
theorem wave_Valid_ev {l : List S39} (hw : RunsWf l) (hl : l.length ≤ 140737488351232) : Ev (fun k => wave_Valid.f k l) (vld l) := by
  unfold vld
  by_cases c : l.length ≤ 262144
  · rw [if_pos c]
    refine Ev.congr (fun k => ?_) (wave_Valid_l0 l [] 1099511627776 (by omega) (by omega) hw (by simpa using hl))
    unfold wave_Valid.f
    rw [if_neg (by omega)]
    rfl
  · rw [if_neg c]
    refine Ev.congr (fun k => ?_) (Ev.now _)
    unfold wave_Valid.f
    rw [if_pos (by omega)]
theorem ref_Valid_l0 : ∀ (post pre : List S39) (s : Int), 0 ≤ s → s ≤ 1099511627776 → RunsWf post → (pre ++ post).length ≤ 140737488351232 →
    Ev (fun k => signalbenchref08_Valid.l0 k (pre ++ post) s (pre.length : Int)) (vldF (1099511627776 - s) post)
  | [], pre, s, h0, h1, hw, hl => by
    refine Ev.step (f := fun _ => some true) (fun k => ?_) (Ev.now _)
    simp only [signalbenchref08_Valid.l0]
    rw [if_neg (by simp)]
  | x :: post, pre, s, h0, h1, hw, hl => by
    have hx := hw x (by simp)
    have hx1 := wf64 hx.2
    have hlt := mid_lt pre post x
    have hn : pre.length ≤ 9223372036854775806 := by
      simp only [List.length_append, List.length_cons] at hl
      omega
    by_cases c1 : x.f0 = 0 ∨ x.f0 = 1
    · have e0 : ∀ k, signalbenchref08_Valid.l0 (k + 1) (pre ++ x :: post) s (pre.length : Int) = signalbenchref08_Valid.j1 k (pre ++ x :: post) s (pre.length : Int) false := by
        intro k
        simp only [signalbenchref08_Valid.l0]
        rw [rd_mid, if_pos hlt, if_pos (by omega)]
        rcases c1 with c1 | c1
        · rw [if_pos c1]
        · rw [if_neg (by omega), c1]
          rfl
      refine Ev.step e0 ?_
      by_cases c : 1 ≤ x.f1 ∧ x.f1 ≤ 1099511627776 - s
      · have ih := ref_Valid_l0 post (pre ++ [x]) (s + x.f1) (by omega) (by omega) (fun y hy => hw y (by simp [hy])) (by simpa using hl)
        rw [← mid_snoc] at ih
        rw [vldF, if_pos ⟨c1, c⟩]
        have e1 : 1099511627776 - (s + x.f1) = 1099511627776 - s - x.f1 := by omega
        rw [e1] at ih
        refine Ev.step (fun k => ?_) ih
        simp only [signalbenchref08_Valid.j1]
        rw [rd_mid, if_neg (by simp), if_pos (by omega), if_pos hlt, if_neg (by omega), if_neg (by rw [w64 (by omega) (by omega)]; omega), w64 (by omega) (by omega), succ_mid _ _ hn]
      · rw [vldF, if_neg (fun h => c h.2)]
        refine Ev.step (f := fun _ => some false) (fun k => ?_) (Ev.now _)
        simp only [signalbenchref08_Valid.j1]
        rw [rd_mid, if_neg (by simp), if_pos (by omega), if_pos hlt]
        by_cases c2 : x.f1 < 1
        · rw [if_pos c2]
        · rw [if_neg c2, if_pos (by rw [w64 (by omega) (by omega)]; omega)]
    · rw [vldF, if_neg (fun h => c1 h.1)]
      refine Ev.step (f := fun k => signalbenchref08_Valid.j1 k (pre ++ x :: post) s (pre.length : Int) true) (fun k => ?_) (Ev.step (f := fun _ => some false) (fun k => ?_) (Ev.now _))
      · simp only [signalbenchref08_Valid.l0]
        rw [rd_mid, if_pos hlt, if_pos (by omega), if_neg (by omega)]
        congr 1
        simp
        omega
      · simp only [signalbenchref08_Valid.j1]
        rw [if_pos trivial]
theorem ref_Valid_ev {l : List S39} (hw : RunsWf l) (hl : l.length ≤ 140737488351232) : Ev (fun k => signalbenchref08_Valid.f k l) (vld l) := by
  unfold vld
  by_cases c : l.length ≤ 262144
  · rw [if_pos c]
    have h := ref_Valid_l0 l [] 0 (by omega) (by omega) hw (by simpa using hl)
    refine Ev.congr (fun k => ?_) h
    unfold signalbenchref08_Valid.f
    rw [if_neg (by omega)]
    rfl
  · rw [if_neg c]
    refine Ev.congr (fun k => ?_) (Ev.now _)
    unfold signalbenchref08_Valid.f
    rw [if_pos (by omega)]
def jnc (x : S39) : List S39 → List S39
  | [] => [x]
  | y :: l => if x.f0 = y.f0 then jnc ⟨x.f0, x.f1 + y.f1⟩ l else x :: jnc y l
def jn : List S39 → List S39
  | [] => []
  | x :: l => jnc x l
theorem last_at (o : List S39) (x : S39) (h : o.length ≤ 9223372036854775806) : wrap64 (((o ++ [x]).length : Int) - 1) = (o.length : Int) := by
  rw [w64 (by simp only [List.length_append, List.length_cons, List.length_nil]; omega) (by simp only [List.length_append, List.length_cons, List.length_nil]; omega)]
  simp
theorem rd_last (o : List S39) (x : S39) : rd_T39 (o ++ [x]) (o.length : Int) = x := rd_mid o [] x
theorem set_last (o : List S39) (x y : S39) : (o ++ [x]).set ((o.length : Int)).toNat y = o ++ [y] := by
  rw [Int.toNat_natCast, List.set_append_right _ _ (Nat.le_refl _), Nat.sub_self]
  rfl
theorem snoc_pos (o : List S39) (x : S39) : ((o ++ [x]).length : Int) > 0 := by
  simp only [List.length_append, List.length_cons, List.length_nil]
  omega
theorem last_lt (o : List S39) (x : S39) : (o.length : Int) < ((o ++ [x]).length : Int) := mid_lt o [] x
theorem wave_joined_l0 : ∀ (post pre o : List S39) (x : S39), 0 ≤ x.f1 → x.f1 + sm post ≤ 4611686018427387904 → RunsOk post → (pre ++ post).length ≤ 140737488351232 → o.length + post.length ≤ 4398046511104 →
    Ev (fun k => wave_joined.l0 k (o ++ [x]) (pre ++ post) ((pre ++ post).length : Int) (pre.length : Int)) (o ++ jnc x post)
  | [], pre, o, x, h0, h1, hw, hl, ho => by
    refine Ev.step (f := fun _ => some (o ++ [x])) (fun k => ?_) (Ev.now _)
    simp only [wave_joined.l0]
    rw [if_neg (by simp)]
  | y :: post, pre, o, x, h0, h1, hw, hl, ho => by
    have hy := hw.cons
    have hs := sm_nonneg hy.2
    simp only [sm] at h1
    simp only [List.length_cons] at ho
    have hlt := mid_lt pre post y
    have hn : pre.length ≤ 9223372036854775806 := by
      simp only [List.length_append, List.length_cons] at hl
      omega
    by_cases c : x.f0 = y.f0
    · have ih := wave_joined_l0 post (pre ++ [y]) o ⟨x.f0, x.f1 + y.f1⟩ (by simp only; omega) (by simp only; omega) hy.2 (by simpa using hl) (by omega)
      rw [← mid_snoc pre post y] at ih
      rw [jnc, if_pos c]
      refine Ev.step (fun k => ?_) ih
      simp only [wave_joined.l0]
      rw [rd_mid, if_pos hlt, if_pos (by omega), if_pos hlt, if_pos (snoc_pos o x), last_at o x (by omega), if_pos (by omega), if_pos (last_lt o x), rd_last, if_pos c, set_last, w64 (x := x.f1 + y.f1) (by omega) (by omega), succ_mid pre y hn]
    · have ih := wave_joined_l0 post (pre ++ [y]) (o ++ [x]) y (by omega) (by omega) hy.2 (by simpa using hl) (by simp only [List.length_append, List.length_cons, List.length_nil]; omega)
      rw [← mid_snoc pre post y] at ih
      rw [jnc, if_neg c, show o ++ x :: jnc y post = (o ++ [x]) ++ jnc y post by simp]
      refine Ev.step (fun k => ?_) ih
      simp only [wave_joined.l0]
      rw [rd_mid, if_pos hlt, if_pos (by omega), if_pos hlt, if_pos (snoc_pos o x), last_at o x (by omega), if_pos (by omega), if_pos (last_lt o x), rd_last, if_neg c, if_pos (by simp only [List.length_append, List.length_cons, List.length_nil]; omega), succ_mid pre y hn]
theorem wave_joined_ev {l : List S39} (hw : RunsOk l) (hs : sm l ≤ 4611686018427387904) (hl : l.length ≤ 4398046511104) : Ev (fun k => wave_joined.f k l) (jn l) := by
  refine Ev.congr (f := fun k => wave_joined.l0 k [] l (l.length : Int) 0) (fun k => rfl) ?_
  cases l with
  | nil =>
    refine Ev.step (f := fun _ => some []) (fun k => ?_) (Ev.now _)
    simp only [wave_joined.l0]
    rw [if_neg (by simp)]
  | cons x l =>
    have hx := hw.cons
    simp only [sm] at hs
    simp only [List.length_cons] at hl
    have h := wave_joined_l0 l [x] [] x (by omega) (by omega) hx.2 (by simp; omega) (by simp; omega)
    refine Ev.step (fun k => ?_) h
    simp only [wave_joined.l0]
    have e := rd_mid [] l x
    simp only [List.nil_append, List.length_nil] at e
    have e' : rd_T39 (x :: l) 0 = x := e
    rw [e', if_pos (by simp only [List.length_cons]; omega), if_pos (by omega), if_pos (by simp only [List.length_cons]; omega), if_neg (by simp), if_pos (by simp), wrap01]
    rfl
/-- The clean wave. -/
def cleanV (l : List S39) : List S39 := if vld l = true then jn l else []
theorem wave_Clean_ev {l : List S39} (hw : RunsWf l) (hl : l.length ≤ 140737488351232) : Ev (fun k => wave_Clean.f k l) (cleanV l) := by
  unfold cleanV
  refine Ev.bind (wave_Valid_ev hw hl) ?_
  by_cases v : vld l = true
  · simp only [if_pos v]
    have hv := vld_iff.1 v
    exact Ev.bind (wave_joined_ev hv.2.1 (by omega) (by omega)) (Ev.now _)
  · simp only [if_neg v]
    exact Ev.now _
theorem ref_joined_l0 : ∀ (post pre o : List S39) (x : S39), 0 ≤ x.f1 → x.f1 + sm post ≤ 4611686018427387904 → RunsOk post → (pre ++ post).length ≤ 140737488351232 → o.length + post.length ≤ 4398046511104 →
    Ev (fun k => signalbenchref08_joined.l0 k (pre ++ post) (o ++ [x]) (pre.length : Int)) (o ++ jnc x post)
  | [], pre, o, x, h0, h1, hw, hl, ho => by
    refine Ev.step (f := fun _ => some (o ++ [x])) (fun k => ?_) (Ev.now _)
    simp only [signalbenchref08_joined.l0]
    rw [if_neg (by simp)]
  | y :: post, pre, o, x, h0, h1, hw, hl, ho => by
    have hy := hw.cons
    have hs := sm_nonneg hy.2
    simp only [sm] at h1
    simp only [List.length_cons] at ho
    have hlt := mid_lt pre post y
    have hn : pre.length ≤ 9223372036854775806 := by
      simp only [List.length_append, List.length_cons] at hl
      omega
    by_cases c : x.f0 = y.f0
    · have ih := ref_joined_l0 post (pre ++ [y]) o ⟨x.f0, x.f1 + y.f1⟩ (by simp only; omega) (by simp only; omega) hy.2 (by simpa using hl) (by omega)
      rw [← mid_snoc pre post y] at ih
      rw [jnc, if_pos c]
      refine Ev.step (fun k => ?_) ih
      simp only [signalbenchref08_joined.l0]
      rw [rd_mid, if_pos hlt, if_pos (snoc_pos o x), last_at o x (by omega), if_pos (by omega), if_pos (last_lt o x), if_pos (by omega), rd_last, if_pos c, set_last, w64 (x := x.f1 + y.f1) (by omega) (by omega), succ_mid pre y hn]
    · have ih := ref_joined_l0 post (pre ++ [y]) (o ++ [x]) y (by omega) (by omega) hy.2 (by simpa using hl) (by simp only [List.length_append, List.length_cons, List.length_nil]; omega)
      rw [← mid_snoc pre post y] at ih
      rw [jnc, if_neg c, show o ++ x :: jnc y post = (o ++ [x]) ++ jnc y post by simp]
      refine Ev.step (fun k => ?_) ih
      simp only [signalbenchref08_joined.l0]
      rw [rd_mid, if_pos hlt, if_pos (snoc_pos o x), last_at o x (by omega), if_pos (by omega), if_pos (last_lt o x), if_pos (by omega), rd_last, if_neg c, if_pos (by simp only [List.length_append, List.length_cons, List.length_nil]; omega), succ_mid pre y hn]
theorem ref_joined_ev {l : List S39} (hw : RunsOk l) (hs : sm l ≤ 4611686018427387904) (hl : l.length ≤ 4398046511104) : Ev (fun k => signalbenchref08_joined.f k l) (jn l) := by
  have hf : ∀ k, signalbenchref08_joined.f k l = signalbenchref08_joined.l0 k l [] 0 := fun k => by
    unfold signalbenchref08_joined.f
    rw [if_pos (by omega), if_pos (by omega)]
    rfl
  refine Ev.congr hf ?_
  cases l with
  | nil =>
    refine Ev.step (f := fun _ => some []) (fun k => ?_) (Ev.now _)
    simp only [signalbenchref08_joined.l0]
    rw [if_neg (by simp)]
  | cons x l =>
    have hx := hw.cons
    simp only [sm] at hs
    simp only [List.length_cons] at hl
    have h := ref_joined_l0 l [x] [] x (by omega) (by omega) hx.2 (by simp; omega) (by simp; omega)
    refine Ev.step (fun k => ?_) h
    simp only [signalbenchref08_joined.l0]
    have e := rd_mid [] l x
    simp only [List.nil_append, List.length_nil] at e
    have e' : rd_T39 (x :: l) 0 = x := e
    rw [e', if_pos (by simp only [List.length_cons]; omega), if_neg (by simp), if_pos (by omega), if_pos (by simp), wrap01]
    rfl
theorem ref_Clean_ev {l : List S39} (hw : RunsWf l) (hl : l.length ≤ 140737488351232) : Ev (fun k => signalbenchref08_Clean.f k l) (cleanV l) := by
  unfold cleanV
  refine Ev.bind (ref_Valid_ev hw hl) ?_
  by_cases v : vld l = true
  · simp only [if_pos v]
    have hv := vld_iff.1 v
    exact Ev.bind (ref_joined_ev hv.2.1 (by omega) (by omega)) (Ev.now _)
  · simp only [if_neg v]
    exact Ev.now _
theorem jnc_len : ∀ (l : List S39) (x : S39), (jnc x l).length ≤ l.length + 1
  | [], x => Nat.le_refl _
  | y :: l, x => by
    unfold jnc
    split
    · have := jnc_len l ⟨x.f0, x.f1 + y.f1⟩
      simp only [List.length_cons]
      omega
    · have := jnc_len l y
      simp only [List.length_cons]
      omega
theorem jn_len (l : List S39) : (jn l).length ≤ l.length := by
  cases l with
  | nil => exact Nat.le_refl _
  | cons x l => exact jnc_len l x
theorem ref_Same_l0 : ∀ (post pre : List S39), (pre ++ post).length ≤ 140737488351232 → Ev (fun k => signalbenchref08_Same.l0 k (pre ++ post) (pre ++ post) (pre.length : Int)) true
  | [], pre, hl => by
    refine Ev.step (f := fun _ => some true) (fun k => ?_) (Ev.now _)
    simp only [signalbenchref08_Same.l0]
    rw [if_neg (by simp)]
  | x :: post, pre, hl => by
    have hlt := mid_lt pre post x
    have hn : pre.length ≤ 9223372036854775806 := by
      simp only [List.length_append, List.length_cons] at hl
      omega
    have ih := ref_Same_l0 post (pre ++ [x]) (by simpa using hl)
    rw [← mid_snoc pre post x] at ih
    refine Ev.step (fun k => ?_) ih
    simp only [signalbenchref08_Same.l0]
    rw [if_pos hlt, if_pos (by omega), if_pos hlt, if_neg (by simp), succ_mid pre x hn]
theorem ref_Same_ev (l : List S39) (hl : l.length ≤ 140737488351232) : Ev (fun k => signalbenchref08_Same.f k l l) true := by
  refine Ev.congr (fun k => ?_) (ref_Same_l0 l [] (by simpa using hl))
  unfold signalbenchref08_Same.f
  rw [if_pos rfl]
  rfl
theorem xor1 {a : Int} (h : a = 0 ∨ a = 1) : Go.bits .xor .i64 a 1 = 1 - a := by
  rcases h with rfl | rfl
  · exact xor1_0
  · exact xor1_1
def invR (x : S39) : S39 := ⟨1 - x.f0, x.f1⟩
def invV (l : List S39) : List S39 := if vld l = true then l.map invR else []
theorem ref_Invert_l0 : ∀ (post pre out : List S39), RunsOk post → (pre ++ post).length ≤ 262144 → out.length + post.length ≤ 262144 →
    Ev (fun k => signalbenchref08_Invert.l0 k (pre ++ post) out (pre.length : Int)) (out ++ post.map invR)
  | [], pre, out, hw, hl, ho => by
    refine Ev.step (f := fun _ => some out) (fun k => ?_) (by rw [List.map_nil, List.append_nil]; exact Ev.now _)
    simp only [signalbenchref08_Invert.l0]
    rw [if_neg (by simp)]
  | x :: post, pre, out, hw, hl, ho => by
    have hx := hw.cons
    simp only [List.length_cons] at ho
    have hlt := mid_lt pre post x
    have hn : pre.length ≤ 9223372036854775806 := by
      simp only [List.length_append, List.length_cons] at hl
      omega
    have ih := ref_Invert_l0 post (pre ++ [x]) (out ++ [invR x]) hx.2 (by simpa using hl) (by simp only [List.length_append, List.length_cons, List.length_nil]; omega)
    rw [← mid_snoc pre post x] at ih
    rw [List.map_cons, mid_snoc out (post.map invR) (invR x)]
    refine Ev.step (fun k => ?_) ih
    simp only [signalbenchref08_Invert.l0]
    rw [rd_mid, if_pos hlt, if_pos (by omega), if_pos (by omega), w64 (x := 1 - x.f0) (by omega) (by omega), succ_mid pre x hn]
    rfl
theorem ref_Invert_ev {l : List S39} (hw : RunsWf l) (hl : l.length ≤ 140737488351232) : Ev (fun k => signalbenchref08_Invert.f k l) (invV l) := by
  refine Ev.congr (f := fun k => (signalbenchref08_Valid.f k l).bind fun t285 => (if t285 = true then (signalbenchref08_Invert.l0 k l [] 0) else (some []))) (fun k => rfl) (Ev.bind (ref_Valid_ev hw hl) ?_)
  unfold invV
  by_cases v : vld l = true
  · simp only [if_pos v]
    have hv := vld_iff.1 v
    exact ref_Invert_l0 l [] [] hv.2.1 (by simpa using hv.1) (by simpa using hv.1)
  · simp only [if_neg v]
    exact Ev.now _
theorem set_mid (pre post : List S39) (x y : S39) : (pre ++ x :: post).set ((pre.length : Int)).toNat y = pre ++ y :: post := by
  rw [Int.toNat_natCast, List.set_append_right _ _ (Nat.le_refl _), Nat.sub_self]
  rfl
theorem wave_Invert_l0 : ∀ (post pre : List S39) (n : Int), RunsOk post → (pre ++ post).length ≤ 262144 → n = ((pre ++ post).length : Int) →
    Ev (fun k => wave_Invert.l0 k (pre ++ post) n (pre.length : Int)) (pre ++ post.map invR)
  | [], pre, n, hw, hl, hn => by
    refine Ev.step (f := fun _ => some (pre ++ [])) (fun k => ?_) (Ev.now _)
    simp only [wave_Invert.l0]
    rw [if_neg (by rw [hn]; simp)]
  | x :: post, pre, n, hw, hl, hn => by
    have hx := hw.cons
    have hlt := mid_lt pre post x
    have hb : pre.length ≤ 9223372036854775806 := by
      simp only [List.length_append, List.length_cons] at hl
      omega
    have ih := wave_Invert_l0 post (pre ++ [invR x]) n hx.2 (by simpa using hl) (by rw [hn]; simp)
    rw [← mid_snoc pre post (invR x)] at ih
    rw [List.map_cons, mid_snoc pre (post.map invR) (invR x)]
    refine Ev.step (fun k => ?_) ih
    simp only [wave_Invert.l0]
    rw [rd_mid, if_pos (by rw [hn]; exact hlt), if_pos (by omega), if_pos hlt, set_mid, xor1 hx.1.1, succ_mid pre (invR x) hb]
    rfl
theorem copy_all (n : Nat) (z : S39) (l : List S39) (h : n = l.length) : Kd.copyL (List.replicate n z) l = l := by
  unfold Kd.copyL
  rw [List.length_replicate, h, List.take_length, List.drop_of_length_le (by simp), List.append_nil]
theorem wave_Invert_ev {l : List S39} (hw : RunsWf l) (hl : l.length ≤ 140737488351232) : Ev (fun k => wave_Invert.f k l) (invV l) := by
  unfold invV
  refine Ev.bind (wave_Valid_ev hw hl) ?_
  by_cases v : vld l = true
  · simp only [if_pos v]
    have hv := vld_iff.1 v
    have e : ((l.length : Int)).toNat = l.length := Int.toNat_natCast _
    have h := wave_Invert_l0 l [] (l.length : Int) hv.2.1 (by simpa using hv.1) (by simp)
    refine Ev.congr (fun k => ?_) h
    rw [if_pos (by omega), if_pos (by omega)]
    simp only [Option.bind_some]
    rw [if_pos (by rw [List.length_replicate, e]; omega), copy_all _ _ _ e]
    rfl
  · simp only [if_neg v]
    exact Ev.now _
theorem awake_ev : Ev (fun k => signalbenchlaw08_awake.f k) true := Ev.of (k := 40) (fun k => signalbenchlaw08_awake.mono k) (by decide +kernel)
theorem awake_then : Ev (fun k => (signalbenchlaw08_awake.f k).bind fun t => some t) true := Ev.bind awake_ev (Ev.now true)
theorem RunsOk.wf {l : List S39} (h : RunsOk l) (hs : sm l ≤ 1099511627776) : RunsWf l := by
  intro x hx
  have h1 := h x hx
  have h2 : x.f1 ≤ sm l := by
    clear h1 hs
    induction l with
    | nil => simp at hx
    | cons y l ih =>
      have hy := h.cons
      have hn := sm_nonneg hy.2
      simp only [sm]
      rcases List.mem_cons.1 hx with rfl | hx
      · omega
      · have := ih hy.2 hx
        omega
  have wf : ∀ n : Int, 0 ≤ n → n ≤ 1099511627776 → (Lit.int .i64 n).wf = true := fun n h0 h1 => by
    simp [Lit.wf, IntKind.min, IntKind.max, IntKind.bits, IntKind.signed]
    omega
  exact ⟨wf _ (by omega) (by omega), wf _ (by omega) (by omega)⟩
theorem cleanV_len (l : List S39) : (cleanV l).length ≤ l.length := by
  unfold cleanV
  split
  · exact jn_len l
  · simp
theorem invV_len (l : List S39) : (invV l).length ≤ l.length := by
  unfold invV
  split <;> simp
theorem WaveCleans_pure {l : List S39} (hw : RunsWf l) (hl : l.length ≤ 140737488351232) : ∃ k, signalbenchlaw08_WaveCleans.f k l = some true := by
  refine Ev.rounds (g := fun k => signalbenchlaw08_WaveCleans.f k l) ?_
  refine Ev.bind (wave_Clean_ev hw hl) (Ev.bind (ref_Clean_ev hw hl) (Ev.bind (ref_Same_ev _ ?_) ?_))
  · have := cleanV_len l
    omega
  · simp only [if_true]
    refine Ev.bind (wave_Invert_ev hw hl) (Ev.bind (ref_Invert_ev hw hl) (Ev.bind (ref_Same_ev _ ?_) ?_))
    · have := invV_len l
      omega
    · simp only [if_true]
      exact awake_then
end Go.Proofs.Ytakjoggjggcdpaa
