/- The law GlitchFiltered as a plain statement on numbers and lists: with enough rounds it answers true; conditions: each number is one of its kind, no list or string is longer than its memory allows. -/
import Derived.Laws.BitsAllLaws
import Derived.WalkKit
import Derived.Test.YtobicjobkdhelaaWMore
import Derived.Laws.Strings
import Derived.Test.YtobicjobkdhelaaQx0
import Derived.Test.YtobicjobkdhelaaQx4
import Derived.Test.YtobicjobkdhelaaQx7
import Derived.Test.YtobicjobkdhelaaQx8
import Derived.Test.YtobicjobkdhelaaQx16
import Derived.Test.YtobicjobkdhelaaQx31
import Derived.Test.YtobicjobkdhelaaQx32
import Derived.Test.YtobicjobkdhelaaQx33
import Derived.Test.YtobicjobkdhelaaQx35
import Derived.Test.YtobicjobkdhelaaQx36
import Derived.Test.YtobicjobkdhelaaQx37
import Derived.Test.YtobicjobkdhelaaQx39
import Derived.Test.YtobicjobkdhelaaQx40
namespace Go.Proofs.Ytobicjobkdhelaa
open Go Go.RowKit Go.Proofs.YtobicjobkdhelaaW.PrintWords Go.Proofs.YtobicjobkdhelaaW.PrintLast Go.Proofs.Ytobicjobkdhelaa.Q
set_option linter.unusedVariables false
theorem w64 {x : Int} (h0 : -9223372036854775808 ≤ x) (h1 : x ≤ 9223372036854775807) : wrap64 x = x := by
  unfold wrap64
  omega
theorem wf64 {x : Int} (h : (Lit.int .i64 x).wf = true) : -9223372036854775808 ≤ x ∧ x ≤ 9223372036854775807 := by
  simp [Lit.wf, IntKind.min, IntKind.max, IntKind.bits, IntKind.signed] at h
  omega
theorem andNot1 {a : Int} (h : (Lit.int .i64 a).wf = true) : Go.bits .andNot .i64 a 1 = 0 ↔ a = 0 ∨ a = 1 := by
  have hw := wf64 h
  have e1 : Go.bits .andNot .i64 a 1 = IntKind.i64.wrap (((BitVec.ofInt 64 a &&& ~~~BitVec.ofInt 64 1).toNat : Nat) : Int) := rfl
  have e2 : (BitVec.ofInt 64 a &&& ~~~BitVec.ofInt 64 1).toNat = (BitVec.ofInt 64 a).toNat &&& 18446744073709551614 := by
    rw [BitVec.toNat_and]
    rfl
  have e3 : ((BitVec.ofInt 64 a).toNat : Int) = a % 18446744073709551616 := by
    rw [BitVec.toNat_ofInt]
    omega
  rw [e1, e2, nat_hi64_1, IntKind.wrap_i64]
  omega
theorem succ_mid {α : Type} (pre : List α) (x : α) (h : pre.length ≤ 9223372036854775806) : wrap64 ((pre.length : Int) + 1) = ((pre ++ [x]).length : Int) := by
  rw [w64 (by omega) (by omega)]
  simp
theorem wrap01 : wrap64 (0 + 1) = 1 := by
  unfold wrap64
  rfl
theorem mid_snoc {α : Type} (pre post : List α) (x : α) : pre ++ x :: post = (pre ++ [x]) ++ post := by simp
def sm : List S48 → Int
  | [] => 0
  | x :: l => x.f1 + sm l
def vldF (left : Int) : List S48 → Bool
  | [] => true
  | x :: l => if (x.f0 = 0 ∨ x.f0 = 1) ∧ 1 ≤ x.f1 ∧ x.f1 ≤ left then vldF (left - x.f1) l else false
def vld (l : List S48) : Bool := if l.length ≤ 262144 then vldF 1099511627776 l else false
def RunWf (x : S48) : Prop := (Lit.int .i64 x.f0).wf = true ∧ (Lit.int .i64 x.f1).wf = true
def RunsWf (l : List S48) : Prop := ∀ x ∈ l, RunWf x
def RunsOk (l : List S48) : Prop := ∀ x ∈ l, (x.f0 = 0 ∨ x.f0 = 1) ∧ 1 ≤ x.f1
theorem rd_mid (pre post : List S48) (x : S48) : rd_T48 (pre ++ x :: post) (pre.length : Int) = x := by simp [rd_T48, List.getD]
theorem mid_lt (pre post : List S48) (x : S48) : (pre.length : Int) < ((pre ++ x :: post).length : Int) := by
  simp only [List.length_append, List.length_cons]
  omega
theorem sm_nonneg : ∀ {l : List S48}, RunsOk l → 0 ≤ sm l
  | [], _ => Int.le_refl _
  | x :: l, h => by
    have h1 := h x (by simp)
    have h2 := sm_nonneg (l := l) (fun y hy => h y (by simp [hy]))
    simp only [sm]
    omega
theorem vldF_iff : ∀ {l : List S48} {left : Int}, 0 ≤ left → (vldF left l = true ↔ RunsOk l ∧ sm l ≤ left)
  | [], left, h => by simp [vldF, RunsOk, sm, h]
  | x :: l, left, h => by
    unfold vldF
    by_cases c : (x.f0 = 0 ∨ x.f0 = 1) ∧ 1 ≤ x.f1 ∧ x.f1 ≤ left
    · rw [if_pos c, vldF_iff (l := l) (by omega)]
      simp only [RunsOk, sm, List.mem_cons, forall_eq_or_imp]
      constructor
      · rintro ⟨h1, h2⟩
        exact ⟨⟨⟨c.1, c.2.1⟩, h1⟩, by omega⟩
      · rintro ⟨⟨h1, h2⟩, h3⟩
        exact ⟨h2, by omega⟩
    · rw [if_neg c]
      simp only [Bool.false_eq_true, false_iff]
      rintro ⟨h1, h2⟩
      have h3 := h1 x (by simp)
      have h4 := sm_nonneg (l := l) (fun y hy => h1 y (by simp [hy]))
      simp only [sm] at h2
      exact c ⟨h3.1, h3.2, by omega⟩
theorem vld_iff {l : List S48} : vld l = true ↔ l.length ≤ 262144 ∧ RunsOk l ∧ sm l ≤ 1099511627776 := by
  unfold vld
  by_cases c : l.length ≤ 262144
  · rw [if_pos c, vldF_iff (by omega)]
    simp [c]
  · rw [if_neg c]
    simp [c]
theorem RunsOk.cons {x : S48} {l : List S48} (h : RunsOk (x :: l)) : ((x.f0 = 0 ∨ x.f0 = 1) ∧ 1 ≤ x.f1) ∧ RunsOk l := ⟨h x (by simp), fun y hy => h y (by simp [hy])⟩
theorem RunsOk.left {a b : List S48} (h : RunsOk (a ++ b)) : RunsOk a := fun x hx => h x (List.mem_append_left _ hx)
theorem wave_Valid_l0 : ∀ (post pre : List S48) (left : Int), 0 ≤ left → left ≤ 1099511627776 → RunsWf post → (pre ++ post).length ≤ 140737488351232 →
    Ev (fun k => wave_Valid.l0 k left (pre ++ post) ((pre ++ post).length : Int) (pre.length : Int)) (vldF left post)
  | [], pre, left, h0, h1, hw, hl => by
    refine Ev.step (f := fun _ => some true) (fun k => ?_) (Ev.now _)
    simp only [wave_Valid.l0]
    rw [if_neg (by simp)]
  | x :: post, pre, left, h0, h1, hw, hl => by
    have hx := hw x (by simp)
    have hlt := mid_lt pre post x
    have hn : pre.length ≤ 9223372036854775806 := by
      simp only [List.length_append, List.length_cons] at hl
      omega
    by_cases c : (x.f0 = 0 ∨ x.f0 = 1) ∧ 1 ≤ x.f1 ∧ x.f1 ≤ left
    · have ih := wave_Valid_l0 post (pre ++ [x]) (left - x.f1) (by omega) (by omega) (fun y hy => hw y (by simp [hy])) (by simpa using hl)
      rw [← mid_snoc] at ih
      rw [vldF, if_pos c]
      refine Ev.step (fun k => ?_) ih
      simp only [wave_Valid.l0]
      rw [rd_mid, if_pos hlt, if_pos (by omega), if_pos hlt, if_pos ((andNot1 hx.1).2 c.1), if_neg (by omega), if_neg (by omega), w64 (by omega) (by omega), succ_mid _ _ hn]
    · rw [vldF, if_neg c]
      refine Ev.step (f := fun _ => some false) (fun k => ?_) (Ev.now _)
      simp only [wave_Valid.l0]
      rw [rd_mid, if_pos hlt, if_pos (by omega), if_pos hlt]
      by_cases c1 : x.f0 = 0 ∨ x.f0 = 1
      · rw [if_pos ((andNot1 hx.1).2 c1)]
        by_cases c2 : x.f1 < 1
        · rw [if_pos c2]
        · rw [if_neg c2, if_pos (by
            have : ¬ (1 ≤ x.f1 ∧ x.f1 ≤ left) := fun h => c ⟨c1, h⟩
            omega)]
      · rw [if_neg (fun h => c1 ((andNot1 hx.1).1 h))]
theorem wave_Valid_ev {l : List S48} (hw : RunsWf l) (hl : l.length ≤ 140737488351232) : Ev (fun k => wave_Valid.f k l) (vld l) := by
  unfold vld
  by_cases c : l.length ≤ 262144
  · rw [if_pos c]
    refine Ev.congr (fun k => ?_) (wave_Valid_l0 l [] 1099511627776 (by omega) (by omega) hw (by simpa using hl))
    unfold wave_Valid.f
    rw [if_neg (by omega)]
    rfl
  · rw [if_neg c]
    refine Ev.congr (fun k => ?_) (Ev.now _)
    unfold wave_Valid.f
    rw [if_pos (by omega)]
theorem ref_Valid_l0 : ∀ (post pre : List S48) (s : Int), 0 ≤ s → s ≤ 1099511627776 → RunsWf post → (pre ++ post).length ≤ 140737488351232 →
    Ev (fun k => signalbenchref08_Valid.l0 k (pre ++ post) s (pre.length : Int)) (vldF (1099511627776 - s) post)
  | [], pre, s, h0, h1, hw, hl => by
    refine Ev.step (f := fun _ => some true) (fun k => ?_) (Ev.now _)
    simp only [signalbenchref08_Valid.l0]
    rw [if_neg (by simp)]
  | x :: post, pre, s, h0, h1, hw, hl => by
    have hx := hw x (by simp)
    have hx1 := wf64 hx.2
    have hlt := mid_lt pre post x
    have hn : pre.length ≤ 9223372036854775806 := by
      simp only [List.length_append, List.length_cons] at hl
      omega
    by_cases c1 : x.f0 = 0 ∨ x.f0 = 1
    · have e0 : ∀ k, signalbenchref08_Valid.l0 (k + 1) (pre ++ x :: post) s (pre.length : Int) = signalbenchref08_Valid.j1 k (pre ++ x :: post) s (pre.length : Int) false := by
        intro k
        simp only [signalbenchref08_Valid.l0]
        rw [rd_mid, if_pos hlt, if_pos (by omega)]
        rcases c1 with c1 | c1
        · rw [if_pos c1]
        · rw [if_neg (by omega), c1]
          rfl
      refine Ev.step e0 ?_
      by_cases c : 1 ≤ x.f1 ∧ x.f1 ≤ 1099511627776 - s
      · have ih := ref_Valid_l0 post (pre ++ [x]) (s + x.f1) (by omega) (by omega) (fun y hy => hw y (by simp [hy])) (by simpa using hl)
        rw [← mid_snoc] at ih
        rw [vldF, if_pos ⟨c1, c⟩]
        have e1 : 1099511627776 - (s + x.f1) = 1099511627776 - s - x.f1 := by omega
        rw [e1] at ih
        refine Ev.step (fun k => ?_) ih
        simp only [signalbenchref08_Valid.j1]
        rw [rd_mid, if_neg (by simp), if_pos (by omega), if_pos hlt, if_neg (by omega), if_neg (by rw [w64 (by omega) (by omega)]; omega), w64 (by omega) (by omega), succ_mid _ _ hn]
      · rw [vldF, if_neg (fun h => c h.2)]
        refine Ev.step (f := fun _ => some false) (fun k => ?_) (Ev.now _)
        simp only [signalbenchref08_Valid.j1]
        rw [rd_mid, if_neg (by simp), if_pos (by omega), if_pos hlt]
        by_cases c2 : x.f1 < 1
        · rw [if_pos c2]
        · rw [if_neg c2, if_pos (by rw [w64 (by omega) (by omega)]; omega)]
    · rw [vldF, if_neg (fun h => c1 h.1)]
      refine Ev.step (f := fun k => signalbenchref08_Valid.j1 k (pre ++ x :: post) s (pre.length : Int) true) (fun k => ?_) (Ev.step (f := fun _ => some false) (fun k => ?_) (Ev.now _))
      · simp only [signalbenchref08_Valid.l0]
        rw [rd_mid, if_pos hlt, if_pos (by omega), if_neg (by omega)]
        congr 1
        simp
        omega
      · simp only [signalbenchref08_Valid.j1]
        rw [if_pos trivial]
theorem ref_Valid_ev {l : List S48} (hw : RunsWf l) (hl : l.length ≤ 140737488351232) : Ev (fun k => signalbenchref08_Valid.f k l) (vld l) := by
  unfold vld
  by_cases c : l.length ≤ 262144
  · rw [if_pos c]
    have h := ref_Valid_l0 l [] 0 (by omega) (by omega) hw (by simpa using hl)
    refine Ev.congr (fun k => ?_) h
    unfold signalbenchref08_Valid.f
    rw [if_neg (by omega)]
    rfl
  · rw [if_neg c]
    refine Ev.congr (fun k => ?_) (Ev.now _)
    unfold signalbenchref08_Valid.f
    rw [if_pos (by omega)]
def jnc (x : S48) : List S48 → List S48
  | [] => [x]
  | y :: l => if x.f0 = y.f0 then jnc ⟨x.f0, x.f1 + y.f1⟩ l else x :: jnc y l
def jn : List S48 → List S48
  | [] => []
  | x :: l => jnc x l
theorem last_at (o : List S48) (x : S48) (h : o.length ≤ 9223372036854775806) : wrap64 (((o ++ [x]).length : Int) - 1) = (o.length : Int) := by
  rw [w64 (by simp only [List.length_append, List.length_cons, List.length_nil]; omega) (by simp only [List.length_append, List.length_cons, List.length_nil]; omega)]
  simp
theorem rd_last (o : List S48) (x : S48) : rd_T48 (o ++ [x]) (o.length : Int) = x := rd_mid o [] x
theorem set_last (o : List S48) (x y : S48) : (o ++ [x]).set ((o.length : Int)).toNat y = o ++ [y] := by
  rw [Int.toNat_natCast, List.set_append_right _ _ (Nat.le_refl _), Nat.sub_self]
  rfl
theorem snoc_pos (o : List S48) (x : S48) : ((o ++ [x]).length : Int) > 0 := by
  simp only [List.length_append, List.length_cons, List.length_nil]
  omega
theorem last_lt (o : List S48) (x : S48) : (o.length : Int) < ((o ++ [x]).length : Int) := mid_lt o [] x
theorem wave_joined_l0 : ∀ (post pre o : List S48) (x : S48), 0 ≤ x.f1 → x.f1 + sm post ≤ 4611686018427387904 → RunsOk post → (pre ++ post).length ≤ 140737488351232 → o.length + post.length ≤ 4398046511104 →
    Ev (fun k => wave_joined.l0 k (o ++ [x]) (pre ++ post) ((pre ++ post).length : Int) (pre.length : Int)) (o ++ jnc x post)
  | [], pre, o, x, h0, h1, hw, hl, ho => by
    refine Ev.step (f := fun _ => some (o ++ [x])) (fun k => ?_) (Ev.now _)
    simp only [wave_joined.l0]
    rw [if_neg (by simp)]
  | y :: post, pre, o, x, h0, h1, hw, hl, ho => by
    have hy := hw.cons
    have hs := sm_nonneg hy.2
    simp only [sm] at h1
    simp only [List.length_cons] at ho
    have hlt := mid_lt pre post y
    have hn : pre.length ≤ 9223372036854775806 := by
      simp only [List.length_append, List.length_cons] at hl
      omega
    by_cases c : x.f0 = y.f0
    · have ih := wave_joined_l0 post (pre ++ [y]) o ⟨x.f0, x.f1 + y.f1⟩ (by simp only; omega) (by simp only; omega) hy.2 (by simpa using hl) (by omega)
      rw [← mid_snoc pre post y] at ih
      rw [jnc, if_pos c]
      refine Ev.step (fun k => ?_) ih
      simp only [wave_joined.l0]
      rw [rd_mid, if_pos hlt, if_pos (by omega), if_pos hlt, if_pos (snoc_pos o x), last_at o x (by omega), if_pos (by omega), if_pos (last_lt o x), rd_last, if_pos c, set_last, w64 (x := x.f1 + y.f1) (by omega) (by omega), succ_mid pre y hn]
    · have ih := wave_joined_l0 post (pre ++ [y]) (o ++ [x]) y (by omega) (by omega) hy.2 (by simpa using hl) (by simp only [List.length_append, List.length_cons, List.length_nil]; omega)
      rw [← mid_snoc pre post y] at ih
      rw [jnc, if_neg c, show o ++ x :: jnc y post = (o ++ [x]) ++ jnc y post by simp]
      refine Ev.step (fun k => ?_) ih
      simp only [wave_joined.l0]
      rw [rd_mid, if_pos hlt, if_pos (by omega), if_pos hlt, if_pos (snoc_pos o x), last_at o x (by omega), if_pos (by omega), if_pos (last_lt o x), rd_last, if_neg c, if_pos (by simp only [List.length_append, List.length_cons, List.length_nil]; omega), succ_mid pre y hn]
theorem wave_joined_ev {l : List S48} (hw : RunsOk l) (hs : sm l ≤ 4611686018427387904) (hl : l.length ≤ 4398046511104) : Ev (fun k => wave_joined.f k l) (jn l) := by
  refine Ev.congr (f := fun k => wave_joined.l0 k [] l (l.length : Int) 0) (fun k => rfl) ?_
  cases l with
  | nil =>
    refine Ev.step (f := fun _ => some []) (fun k => ?_) (Ev.now _)
    simp only [wave_joined.l0]
    rw [if_neg (by simp)]
  | cons x l =>
    have hx := hw.cons
    simp only [sm] at hs
    simp only [List.length_cons] at hl
    have h := wave_joined_l0 l [x] [] x (by omega) (by omega) hx.2 (by simp; omega) (by simp; omega)
    refine Ev.step (fun k => ?_) h
    simp only [wave_joined.l0]
    have e := rd_mid [] l x
    simp only [List.nil_append, List.length_nil] at e
    have e' : rd_T48 (x :: l) 0 = x := e
    rw [e', if_pos (by simp only [List.length_cons]; omega), if_pos (by omega), if_pos (by simp only [List.length_cons]; omega), if_neg (by simp), if_pos (by simp), wrap01]
    rfl
/-- The clean wave. -/
def cleanV (l : List S48) : List S48 := if vld l = true then jn l else []
theorem wave_Clean_ev {l : List S48} (hw : RunsWf l) (hl : l.length ≤ 140737488351232) : Ev (fun k => wave_Clean.f k l) (cleanV l) := by
  unfold cleanV
  refine Ev.bind (wave_Valid_ev hw hl) ?_
  by_cases v : vld l = true
  · simp only [if_pos v]
    have hv := vld_iff.1 v
    exact Ev.bind (wave_joined_ev hv.2.1 (by omega) (by omega)) (Ev.now _)
  · simp only [if_neg v]
    exact Ev.now _
theorem ref_joined_l0 : ∀ (post pre o : List S48) (x : S48), 0 ≤ x.f1 → x.f1 + sm post ≤ 4611686018427387904 → RunsOk post → (pre ++ post).length ≤ 140737488351232 → o.length + post.length ≤ 4398046511104 →
    Ev (fun k => signalbenchref08_joined.l0 k (pre ++ post) (o ++ [x]) (pre.length : Int)) (o ++ jnc x post)
  | [], pre, o, x, h0, h1, hw, hl, ho => by
    refine Ev.step (f := fun _ => some (o ++ [x])) (fun k => ?_) (Ev.now _)
    simp only [signalbenchref08_joined.l0]
    rw [if_neg (by simp)]
  | y :: post, pre, o, x, h0, h1, hw, hl, ho => by
    have hy := hw.cons
    have hs := sm_nonneg hy.2
    simp only [sm] at h1
    simp only [List.length_cons] at ho
    have hlt := mid_lt pre post y
    have hn : pre.length ≤ 9223372036854775806 := by
      simp only [List.length_append, List.length_cons] at hl
      omega
    by_cases c : x.f0 = y.f0
    · have ih := ref_joined_l0 post (pre ++ [y]) o ⟨x.f0, x.f1 + y.f1⟩ (by simp only; omega) (by simp only; omega) hy.2 (by simpa using hl) (by omega)
      rw [← mid_snoc pre post y] at ih
      rw [jnc, if_pos c]
      refine Ev.step (fun k => ?_) ih
      simp only [signalbenchref08_joined.l0]
      rw [rd_mid, if_pos hlt, if_pos (snoc_pos o x), last_at o x (by omega), if_pos (by omega), if_pos (last_lt o x), if_pos (by omega), rd_last, if_pos c, set_last, w64 (x := x.f1 + y.f1) (by omega) (by omega), succ_mid pre y hn]
    · have ih := ref_joined_l0 post (pre ++ [y]) (o ++ [x]) y (by omega) (by omega) hy.2 (by simpa using hl) (by simp only [List.length_append, List.length_cons, List.length_nil]; omega)
      rw [← mid_snoc pre post y] at ih
      rw [jnc, if_neg c, show o ++ x :: jnc y post = (o ++ [x]) ++ jnc y post by simp]
      refine Ev.step (fun k => ?_) ih
      simp only [signalbenchref08_joined.l0]
      rw [rd_mid, if_pos hlt, if_pos (snoc_pos o x), last_at o x (by omega), if_pos (by omega), if_pos (last_lt o x), if_pos (by omega), rd_last, if_neg c, if_pos (by simp only [List.length_append, List.length_cons, List.length_nil]; omega), succ_mid pre y hn]
theorem ref_joined_ev {l : List S48} (hw : RunsOk l) (hs : sm l ≤ 4611686018427387904) (hl : l.length ≤ 4398046511104) : Ev (fun k => signalbenchref08_joined.f k l) (jn l) := by
  have hf : ∀ k, signalbenchref08_joined.f k l = signalbenchref08_joined.l0 k l [] 0 := fun k => by
    unfold signalbenchref08_joined.f
    rw [if_pos (by omega), if_pos (by omega)]
    rfl
  refine Ev.congr hf ?_
  cases l with
  | nil =>
    refine Ev.step (f := fun _ => some []) (fun k => ?_) (Ev.now _)
    simp only [signalbenchref08_joined.l0]
    rw [if_neg (by simp)]
  | cons x l =>
    have hx := hw.cons
    simp only [sm] at hs
    simp only [List.length_cons] at hl
    have h := ref_joined_l0 l [x] [] x (by omega) (by omega) hx.2 (by simp; omega) (by simp; omega)
    refine Ev.step (fun k => ?_) h
    simp only [signalbenchref08_joined.l0]
    have e := rd_mid [] l x
    simp only [List.nil_append, List.length_nil] at e
    have e' : rd_T48 (x :: l) 0 = x := e
    rw [e', if_pos (by simp only [List.length_cons]; omega), if_neg (by simp), if_pos (by omega), if_pos (by simp), wrap01]
    rfl
theorem ref_Clean_ev {l : List S48} (hw : RunsWf l) (hl : l.length ≤ 140737488351232) : Ev (fun k => signalbenchref08_Clean.f k l) (cleanV l) := by
  unfold cleanV
  refine Ev.bind (ref_Valid_ev hw hl) ?_
  by_cases v : vld l = true
  · simp only [if_pos v]
    have hv := vld_iff.1 v
    exact Ev.bind (ref_joined_ev hv.2.1 (by omega) (by omega)) (Ev.now _)
  · simp only [if_neg v]
    exact Ev.now _
theorem jnc_sm : ∀ (l : List S48) (x : S48), sm (jnc x l) = x.f1 + sm l
  | [], x => rfl
  | y :: l, x => by
    unfold jnc
    split
    · rw [jnc_sm l]
      simp only [sm]
      omega
    · simp only [sm]
      rw [jnc_sm l y]
theorem jn_sm (l : List S48) : sm (jn l) = sm l := by
  cases l with
  | nil => rfl
  | cons x l => exact jnc_sm l x
theorem jnc_len : ∀ (l : List S48) (x : S48), (jnc x l).length ≤ l.length + 1
  | [], x => Nat.le_refl _
  | y :: l, x => by
    unfold jnc
    split
    · have := jnc_len l ⟨x.f0, x.f1 + y.f1⟩
      simp only [List.length_cons]
      omega
    · have := jnc_len l y
      simp only [List.length_cons]
      omega
theorem jn_len (l : List S48) : (jn l).length ≤ l.length := by
  cases l with
  | nil => exact Nat.le_refl _
  | cons x l => exact jnc_len l x
theorem jnc_ok : ∀ (l : List S48) (x : S48), RunsOk (x :: l) → RunsOk (jnc x l)
  | [], x, h => h
  | y :: l, x, h => by
    have hx := h.cons
    have hy := hx.2.cons
    unfold jnc
    split
    · refine jnc_ok l _ (fun z hz => ?_)
      rcases List.mem_cons.1 hz with rfl | hz
      · exact ⟨hx.1.1, by simp only; omega⟩
      · exact hy.2 z hz
    · intro z hz
      rcases List.mem_cons.1 hz with rfl | hz
      · exact hx.1
      · exact jnc_ok l y hx.2 z hz
theorem jn_ok {l : List S48} (h : RunsOk l) : RunsOk (jn l) := by
  cases l with
  | nil => exact h
  | cons x l => exact jnc_ok l x h
/-- No two runs of one level side by side: behind a run of level p. -/
def apartF : Int → List S48 → Prop
  | _, [] => True
  | p, x :: l => p ≠ x.f0 ∧ apartF x.f0 l
def apart : List S48 → Prop
  | [] => True
  | x :: l => apartF x.f0 l
theorem jnc_head : ∀ (l : List S48) (x : S48), ∃ t m, jnc x l = ⟨x.f0, t⟩ :: m
  | [], x => ⟨x.f1, [], rfl⟩
  | y :: l, x => by
    unfold jnc
    split
    · exact jnc_head l ⟨x.f0, x.f1 + y.f1⟩
    · exact ⟨x.f1, _, rfl⟩
theorem jnc_apart : ∀ (l : List S48) (x : S48), apart (jnc x l)
  | [], x => trivial
  | y :: l, x => by
    unfold jnc
    split
    · exact jnc_apart l _
    · rename_i c
      obtain ⟨t, m, e⟩ := jnc_head l y
      have h := jnc_apart l y
      rw [e] at h ⊢
      exact ⟨c, h⟩
theorem jn_apart (l : List S48) : apart (jn l) := by
  cases l with
  | nil => trivial
  | cons x l => exact jnc_apart l x
theorem jnc_of_apart : ∀ (l : List S48) (x : S48), apartF x.f0 l → jnc x l = x :: l
  | [], x, _ => rfl
  | y :: l, x, h => by
    unfold jnc
    rw [if_neg h.1, jnc_of_apart l y h.2]
theorem RunsOk.wf {l : List S48} (h : RunsOk l) (hs : sm l ≤ 1099511627776) : RunsWf l := by
  intro x hx
  have h1 := h x hx
  have h2 : x.f1 ≤ sm l := by
    clear h1 hs
    induction l with
    | nil => simp at hx
    | cons y l ih =>
      have hy := h.cons
      have hn := sm_nonneg hy.2
      simp only [sm]
      rcases List.mem_cons.1 hx with rfl | hx
      · omega
      · have := ih hy.2 hx
        omega
  have wf : ∀ n : Int, 0 ≤ n → n ≤ 1099511627776 → (Lit.int .i64 n).wf = true := fun n h0 h1 => by
    simp [Lit.wf, IntKind.min, IntKind.max, IntKind.bits, IntKind.signed]
    omega
  exact ⟨wf _ (by omega) (by omega), wf _ (by omega) (by omega)⟩
/-- Levels from 0 to m, and at least one tick each. -/
def RunsM (m : Int) (l : List S48) : Prop := ∀ x ∈ l, 0 ≤ x.f0 ∧ x.f0 ≤ m ∧ 1 ≤ x.f1
theorem RunsM.cons {m : Int} {x : S48} {l : List S48} (h : RunsM m (x :: l)) : (0 ≤ x.f0 ∧ x.f0 ≤ m ∧ 1 ≤ x.f1) ∧ RunsM m l := ⟨h x (by simp), fun y hy => h y (by simp [hy])⟩
theorem awake13_ev : Ev (fun k => signalbenchlaw13_awake.f k) true := Ev.of (k := 60) (fun k => signalbenchlaw13_awake.mono k) (by decide +kernel)
theorem awake13_then : Ev (fun k => (signalbenchlaw13_awake.f k).bind fun t => some t) true := Ev.bind awake13_ev (Ev.now true)
theorem same13_l0 : ∀ (post pre : List S48), (pre ++ post).length ≤ 140737488351232 → Ev (fun k => signalbenchlaw13_same.l0 k (pre ++ post) (pre ++ post) (pre.length : Int)) true
  | [], pre, hl => by
    refine Ev.step (f := fun _ => some true) (fun k => ?_) (Ev.now _)
    simp only [signalbenchlaw13_same.l0]
    rw [if_neg (by simp)]
  | x :: post, pre, hl => by
    have hlt := mid_lt pre post x
    have hn : pre.length ≤ 9223372036854775806 := by
      simp only [List.length_append, List.length_cons] at hl
      omega
    have ih := same13_l0 post (pre ++ [x]) (by simpa using hl)
    rw [← mid_snoc] at ih
    refine Ev.step (fun k => ?_) ih
    simp only [signalbenchlaw13_same.l0]
    rw [rd_mid, if_pos hlt, if_pos (by omega), if_pos hlt, if_neg (by simp), succ_mid _ _ hn]
theorem same13_ev (l : List S48) (hl : l.length ≤ 140737488351232) : Ev (fun k => signalbenchlaw13_same.f k l l) true := by
  refine Ev.congr (fun k => ?_) (same13_l0 l [] (by simpa using hl))
  unfold signalbenchlaw13_same.f
  rw [if_pos rfl]
  rfl
theorem clV_len (l : List S48) : (cleanV l).length ≤ 262144 ∧ (cleanV l).length ≤ l.length := by
  unfold cleanV
  by_cases v : vld l = true
  · rw [if_pos v]
    have hv := vld_iff.1 v
    have := jn_len l
    omega
  · rw [if_neg v]
    simp
def flt (b : Int) : S48 → List S48 → List S48
  | p, [] => [p]
  | p, [y] => [p, y]
  | p, y :: z :: r => if y.f1 < b then flt b ⟨p.f0, p.f1 + (y.f1 + z.f1)⟩ r else p :: flt b y (z :: r)
def filt (b : Int) : List S48 → List S48
  | [] => []
  | x :: r => flt b x r
def filV (l : List S48) (b : Int) : List S48 := filt b (cleanV l)
theorem Filter_l0 (b : Int) : ∀ (post pre q : List S48) (p : S48), RunsOk post → 0 ≤ p.f1 → p.f1 + sm post ≤ 1099511627776 → (pre ++ post).length ≤ 262144 → q.length + post.length ≤ 262144 →
    Ev (fun k => glitch_Filter.l0 k b (pre ++ post) (q ++ [p]) (pre.length : Int)) (q ++ flt b p post)
  | [], pre, q, p, hw, h0, hs, hl, hq => by
    refine Ev.step (f := fun _ => some (q ++ [p])) (fun k => ?_) (Ev.now _)
    simp only [glitch_Filter.l0]
    rw [if_neg (by simp)]
  | [y], pre, q, p, hw, h0, hs, hl, hq => by
    have hlt := mid_lt pre [] y
    have hll := hl
    simp only [List.length_append, List.length_cons, List.length_nil] at hll hq
    have e : wrap64 ((pre.length : Int) + 1) = ((pre ++ [y]).length : Int) := succ_mid pre y (by omega)
    refine Ev.step (f := fun k => glitch_Filter.l1 k b (pre ++ [y]) (q ++ [p]) (pre.length : Int)) (fun k => ?_) ?_
    · simp only [glitch_Filter.l0]
      rw [if_pos hlt]
    · refine Ev.step (f := fun k => glitch_Filter.l0 k b (pre ++ [y]) ((q ++ [p]) ++ [y]) ((pre ++ [y]).length : Int)) (fun k => ?_) ?_
      · simp only [glitch_Filter.l1]
        rw [e, if_neg (by omega), if_pos (by omega), if_pos hlt, if_pos (by simp only [List.length_append, List.length_cons, List.length_nil]; omega), rd_mid]
      · rw [flt, show q ++ [p, y] = (q ++ [p]) ++ [y] by simp]
        refine Ev.step (f := fun _ => some ((q ++ [p]) ++ [y])) (fun k => ?_) (Ev.now _)
        simp only [glitch_Filter.l0]
        rw [if_neg (by omega)]
  | y :: z :: r, pre, q, p, hw, h0, hs, hl, hq => by
    have hy := hw.cons
    have hz := hy.2.cons
    have hr := sm_nonneg hz.2
    simp only [sm] at hs
    have hlt := mid_lt pre (z :: r) y
    have hll := hl
    simp only [List.length_append, List.length_cons] at hll hq
    have e : wrap64 ((pre.length : Int) + 1) = ((pre ++ [y]).length : Int) := succ_mid pre y (by omega)
    have hl2 : ((pre ++ [y]).length : Int) < ((pre ++ y :: z :: r).length : Int) := by
      simp only [List.length_append, List.length_cons, List.length_nil]
      omega
    have rz : rd_T48 (pre ++ y :: z :: r) ((pre ++ [y]).length : Int) = z := by
      have := rd_mid (pre ++ [y]) r z
      rw [← mid_snoc] at this
      exact this
    have hst : ∀ k, glitch_Filter.l0 (k + 1) b (pre ++ y :: z :: r) (q ++ [p]) (pre.length : Int) = glitch_Filter.l1 k b (pre ++ y :: z :: r) (q ++ [p]) (pre.length : Int) := by
      intro k
      simp only [glitch_Filter.l0]
      rw [if_pos hlt]
    refine Ev.step hst ?_
    by_cases c : y.f1 < b
    · have ih := Filter_l0 b r (pre ++ [y, z]) q ⟨p.f0, p.f1 + (y.f1 + z.f1)⟩ hz.2 (by show 0 ≤ p.f1 + (y.f1 + z.f1); omega) (by show p.f1 + (y.f1 + z.f1) + sm r ≤ _; omega) (by simpa using hl) (by omega)
      rw [show (pre ++ [y, z]) ++ r = pre ++ y :: z :: r by simp] at ih
      rw [flt, if_pos c]
      have e2 : wrap64 ((pre.length : Int) + 2) = ((pre ++ [y, z]).length : Int) := by
        rw [w64 (by omega) (by omega)]
        simp
      have el := last_at q p (by omega)
      have hql : (q.length : Int) < ((q ++ [p]).length : Int) := mid_lt q [] p
      refine Ev.step (fun k => ?_) ih
      simp only [glitch_Filter.l1]
      rw [e, if_pos hl2, if_pos (Int.natCast_nonneg _), if_pos hlt, rd_mid, if_pos c, el, if_pos (Int.natCast_nonneg _), if_pos hql, if_pos (Int.natCast_nonneg _), rd_last, rz, set_last, w64 (x := y.f1 + z.f1) (by omega) (by omega), w64 (x := p.f1 + (y.f1 + z.f1)) (by omega) (by omega), e2]
    · have ih := Filter_l0 b (z :: r) (pre ++ [y]) (q ++ [p]) y hy.2 (by omega) (by simp only [sm]; omega) (by simpa using hl) (by simp only [List.length_append, List.length_cons, List.length_nil]; omega)
      rw [← mid_snoc pre (z :: r) y] at ih
      rw [flt, if_neg c, mid_snoc q (flt b y (z :: r)) p]
      refine Ev.step (fun k => ?_) ih
      simp only [glitch_Filter.l1]
      rw [e, if_pos hl2, if_pos (Int.natCast_nonneg _), if_pos hlt, rd_mid, if_neg c, if_pos (by simp only [List.length_append, List.length_cons, List.length_nil]; omega)]
theorem cleanV_ok (l : List S48) : RunsOk (cleanV l) ∧ sm (cleanV l) ≤ 1099511627776 ∧ apart (cleanV l) := by
  unfold cleanV
  by_cases v : vld l = true
  · rw [if_pos v]
    have hv := vld_iff.1 v
    exact ⟨jn_ok hv.2.1, by rw [jn_sm]; exact hv.2.2, jn_apart l⟩
  · rw [if_neg v]
    exact ⟨fun x hx => by simp at hx, by simp [sm], trivial⟩
theorem Filter_ev {l : List S48} {b : Int} (hw : RunsWf l) (hl : l.length ≤ 140737488351232) : Ev (fun k => glitch_Filter.f k l b) (filV l b) := by
  refine Ev.bind (wave_Clean_ev hw hl) ?_
  unfold filV
  have hc := (clV_len l).1
  have ho := cleanV_ok l
  match e : cleanV l with
  | [] => exact Ev.congr (fun k => if_pos (by decide)) (Ev.now _)
  | [x] => exact Ev.congr (fun k => if_pos (by simp)) (Ev.now _)
  | [x, y] => exact Ev.congr (fun k => if_pos (by simp)) (Ev.now _)
  | x :: y :: z :: r =>
    rw [e] at hc ho
    have hx := ho.1.cons
    have h0 := ho.2.1
    simp only [sm] at h0
    have h := Filter_l0 b (y :: z :: r) [x] [] x hx.2 (by omega) (by simp only [sm]; omega) (by simpa using hc) (by simp only [List.length_cons] at hc ⊢; simp only [List.length_nil]; omega)
    refine Ev.congr (fun k => (if_neg (by simp only [List.length_cons]; omega)).trans ((if_pos (by simp only [List.length_cons]; omega)).trans ((if_pos (by rw [Int.toNat_natCast]; omega)).trans ?_))) h
    rw [Option.bind_some, if_pos (by simp only [List.length_cons]; omega), if_pos (by simp)]
    rfl
def shM (b : Int) : Nat → List S48 → Int
  | _, [] => -1
  | _, [_] => -1
  | i, y :: z :: r => if y.f1 < b then (i : Int) else shM b (i + 1) (z :: r)
theorem short_l0 (b : Int) : ∀ (post pre : List S48), (pre ++ post).length ≤ 262144 →
    Ev (fun k => signalbenchref13_short.l0 k (pre ++ post) b (pre.length : Int)) (shM b pre.length post)
  | [], pre, hl => by
    refine Ev.step (f := fun _ => some (-1)) (fun k => ?_) (Ev.now _)
    simp only [signalbenchref13_short.l0]
    simp only [List.append_nil] at hl ⊢
    rw [w64 (by omega) (by omega), if_neg (by omega)]
  | [y], pre, hl => by
    refine Ev.step (f := fun _ => some (-1)) (fun k => ?_) (Ev.now _)
    simp only [signalbenchref13_short.l0]
    simp only [List.length_append, List.length_cons, List.length_nil] at hl ⊢
    rw [w64 (by omega) (by omega), if_neg (by omega)]
  | y :: z :: r, pre, hl => by
    have hlt := mid_lt pre (z :: r) y
    have hll := hl
    simp only [List.length_append, List.length_cons] at hll
    have e : wrap64 ((pre.length : Int) + 1) = ((pre ++ [y]).length : Int) := succ_mid pre y (by omega)
    have e2 : wrap64 (((pre ++ y :: z :: r).length : Int) - 1) = ((pre ++ y :: z :: r).length : Int) - 1 := w64 (by omega) (by omega)
    have hl2 : (pre.length : Int) < ((pre ++ y :: z :: r).length : Int) - 1 := by
      simp only [List.length_append, List.length_cons]
      omega
    have hst : ∀ k, signalbenchref13_short.l0 (k + 1) (pre ++ y :: z :: r) b (pre.length : Int) = if y.f1 < b then some (pre.length : Int) else signalbenchref13_short.l0 k (pre ++ y :: z :: r) b ((pre ++ [y]).length : Int) := by
      intro k
      simp only [signalbenchref13_short.l0]
      rw [e2, rd_mid, if_pos hl2, if_pos (Int.natCast_nonneg _), if_pos hlt, e]
    unfold shM
    by_cases c : y.f1 < b
    · rw [if_pos c]
      exact Ev.step (fun k => (hst k).trans (if_pos c)) (Ev.now _)
    · rw [if_neg c]
      have ih := short_l0 b (z :: r) (pre ++ [y]) (by simpa using hl)
      rw [← mid_snoc, show (pre ++ [y]).length = pre.length + 1 by simp] at ih
      refine Ev.step (fun k => (hst k).trans (if_neg c)) ?_
      rw [show (pre ++ [y]).length = pre.length + 1 by simp]
      exact ih
def shV (b : Int) : List S48 → Int
  | [] => -1
  | _ :: r => shM b 1 r
theorem short_ev (b : Int) (c : List S48) (hl : c.length ≤ 262144) : Ev (fun k => signalbenchref13_short.f k c b) (shV b c) := by
  cases c with
  | nil =>
    refine Ev.step (g := fun k => signalbenchref13_short.l0 k [] b 1) (f := fun _ => some (-1)) (fun k => ?_) (Ev.now _)
    simp only [signalbenchref13_short.l0]
    have e : wrap64 ((([] : List S48).length : Int) - 1) = -1 := by
      rw [List.length_nil, w64 (by decide) (by decide)]
      rfl
    rw [e, if_neg (by decide)]
  | cons x r => exact short_l0 b r [x] (by simpa using hl)
/-- One pulse taken out. -/
def red (b : Int) : S48 → List S48 → Option (List S48)
  | _, [] => none
  | _, [_] => none
  | p, y :: z :: r => if y.f1 < b then some ((⟨p.f0, p.f1 + (y.f1 + z.f1)⟩ : S48) :: r) else (red b y (z :: r)).map (fun c => p :: c)
theorem red_none (b : Int) : ∀ (l : List S48) (p : S48) (i : Nat), red b p l = none → shM b i l = -1 ∧ flt b p l = p :: l
  | [], p, i, h => ⟨rfl, rfl⟩
  | [y], p, i, h => ⟨rfl, rfl⟩
  | y :: z :: r, p, i, h => by
    unfold red at h
    by_cases c : y.f1 < b
    · rw [if_pos c] at h
      cases h
    · rw [if_neg c] at h
      have h1 := red_none b (z :: r) y (i + 1) (by simpa using h)
      unfold shM flt
      rw [if_neg c, if_neg c]
      exact ⟨h1.1, by rw [h1.2]⟩
theorem red_head (b : Int) : ∀ (l : List S48) (p : S48) (c : List S48), RunsOk l → red b p l = some c → ∃ t m, c = (⟨p.f0, t⟩ : S48) :: m ∧ p.f1 ≤ t
  | [], p, c, hw, h => by cases h
  | [y], p, c, hw, h => by cases h
  | y :: z :: r, p, c, hw, h => by
    have hy := hw.cons
    have hz := hy.2.cons
    unfold red at h
    by_cases k : y.f1 < b
    · rw [if_pos k] at h
      obtain rfl := Option.some.inj h
      exact ⟨_, _, rfl, by omega⟩
    · rw [if_neg k] at h
      obtain ⟨m, _, rfl⟩ := Option.map_eq_some_iff.1 h
      exact ⟨p.f1, m, rfl, Int.le_refl _⟩
theorem flt_long {b : Int} {p y : S48} (r : List S48) (h : ¬ y.f1 < b) : flt b p (y :: r) = p :: flt b y r := by
  cases r with
  | nil => rfl
  | cons z r => rw [flt, if_neg h]
theorem red_some (b : Int) : ∀ (l : List S48) (p : S48) (c : List S48), RunsOk (p :: l) → apart (p :: l) → red b p l = some c →
    flt b p l = filt b c ∧ c.length + 1 = l.length ∧ RunsOk c ∧ sm c = p.f1 + sm l ∧ apart c
  | [], p, c, hw, ha, h => by cases h
  | [y], p, c, hw, ha, h => by cases h
  | y :: z :: r, p, c, hw, ha, h => by
    have hp := hw.cons
    have hy := hp.2.cons
    have hz := hy.2.cons
    have ha1 : p.f0 ≠ y.f0 := ha.1
    have ha2 : y.f0 ≠ z.f0 := ha.2.1
    have ha3 : apartF z.f0 r := ha.2.2
    unfold red at h
    by_cases k : y.f1 < b
    · rw [if_pos k] at h
      obtain rfl := Option.some.inj h
      have e : z.f0 = p.f0 := by omega
      refine ⟨?_, by simp, ?_, ?_, ?_⟩
      · rw [flt, if_pos k]
        rfl
      · intro x hx
        rcases List.mem_cons.1 hx with rfl | hx
        · exact ⟨hp.1.1, by show 1 ≤ p.f1 + (y.f1 + z.f1); omega⟩
        · exact hz.2 x hx
      · simp only [sm]
        omega
      · show apartF p.f0 r
        rw [← e]
        exact ha3
    · rw [if_neg k] at h
      obtain ⟨m, hm, rfl⟩ := Option.map_eq_some_iff.1 h
      have ih := red_some b (z :: r) y m hp.2 ha.2 hm
      obtain ⟨t, m', rfl, ht⟩ := red_head b (z :: r) y m hy.2 hm
      refine ⟨?_, ?_, ?_, ?_, ?_⟩
      · rw [flt, if_neg k, ih.1]
        show p :: flt b ⟨y.f0, t⟩ m' = flt b p (⟨y.f0, t⟩ :: m')
        rw [flt_long m' (by show ¬ t < b; omega)]
      · have := ih.2.1
        simp only [List.length_cons] at this ⊢
        omega
      · intro x hx
        rcases List.mem_cons.1 hx with rfl | hx
        · exact hp.1
        · exact ih.2.2.1 x hx
      · have := ih.2.2.2.1
        simp only [sm] at this ⊢
        omega
      · exact ⟨ha1, ih.2.2.2.2⟩
theorem jn_ne (p y : S48) (M : List S48) (h : p.f0 ≠ y.f0) : jn (p :: y :: M) = p :: jn (y :: M) := by
  show jnc p (y :: M) = _
  unfold jnc
  rw [if_neg h]
  rfl
theorem sh_red (b : Int) : ∀ (l : List S48) (p : S48) (i : Nat), RunsOk (p :: l) → apart (p :: l) → shM b i l ≠ -1 →
    ∃ (j : Nat) (u v : S48) (c : List S48), shM b i l = ((i + j : Nat) : Int) ∧ (p :: l)[j]? = some u ∧ (p :: l)[j + 1]? = some v ∧ red b p l = some c ∧ jn ((p :: l).set (j + 1) ⟨u.f0, v.f1⟩) = c
  | [], p, i, hw, ha, h => absurd rfl h
  | [y], p, i, hw, ha, h => absurd rfl h
  | y :: z :: r, p, i, hw, ha, h => by
    have hp := hw.cons
    have hy := hp.2.cons
    have hz := hy.2.cons
    have ha1 : p.f0 ≠ y.f0 := ha.1
    have ha2 : y.f0 ≠ z.f0 := ha.2.1
    have ha3 : apartF z.f0 r := ha.2.2
    by_cases k : y.f1 < b
    · have e : z.f0 = p.f0 := by omega
      refine ⟨0, p, y, (⟨p.f0, p.f1 + (y.f1 + z.f1)⟩ : S48) :: r, by rw [shM, if_pos k]; rfl, rfl, rfl, by rw [red, if_pos k], ?_⟩
      show jnc p ((⟨p.f0, y.f1⟩ : S48) :: z :: r) = _
      unfold jnc
      rw [if_pos rfl]
      unfold jnc
      rw [if_pos (by show p.f0 = z.f0; exact e.symm), jnc_of_apart r _ (by show apartF p.f0 r; rw [← e]; exact ha3), Int.add_assoc]
    · rw [shM, if_neg k] at h ⊢
      obtain ⟨j, u, v, c, h1, h2, h3, h4, h5⟩ := sh_red b (z :: r) y (i + 1) hp.2 ha.2 h
      refine ⟨j + 1, u, v, p :: c, ?_, ?_, ?_, by rw [red, if_neg k, h4]; rfl, ?_⟩
      · rw [h1]
        congr 1
        omega
      · rw [List.getElem?_cons_succ]
        exact h2
      · rw [List.getElem?_cons_succ]
        exact h3
      · rw [List.set_cons_succ]
        have e6 : (y :: z :: r).set (j + 1) ⟨u.f0, v.f1⟩ = y :: (z :: r).set j ⟨u.f0, v.f1⟩ := List.set_cons_succ ..
        rw [e6] at h5 ⊢
        rw [jn_ne p y _ ha1, h5]
theorem rd_get {l : List S48} {j : Nat} {u : S48} (h : l[j]? = some u) : rd_T48 l (j : Int) = u := by simp [rd_T48, List.getD, h]
theorem get_lt {l : List S48} {j : Nat} {u : S48} (h : l[j]? = some u) : j < l.length := by
  apply Classical.byContradiction
  intro hn
  rw [List.getElem?_eq_none (by omega)] at h
  cases h
theorem refFilter_l0 (l : List S48) (b : Int) (hl : l.length ≤ 262144) : ∀ (n : Nat) (c : List S48) (i : Nat), c.length ≤ n → i + n = l.length → RunsOk c → sm c ≤ 1099511627776 → apart c →
    Ev (fun k => signalbenchref13_Filter.l0 k l b c (i : Int)) (filt b c)
  | 0, c, i, hc, hi, hw, hs, ha => by
    have e : c = [] := List.eq_nil_of_length_eq_zero (by omega)
    subst e
    refine Ev.step (f := fun _ => some []) (fun k => ?_) (Ev.now _)
    simp only [signalbenchref13_Filter.l0]
    rw [if_neg (by omega)]
  | n + 1, c, i, hc, hi, hw, hs, ha => by
    have hsh := short_ev b c (by omega)
    have hlt : (i : Int) < (l.length : Int) := by omega
    cases c with
    | nil =>
      refine Ev.step (f := fun k => (signalbenchref13_short.f k [] b).bind fun t => if t < 0 then some [] else none) (fun k => ?_) (Ev.bind hsh (Ev.congr (fun k => if_pos (by show (-1 : Int) < 0; decide)) (Ev.now _)))
      simp only [signalbenchref13_Filter.l0]
      rw [if_pos hlt]
      refine congrArg _ (funext fun t => ?_)
      by_cases ct : t < 0
      · rw [if_pos ct, if_pos ct]
      · rw [if_neg ct, if_neg ct, Option.bind_some, if_pos (by simp), Option.bind_some]
        by_cases c2 : 0 ≤ wrap64 (t - 1)
        · rw [if_pos c2, if_neg (by simp only [List.append_nil, List.length_nil]; omega)]
        · rw [if_neg c2]
    | cons x r =>
      by_cases h1 : shM b 1 r = -1
      · have hn : red b x r = none := by
          cases hr : red b x r with
          | none => rfl
          | some c' =>
            exfalso
            have key : ∀ (r : List S48) (x : S48) (i : Nat) (c' : List S48), red b x r = some c' → shM b i r ≠ -1 := by
              intro r
              induction r with
              | nil => intro x i c' h; cases h
              | cons y r ih =>
                intro x i c' h
                cases r with
                | nil => cases h
                | cons z r =>
                  unfold red at h
                  unfold shM
                  by_cases k : y.f1 < b
                  · rw [if_pos k]
                    omega
                  · rw [if_neg k] at h ⊢
                    obtain ⟨m, hm, _⟩ := Option.map_eq_some_iff.1 h
                    exact ih y (i + 1) m hm
            exact key r x 1 c' hr h1
        have h2 := (red_none b r x 1 hn).2
        have hsh' : Ev (fun k => signalbenchref13_short.f k (x :: r) b) (-1) := by
          have : shV b (x :: r) = -1 := h1
          rw [this] at hsh
          exact hsh
        rw [show filt b (x :: r) = x :: r from h2]
        have hb := Ev.bind (f := fun k t => if t < 0 then some (x :: r) else ((some ([] : List S48)).bind fun y258 => (if y258.length + (x :: r).length < 8796093022208 then ((some (y258 ++ (x :: r) : List S48)).bind fun y261 => (if 0 ≤ (wrap64 (t - 1)) then (if (wrap64 (t - 1)) < (y261.length : Int) then (if 0 ≤ t then (if t < (y261.length : Int) then ((signalbenchref08_Clean.f k (y261.set (t : Int).toNat (⟨(rd_T48 y261 (wrap64 (t - 1))).f0, (rd_T48 y261 t).f1⟩ : S48))).bind fun t266 => (signalbenchref13_Filter.l0 k l b t266 (wrap64 ((i : Int) + 1)))) else (none)) else (none)) else (none)) else (none))) else (none)))) hsh' (Ev.congr (fun k => if_pos (by decide)) (Ev.now (x :: r)))
        refine Ev.step (fun k => ?_) hb
        simp only [signalbenchref13_Filter.l0]
        rw [if_pos hlt]
      · obtain ⟨j, u, v, c', e1, e2, e3, e4, e5⟩ := sh_red b r x 1 hw ha h1
        have hrs := red_some b r x c' hw ha e4
        have hjl := get_lt e3
        have hsh' : Ev (fun k => signalbenchref13_short.f k (x :: r) b) ((1 + j : Nat) : Int) := by
          have : shV b (x :: r) = ((1 + j : Nat) : Int) := e1
          rw [this] at hsh
          exact hsh
        have es : wrap64 (((1 + j : Nat) : Int) - 1) = (j : Int) := by
          rw [w64 (by omega) (by omega)]
          omega
        have et : (((1 + j : Nat) : Int)).toNat = j + 1 := by omega
        have q1 : ¬ ((1 + j : Nat) : Int) < 0 := by omega
        have q2 : ([] : List S48).length + (x :: r).length < 8796093022208 := by
          simp only [List.length_nil]
          omega
        have q3 : (j : Int) < ((x :: r).length : Int) := by omega
        have q4 : ((1 + j : Nat) : Int) < ((x :: r).length : Int) := by omega
        have hset : ∀ y ∈ (x :: r).set (j + 1) ⟨u.f0, v.f1⟩, (y.f0 = 0 ∨ y.f0 = 1) ∧ 1 ≤ y.f1 := by
          intro y hy
          rcases List.mem_or_eq_of_mem_set hy with hy | rfl
          · exact hw y hy
          · have hu := hw u (List.mem_of_getElem? e2)
            have hv := hw v (List.mem_of_getElem? e3)
            exact ⟨hu.1, hv.2⟩
        have hsm : sm ((x :: r).set (j + 1) ⟨u.f0, v.f1⟩) = sm (x :: r) := by
          have := hrs.2.2.2.1
          rw [← e5, jn_sm] at this
          rw [this]
          rfl
        have hlen : ((x :: r).set (j + 1) ⟨u.f0, v.f1⟩).length ≤ 262144 := by
          rw [List.length_set]
          omega
        have hv2 : vld ((x :: r).set (j + 1) ⟨u.f0, v.f1⟩) = true := vld_iff.2 ⟨hlen, hset, by rw [hsm]; exact hs⟩
        have hcl := ref_Clean_ev (RunsOk.wf hset (by rw [hsm]; exact hs)) (by omega : ((x :: r).set (j + 1) ⟨u.f0, v.f1⟩).length ≤ 140737488351232)
        have e6 : cleanV ((x :: r).set (j + 1) ⟨u.f0, v.f1⟩) = c' := by
          unfold cleanV
          rw [if_pos hv2, e5]
        rw [e6] at hcl
        have hcl' : c'.length ≤ n := by
          have := hrs.2.1
          simp only [List.length_cons] at hc
          omega
        have ih := refFilter_l0 l b hl n c' (i + 1) hcl' (by omega) hrs.2.2.1 (by
          have h7 := hrs.2.2.2.1
          simp only [sm] at hs
          omega) hrs.2.2.2.2
        rw [show filt b (x :: r) = filt b c' from hrs.1]
        have ew : wrap64 ((i : Int) + 1) = ((i + 1 : Nat) : Int) := by
          rw [w64 (by omega) (by omega)]
          norm_cast
        have r0 : rd_T48 (x :: r) (j : Int) = u := rd_get e2
        have r1 : rd_T48 (x :: r) ((1 + j : Nat) : Int) = v := by
          rw [show 1 + j = j + 1 by omega]
          exact rd_get e3
        have hb := Ev.bind (f := fun k t => if t < 0 then some (x :: r) else ((some ([] : List S48)).bind fun y258 => (if y258.length + (x :: r).length < 8796093022208 then ((some (y258 ++ (x :: r) : List S48)).bind fun y261 => (if 0 ≤ (wrap64 (t - 1)) then (if (wrap64 (t - 1)) < (y261.length : Int) then (if 0 ≤ t then (if t < (y261.length : Int) then ((signalbenchref08_Clean.f k (y261.set (t : Int).toNat (⟨(rd_T48 y261 (wrap64 (t - 1))).f0, (rd_T48 y261 t).f1⟩ : S48))).bind fun t266 => (signalbenchref13_Filter.l0 k l b t266 (wrap64 ((i : Int) + 1)))) else (none)) else (none)) else (none)) else (none))) else (none)))) hsh' (r := filt b c') (Ev.congr (f := fun k => (signalbenchref08_Clean.f k ((x :: r).set (j + 1) ⟨u.f0, v.f1⟩)).bind fun t266 => signalbenchref13_Filter.l0 k l b t266 ((i + 1 : Nat) : Int)) (fun k => by
          rw [if_neg q1, Option.bind_some, if_pos q2, Option.bind_some, List.nil_append, es, if_pos (Int.natCast_nonneg j), if_pos q3, if_pos (Int.natCast_nonneg (1 + j)), if_pos q4, et, r0, r1, ew]) (Ev.bind hcl ih))
        refine Ev.step (fun k => ?_) hb
        simp only [signalbenchref13_Filter.l0]
        rw [if_pos hlt]
theorem refFilter_ev {l : List S48} {b : Int} (hw : RunsWf l) (hl : l.length ≤ 140737488351232) : Ev (fun k => signalbenchref13_Filter.f k l b) (filV l b) := by
  refine Ev.bind (ref_Valid_ev hw hl) ?_
  unfold filV
  by_cases v : vld l = true
  · have hv := vld_iff.1 v
    have ho := cleanV_ok l
    exact Ev.congr (fun k => if_pos v) (Ev.bind (ref_Clean_ev hw hl) (refFilter_l0 l b hv.1 l.length (cleanV l) 0 (clV_len l).2 (by omega) ho.1 ho.2.1 ho.2.2))
  · rw [show cleanV l = [] from if_neg v]
    exact Ev.congr (fun k => if_neg v) (Ev.now _)
theorem flt_len (b : Int) : ∀ (l : List S48) (p : S48), (flt b p l).length ≤ l.length + 1
  | [], p => by simp [flt]
  | [y], p => by simp [flt]
  | y :: z :: r, p => by
    unfold flt
    by_cases k : y.f1 < b
    · rw [if_pos k]
      have := flt_len b r ⟨p.f0, p.f1 + (y.f1 + z.f1)⟩
      simp only [List.length_cons]
      omega
    · rw [if_neg k]
      have := flt_len b (z :: r) y
      simp only [List.length_cons] at this ⊢
      omega
theorem filV_len (l : List S48) (b : Int) : (filV l b).length ≤ l.length := by
  have := (clV_len l).2
  unfold filV
  cases e : cleanV l with
  | nil => simp [filt]
  | cons x r =>
    rw [e] at this
    have h := flt_len b r x
    simp only [List.length_cons] at this
    show (flt b x r).length ≤ _
    omega
theorem GlitchFiltered_pure {l : List S48} {b : Int} (hw : RunsWf l) : ∃ k, signalbenchlaw13_GlitchFiltered.f k l b = some true := by
  refine Ev.rounds (g := fun k => signalbenchlaw13_GlitchFiltered.f k l b) ?_
  by_cases c : 40 < l.length
  · exact Ev.congr (fun k => if_pos (by omega)) awake13_then
  · have hf := filV_len l b
    exact Ev.congr (fun k => if_neg (by omega)) (Ev.bind (Filter_ev hw (by omega)) (Ev.bind (refFilter_ev hw (by omega)) (Ev.bind (same13_ev _ (by omega)) (Ev.congr (fun k => if_pos rfl) awake13_then))))
end Go.Proofs.Ytobicjobkdhelaa
