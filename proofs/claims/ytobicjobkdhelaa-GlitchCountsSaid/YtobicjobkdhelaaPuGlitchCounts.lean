/- The law GlitchCounts as a plain statement on numbers and lists: with enough rounds it answers true; conditions: each number is one of its kind, no list or string is longer than its memory allows. -/
import Derived.Laws.BitsAllLaws
import Derived.WalkKit
import Derived.Test.YtobicjobkdhelaaWMore
import Derived.Laws.Strings
import Derived.Test.YtobicjobkdhelaaQx0
import Derived.Test.YtobicjobkdhelaaQx8
import Derived.Test.YtobicjobkdhelaaQx16
import Derived.Test.YtobicjobkdhelaaQx31
import Derived.Test.YtobicjobkdhelaaQx32
import Derived.Test.YtobicjobkdhelaaQx35
import Derived.Test.YtobicjobkdhelaaQx36
import Derived.Test.YtobicjobkdhelaaQx39
namespace Go.Proofs.Ytobicjobkdhelaa
open Go Go.RowKit Go.Proofs.YtobicjobkdhelaaW.PrintWords Go.Proofs.YtobicjobkdhelaaW.PrintLast Go.Proofs.Ytobicjobkdhelaa.Q
set_option linter.unusedVariables false
theorem w64 {x : Int} (h0 : -9223372036854775808 ≤ x) (h1 : x ≤ 9223372036854775807) : wrap64 x = x := by
  unfold wrap64
  omega
theorem wf64 {x : Int} (h : (Lit.int .i64 x).wf = true) : -9223372036854775808 ≤ x ∧ x ≤ 9223372036854775807 := by
  simp [Lit.wf, IntKind.min, IntKind.max, IntKind.bits, IntKind.signed] at h
  omega
theorem andNot1 {a : Int} (h : (Lit.int .i64 a).wf = true) : Go.bits .andNot .i64 a 1 = 0 ↔ a = 0 ∨ a = 1 := by
  have hw := wf64 h
  have e1 : Go.bits .andNot .i64 a 1 = IntKind.i64.wrap (((BitVec.ofInt 64 a &&& ~~~BitVec.ofInt 64 1).toNat : Nat) : Int) := rfl
  have e2 : (BitVec.ofInt 64 a &&& ~~~BitVec.ofInt 64 1).toNat = (BitVec.ofInt 64 a).toNat &&& 18446744073709551614 := by
    rw [BitVec.toNat_and]
    rfl
  have e3 : ((BitVec.ofInt 64 a).toNat : Int) = a % 18446744073709551616 := by
    rw [BitVec.toNat_ofInt]
    omega
  rw [e1, e2, nat_hi64_1, IntKind.wrap_i64]
  omega
theorem succ_mid {α : Type} (pre : List α) (x : α) (h : pre.length ≤ 9223372036854775806) : wrap64 ((pre.length : Int) + 1) = ((pre ++ [x]).length : Int) := by
  rw [w64 (by omega) (by omega)]
  simp
theorem wrap01 : wrap64 (0 + 1) = 1 := by
  unfold wrap64
  rfl
theorem mid_snoc {α : Type} (pre post : List α) (x : α) : pre ++ x :: post = (pre ++ [x]) ++ post := by simp
def sm : List S48 → Int
  | [] => 0
  | x :: l => x.f1 + sm l
def vldF (left : Int) : List S48 → Bool
  | [] => true
  | x :: l => if (x.f0 = 0 ∨ x.f0 = 1) ∧ 1 ≤ x.f1 ∧ x.f1 ≤ left then vldF (left - x.f1) l else false
def vld (l : List S48) : Bool := if l.length ≤ 262144 then vldF 1099511627776 l else false
def RunWf (x : S48) : Prop := (Lit.int .i64 x.f0).wf = true ∧ (Lit.int .i64 x.f1).wf = true
def RunsWf (l : List S48) : Prop := ∀ x ∈ l, RunWf x
def RunsOk (l : List S48) : Prop := ∀ x ∈ l, (x.f0 = 0 ∨ x.f0 = 1) ∧ 1 ≤ x.f1
theorem rd_mid (pre post : List S48) (x : S48) : rd_T48 (pre ++ x :: post) (pre.length : Int) = x := by simp [rd_T48, List.getD]
theorem mid_lt (pre post : List S48) (x : S48) : (pre.length : Int) < ((pre ++ x :: post).length : Int) := by
  simp only [List.length_append, List.length_cons]
  omega
theorem sm_nonneg : ∀ {l : List S48}, RunsOk l → 0 ≤ sm l
  | [], _ => Int.le_refl _
  | x :: l, h => by
    have h1 := h x (by simp)
    have h2 := sm_nonneg (l := l) (fun y hy => h y (by simp [hy]))
    simp only [sm]
    omega
theorem vldF_iff : ∀ {l : List S48} {left : Int}, 0 ≤ left → (vldF left l = true ↔ RunsOk l ∧ sm l ≤ left)
  | [], left, h => by simp [vldF, RunsOk, sm, h]
  | x :: l, left, h => by
    unfold vldF
    by_cases c : (x.f0 = 0 ∨ x.f0 = 1) ∧ 1 ≤ x.f1 ∧ x.f1 ≤ left
    · rw [if_pos c, vldF_iff (l := l) (by omega)]
      simp only [RunsOk, sm, List.mem_cons, forall_eq_or_imp]
      constructor
      · rintro ⟨h1, h2⟩
        exact ⟨⟨⟨c.1, c.2.1⟩, h1⟩, by omega⟩
      · rintro ⟨⟨h1, h2⟩, h3⟩
        exact ⟨h2, by omega⟩
    · rw [if_neg c]
      simp only [Bool.false_eq_true, false_iff]
      rintro ⟨h1, h2⟩
      have h3 := h1 x (by simp)
      have h4 := sm_nonneg (l := l) (fun y hy => h1 y (by simp [hy]))
      simp only [sm] at h2
      exact c ⟨h3.1, h3.2, by omega⟩
theorem vld_iff {l : List S48} : vld l = true ↔ l.length ≤ 262144 ∧ RunsOk l ∧ sm l ≤ 1099511627776 := by
  unfold vld
  by_cases c : l.length ≤ 262144
  · rw [if_pos c, vldF_iff (by omega)]
    simp [c]
  · rw [if_neg c]
    simp [c]
theorem RunsOk.cons {x : S48} {l : List S48} (h : RunsOk (x :: l)) : ((x.f0 = 0 ∨ x.f0 = 1) ∧ 1 ≤ x.f1) ∧ RunsOk l := ⟨h x (by simp), fun y hy => h y (by simp [hy])⟩
theorem RunsOk.left {a b : List S48} (h : RunsOk (a ++ b)) : RunsOk a := fun x hx => h x (List.mem_append_left _ hx)
theorem wave_Valid_l0 : ∀ (post pre : List S48) (left : Int), 0 ≤ left → left ≤ 1099511627776 → RunsWf post → (pre ++ post).length ≤ 140737488351232 →
    Ev (fun k => wave_Valid.l0 k left (pre ++ post) ((pre ++ post).length : Int) (pre.length : Int)) (vldF left post)
  | [], pre, left, h0, h1, hw, hl => by
    refine Ev.step (f := fun _ => some true) (fun k => ?_) (Ev.now _)
    simp only [wave_Valid.l0]
    rw [if_neg (by simp)]
  | x :: post, pre, left, h0, h1, hw, hl => by
    have hx := hw x (by simp)
    have hlt := mid_lt pre post x
    have hn : pre.length ≤ 9223372036854775806 := by
      simp only [List.length_append, List.length_cons] at hl
      omega
    by_cases c : (x.f0 = 0 ∨ x.f0 = 1) ∧ 1 ≤ x.f1 ∧ x.f1 ≤ left
    · have ih := wave_Valid_l0 post (pre ++ [x]) (left - x.f1) (by omega) (by omega) (fun y hy => hw y (by simp [hy])) (by simpa using hl)
      rw [← mid_snoc] at ih
      rw [vldF, if_pos c]
      refine Ev.step (fun k => ?_) ih
      simp only [wave_Valid.l0]
      rw [rd_mid, if_pos hlt, if_pos (by omega), if_pos hlt, if_pos ((andNot1 hx.1).2 c.1), if_neg (by omega), if_neg (by omega), w64 (by omega) (by omega), succ_mid _ _ hn]
    · rw [vldF, if_neg c]
      refine Ev.step (f := fun _ => some false) (fun k => ?_) (Ev.now _)
      simp only [wave_Valid.l0]
      rw [rd_mid, if_pos hlt, if_pos (by omega), if_pos hlt]
      by_cases c1 : x.f0 = 0 ∨ x.f0 = 1
      · rw [if_pos ((andNot1 hx.1).2 c1)]
        by_cases c2 : x.f1 < 1
        · rw [if_pos c2]
        · rw [if_neg c2, if_pos (by
            have : ¬ (1 ≤ x.f1 ∧ x.f1 ≤ left) := fun h => c ⟨c1, h⟩
            omega)]
      · rw [if_neg (fun h => c1 ((andNot1 hx.1).1 h))]
theorem wave_Valid_ev {l : List S48} (hw : RunsWf l) (hl : l.length ≤ 140737488351232) : Ev (fun k => wave_Valid.f k l) (vld l) := by
  unfold vld
  by_cases c : l.length ≤ 262144
  · rw [if_pos c]
    refine Ev.congr (fun k => ?_) (wave_Valid_l0 l [] 1099511627776 (by omega) (by omega) hw (by simpa using hl))
    unfold wave_Valid.f
    rw [if_neg (by omega)]
    rfl
  · rw [if_neg c]
    refine Ev.congr (fun k => ?_) (Ev.now _)
    unfold wave_Valid.f
    rw [if_pos (by omega)]
theorem ref_Valid_l0 : ∀ (post pre : List S48) (s : Int), 0 ≤ s → s ≤ 1099511627776 → RunsWf post → (pre ++ post).length ≤ 140737488351232 →
    Ev (fun k => signalbenchref08_Valid.l0 k (pre ++ post) s (pre.length : Int)) (vldF (1099511627776 - s) post)
  | [], pre, s, h0, h1, hw, hl => by
    refine Ev.step (f := fun _ => some true) (fun k => ?_) (Ev.now _)
    simp only [signalbenchref08_Valid.l0]
    rw [if_neg (by simp)]
  | x :: post, pre, s, h0, h1, hw, hl => by
    have hx := hw x (by simp)
    have hx1 := wf64 hx.2
    have hlt := mid_lt pre post x
    have hn : pre.length ≤ 9223372036854775806 := by
      simp only [List.length_append, List.length_cons] at hl
      omega
    by_cases c1 : x.f0 = 0 ∨ x.f0 = 1
    · have e0 : ∀ k, signalbenchref08_Valid.l0 (k + 1) (pre ++ x :: post) s (pre.length : Int) = signalbenchref08_Valid.j1 k (pre ++ x :: post) s (pre.length : Int) false := by
        intro k
        simp only [signalbenchref08_Valid.l0]
        rw [rd_mid, if_pos hlt, if_pos (by omega)]
        rcases c1 with c1 | c1
        · rw [if_pos c1]
        · rw [if_neg (by omega), c1]
          rfl
      refine Ev.step e0 ?_
      by_cases c : 1 ≤ x.f1 ∧ x.f1 ≤ 1099511627776 - s
      · have ih := ref_Valid_l0 post (pre ++ [x]) (s + x.f1) (by omega) (by omega) (fun y hy => hw y (by simp [hy])) (by simpa using hl)
        rw [← mid_snoc] at ih
        rw [vldF, if_pos ⟨c1, c⟩]
        have e1 : 1099511627776 - (s + x.f1) = 1099511627776 - s - x.f1 := by omega
        rw [e1] at ih
        refine Ev.step (fun k => ?_) ih
        simp only [signalbenchref08_Valid.j1]
        rw [rd_mid, if_neg (by simp), if_pos (by omega), if_pos hlt, if_neg (by omega), if_neg (by rw [w64 (by omega) (by omega)]; omega), w64 (by omega) (by omega), succ_mid _ _ hn]
      · rw [vldF, if_neg (fun h => c h.2)]
        refine Ev.step (f := fun _ => some false) (fun k => ?_) (Ev.now _)
        simp only [signalbenchref08_Valid.j1]
        rw [rd_mid, if_neg (by simp), if_pos (by omega), if_pos hlt]
        by_cases c2 : x.f1 < 1
        · rw [if_pos c2]
        · rw [if_neg c2, if_pos (by rw [w64 (by omega) (by omega)]; omega)]
    · rw [vldF, if_neg (fun h => c1 h.1)]
      refine Ev.step (f := fun k => signalbenchref08_Valid.j1 k (pre ++ x :: post) s (pre.length : Int) true) (fun k => ?_) (Ev.step (f := fun _ => some false) (fun k => ?_) (Ev.now _))
      · simp only [signalbenchref08_Valid.l0]
        rw [rd_mid, if_pos hlt, if_pos (by omega), if_neg (by omega)]
        congr 1
        simp
        omega
      · simp only [signalbenchref08_Valid.j1]
        rw [if_pos trivial]
theorem ref_Valid_ev {l : List S48} (hw : RunsWf l) (hl : l.length ≤ 140737488351232) : Ev (fun k => signalbenchref08_Valid.f k l) (vld l) := by
  unfold vld
  by_cases c : l.length ≤ 262144
  · rw [if_pos c]
    have h := ref_Valid_l0 l [] 0 (by omega) (by omega) hw (by simpa using hl)
    refine Ev.congr (fun k => ?_) h
    unfold signalbenchref08_Valid.f
    rw [if_neg (by omega)]
    rfl
  · rw [if_neg c]
    refine Ev.congr (fun k => ?_) (Ev.now _)
    unfold signalbenchref08_Valid.f
    rw [if_pos (by omega)]
def jnc (x : S48) : List S48 → List S48
  | [] => [x]
  | y :: l => if x.f0 = y.f0 then jnc ⟨x.f0, x.f1 + y.f1⟩ l else x :: jnc y l
def jn : List S48 → List S48
  | [] => []
  | x :: l => jnc x l
theorem last_at (o : List S48) (x : S48) (h : o.length ≤ 9223372036854775806) : wrap64 (((o ++ [x]).length : Int) - 1) = (o.length : Int) := by
  rw [w64 (by simp only [List.length_append, List.length_cons, List.length_nil]; omega) (by simp only [List.length_append, List.length_cons, List.length_nil]; omega)]
  simp
theorem rd_last (o : List S48) (x : S48) : rd_T48 (o ++ [x]) (o.length : Int) = x := rd_mid o [] x
theorem set_last (o : List S48) (x y : S48) : (o ++ [x]).set ((o.length : Int)).toNat y = o ++ [y] := by
  rw [Int.toNat_natCast, List.set_append_right _ _ (Nat.le_refl _), Nat.sub_self]
  rfl
theorem snoc_pos (o : List S48) (x : S48) : ((o ++ [x]).length : Int) > 0 := by
  simp only [List.length_append, List.length_cons, List.length_nil]
  omega
theorem last_lt (o : List S48) (x : S48) : (o.length : Int) < ((o ++ [x]).length : Int) := mid_lt o [] x
theorem wave_joined_l0 : ∀ (post pre o : List S48) (x : S48), 0 ≤ x.f1 → x.f1 + sm post ≤ 4611686018427387904 → RunsOk post → (pre ++ post).length ≤ 140737488351232 → o.length + post.length ≤ 4398046511104 →
    Ev (fun k => wave_joined.l0 k (o ++ [x]) (pre ++ post) ((pre ++ post).length : Int) (pre.length : Int)) (o ++ jnc x post)
  | [], pre, o, x, h0, h1, hw, hl, ho => by
    refine Ev.step (f := fun _ => some (o ++ [x])) (fun k => ?_) (Ev.now _)
    simp only [wave_joined.l0]
    rw [if_neg (by simp)]
  | y :: post, pre, o, x, h0, h1, hw, hl, ho => by
    have hy := hw.cons
    have hs := sm_nonneg hy.2
    simp only [sm] at h1
    simp only [List.length_cons] at ho
    have hlt := mid_lt pre post y
    have hn : pre.length ≤ 9223372036854775806 := by
      simp only [List.length_append, List.length_cons] at hl
      omega
    by_cases c : x.f0 = y.f0
    · have ih := wave_joined_l0 post (pre ++ [y]) o ⟨x.f0, x.f1 + y.f1⟩ (by simp only; omega) (by simp only; omega) hy.2 (by simpa using hl) (by omega)
      rw [← mid_snoc pre post y] at ih
      rw [jnc, if_pos c]
      refine Ev.step (fun k => ?_) ih
      simp only [wave_joined.l0]
      rw [rd_mid, if_pos hlt, if_pos (by omega), if_pos hlt, if_pos (snoc_pos o x), last_at o x (by omega), if_pos (by omega), if_pos (last_lt o x), rd_last, if_pos c, set_last, w64 (x := x.f1 + y.f1) (by omega) (by omega), succ_mid pre y hn]
    · have ih := wave_joined_l0 post (pre ++ [y]) (o ++ [x]) y (by omega) (by omega) hy.2 (by simpa using hl) (by simp only [List.length_append, List.length_cons, List.length_nil]; omega)
      rw [← mid_snoc pre post y] at ih
      rw [jnc, if_neg c, show o ++ x :: jnc y post = (o ++ [x]) ++ jnc y post by simp]
      refine Ev.step (fun k => ?_) ih
      simp only [wave_joined.l0]
      rw [rd_mid, if_pos hlt, if_pos (by omega), if_pos hlt, if_pos (snoc_pos o x), last_at o x (by omega), if_pos (by omega), if_pos (last_lt o x), rd_last, if_neg c, if_pos (by simp only [List.length_append, List.length_cons, List.length_nil]; omega), succ_mid pre y hn]
theorem wave_joined_ev {l : List S48} (hw : RunsOk l) (hs : sm l ≤ 4611686018427387904) (hl : l.length ≤ 4398046511104) : Ev (fun k => wave_joined.f k l) (jn l) := by
  refine Ev.congr (f := fun k => wave_joined.l0 k [] l (l.length : Int) 0) (fun k => rfl) ?_
  cases l with
  | nil =>
    refine Ev.step (f := fun _ => some []) (fun k => ?_) (Ev.now _)
    simp only [wave_joined.l0]
    rw [if_neg (by simp)]
  | cons x l =>
    have hx := hw.cons
    simp only [sm] at hs
    simp only [List.length_cons] at hl
    have h := wave_joined_l0 l [x] [] x (by omega) (by omega) hx.2 (by simp; omega) (by simp; omega)
    refine Ev.step (fun k => ?_) h
    simp only [wave_joined.l0]
    have e := rd_mid [] l x
    simp only [List.nil_append, List.length_nil] at e
    have e' : rd_T48 (x :: l) 0 = x := e
    rw [e', if_pos (by simp only [List.length_cons]; omega), if_pos (by omega), if_pos (by simp only [List.length_cons]; omega), if_neg (by simp), if_pos (by simp), wrap01]
    rfl
/-- The clean wave. -/
def cleanV (l : List S48) : List S48 := if vld l = true then jn l else []
theorem wave_Clean_ev {l : List S48} (hw : RunsWf l) (hl : l.length ≤ 140737488351232) : Ev (fun k => wave_Clean.f k l) (cleanV l) := by
  unfold cleanV
  refine Ev.bind (wave_Valid_ev hw hl) ?_
  by_cases v : vld l = true
  · simp only [if_pos v]
    have hv := vld_iff.1 v
    exact Ev.bind (wave_joined_ev hv.2.1 (by omega) (by omega)) (Ev.now _)
  · simp only [if_neg v]
    exact Ev.now _
theorem ref_joined_l0 : ∀ (post pre o : List S48) (x : S48), 0 ≤ x.f1 → x.f1 + sm post ≤ 4611686018427387904 → RunsOk post → (pre ++ post).length ≤ 140737488351232 → o.length + post.length ≤ 4398046511104 →
    Ev (fun k => signalbenchref08_joined.l0 k (pre ++ post) (o ++ [x]) (pre.length : Int)) (o ++ jnc x post)
  | [], pre, o, x, h0, h1, hw, hl, ho => by
    refine Ev.step (f := fun _ => some (o ++ [x])) (fun k => ?_) (Ev.now _)
    simp only [signalbenchref08_joined.l0]
    rw [if_neg (by simp)]
  | y :: post, pre, o, x, h0, h1, hw, hl, ho => by
    have hy := hw.cons
    have hs := sm_nonneg hy.2
    simp only [sm] at h1
    simp only [List.length_cons] at ho
    have hlt := mid_lt pre post y
    have hn : pre.length ≤ 9223372036854775806 := by
      simp only [List.length_append, List.length_cons] at hl
      omega
    by_cases c : x.f0 = y.f0
    · have ih := ref_joined_l0 post (pre ++ [y]) o ⟨x.f0, x.f1 + y.f1⟩ (by simp only; omega) (by simp only; omega) hy.2 (by simpa using hl) (by omega)
      rw [← mid_snoc pre post y] at ih
      rw [jnc, if_pos c]
      refine Ev.step (fun k => ?_) ih
      simp only [signalbenchref08_joined.l0]
      rw [rd_mid, if_pos hlt, if_pos (snoc_pos o x), last_at o x (by omega), if_pos (by omega), if_pos (last_lt o x), if_pos (by omega), rd_last, if_pos c, set_last, w64 (x := x.f1 + y.f1) (by omega) (by omega), succ_mid pre y hn]
    · have ih := ref_joined_l0 post (pre ++ [y]) (o ++ [x]) y (by omega) (by omega) hy.2 (by simpa using hl) (by simp only [List.length_append, List.length_cons, List.length_nil]; omega)
      rw [← mid_snoc pre post y] at ih
      rw [jnc, if_neg c, show o ++ x :: jnc y post = (o ++ [x]) ++ jnc y post by simp]
      refine Ev.step (fun k => ?_) ih
      simp only [signalbenchref08_joined.l0]
      rw [rd_mid, if_pos hlt, if_pos (snoc_pos o x), last_at o x (by omega), if_pos (by omega), if_pos (last_lt o x), if_pos (by omega), rd_last, if_neg c, if_pos (by simp only [List.length_append, List.length_cons, List.length_nil]; omega), succ_mid pre y hn]
theorem ref_joined_ev {l : List S48} (hw : RunsOk l) (hs : sm l ≤ 4611686018427387904) (hl : l.length ≤ 4398046511104) : Ev (fun k => signalbenchref08_joined.f k l) (jn l) := by
  have hf : ∀ k, signalbenchref08_joined.f k l = signalbenchref08_joined.l0 k l [] 0 := fun k => by
    unfold signalbenchref08_joined.f
    rw [if_pos (by omega), if_pos (by omega)]
    rfl
  refine Ev.congr hf ?_
  cases l with
  | nil =>
    refine Ev.step (f := fun _ => some []) (fun k => ?_) (Ev.now _)
    simp only [signalbenchref08_joined.l0]
    rw [if_neg (by simp)]
  | cons x l =>
    have hx := hw.cons
    simp only [sm] at hs
    simp only [List.length_cons] at hl
    have h := ref_joined_l0 l [x] [] x (by omega) (by omega) hx.2 (by simp; omega) (by simp; omega)
    refine Ev.step (fun k => ?_) h
    simp only [signalbenchref08_joined.l0]
    have e := rd_mid [] l x
    simp only [List.nil_append, List.length_nil] at e
    have e' : rd_T48 (x :: l) 0 = x := e
    rw [e', if_pos (by simp only [List.length_cons]; omega), if_neg (by simp), if_pos (by omega), if_pos (by simp), wrap01]
    rfl
theorem ref_Clean_ev {l : List S48} (hw : RunsWf l) (hl : l.length ≤ 140737488351232) : Ev (fun k => signalbenchref08_Clean.f k l) (cleanV l) := by
  unfold cleanV
  refine Ev.bind (ref_Valid_ev hw hl) ?_
  by_cases v : vld l = true
  · simp only [if_pos v]
    have hv := vld_iff.1 v
    exact Ev.bind (ref_joined_ev hv.2.1 (by omega) (by omega)) (Ev.now _)
  · simp only [if_neg v]
    exact Ev.now _
theorem jnc_len : ∀ (l : List S48) (x : S48), (jnc x l).length ≤ l.length + 1
  | [], x => Nat.le_refl _
  | y :: l, x => by
    unfold jnc
    split
    · have := jnc_len l ⟨x.f0, x.f1 + y.f1⟩
      simp only [List.length_cons]
      omega
    · have := jnc_len l y
      simp only [List.length_cons]
      omega
theorem jn_len (l : List S48) : (jn l).length ≤ l.length := by
  cases l with
  | nil => exact Nat.le_refl _
  | cons x l => exact jnc_len l x
theorem RunsOk.wf {l : List S48} (h : RunsOk l) (hs : sm l ≤ 1099511627776) : RunsWf l := by
  intro x hx
  have h1 := h x hx
  have h2 : x.f1 ≤ sm l := by
    clear h1 hs
    induction l with
    | nil => simp at hx
    | cons y l ih =>
      have hy := h.cons
      have hn := sm_nonneg hy.2
      simp only [sm]
      rcases List.mem_cons.1 hx with rfl | hx
      · omega
      · have := ih hy.2 hx
        omega
  have wf : ∀ n : Int, 0 ≤ n → n ≤ 1099511627776 → (Lit.int .i64 n).wf = true := fun n h0 h1 => by
    simp [Lit.wf, IntKind.min, IntKind.max, IntKind.bits, IntKind.signed]
    omega
  exact ⟨wf _ (by omega) (by omega), wf _ (by omega) (by omega)⟩
/-- Levels from 0 to m, and at least one tick each. -/
def RunsM (m : Int) (l : List S48) : Prop := ∀ x ∈ l, 0 ≤ x.f0 ∧ x.f0 ≤ m ∧ 1 ≤ x.f1
theorem RunsM.cons {m : Int} {x : S48} {l : List S48} (h : RunsM m (x :: l)) : (0 ≤ x.f0 ∧ x.f0 ≤ m ∧ 1 ≤ x.f1) ∧ RunsM m l := ⟨h x (by simp), fun y hy => h y (by simp [hy])⟩
theorem awake13_ev : Ev (fun k => signalbenchlaw13_awake.f k) true := Ev.of (k := 60) (fun k => signalbenchlaw13_awake.mono k) (by decide +kernel)
theorem awake13_then : Ev (fun k => (signalbenchlaw13_awake.f k).bind fun t => some t) true := Ev.bind awake13_ev (Ev.now true)
def cntM (b : Int) : List S48 → Int
  | [] => 0
  | [_] => 0
  | y :: z :: r => (if y.f1 < b then 1 else 0) + cntM b (z :: r)
def cntF (b : Int) : List S48 → Int
  | [] => 0
  | _ :: r => cntM b r
theorem Count_l0 (b : Int) : ∀ (post pre : List S48) (n : Int), 0 ≤ n → n + post.length ≤ 9223372036854775807 → (pre ++ post).length ≤ 262144 →
    Ev (fun k => glitch_Count.l0 k b (pre ++ post) n (pre.length : Int)) (n + cntM b post)
  | [], pre, n, h0, h1, hl => by
    have e : wrap64 ((pre.length : Int) + 1) = (pre.length : Int) + 1 := w64 (by omega) (by simp only [List.append_nil] at hl; omega)
    refine Ev.step (f := fun _ => some n) (fun k => ?_) (by rw [show n + cntM b [] = n from Int.add_zero n]; exact Ev.now _)
    simp only [glitch_Count.l0]
    rw [e, if_neg (by simp only [List.append_nil]; omega)]
  | [y], pre, n, h0, h1, hl => by
    simp only [List.length_append, List.length_cons, List.length_nil] at hl
    have e : wrap64 ((pre.length : Int) + 1) = (pre.length : Int) + 1 := w64 (by omega) (by omega)
    refine Ev.step (f := fun _ => some n) (fun k => ?_) (by rw [show n + cntM b [y] = n from Int.add_zero n]; exact Ev.now _)
    simp only [glitch_Count.l0]
    rw [e, if_neg (by simp only [List.length_append, List.length_cons, List.length_nil]; omega)]
  | y :: z :: r, pre, n, h0, h1, hl => by
    have hlt := mid_lt pre (z :: r) y
    have hll := hl
    simp only [List.length_append, List.length_cons] at hll h1
    have e : wrap64 ((pre.length : Int) + 1) = ((pre ++ [y]).length : Int) := succ_mid pre y (by omega)
    have hl2 : ((pre ++ [y]).length : Int) < ((pre ++ y :: z :: r).length : Int) := by
      simp only [List.length_append, List.length_cons, List.length_nil]
      omega
    by_cases c : y.f1 < b
    · have ih := Count_l0 b (z :: r) (pre ++ [y]) (n + 1) (by omega) (by simp only [List.length_cons]; omega) (by simpa using hl)
      rw [← mid_snoc] at ih
      rw [show n + cntM b (y :: z :: r) = n + 1 + cntM b (z :: r) by rw [cntM, if_pos c]; omega]
      refine Ev.step (fun k => ?_) ih
      simp only [glitch_Count.l0]
      rw [e, rd_mid, if_pos hl2, if_pos (by omega), if_pos hlt, if_pos c, w64 (x := n + 1) (by omega) (by omega)]
    · have ih := Count_l0 b (z :: r) (pre ++ [y]) n (by omega) (by simp only [List.length_cons]; omega) (by simpa using hl)
      rw [← mid_snoc] at ih
      rw [show n + cntM b (y :: z :: r) = n + cntM b (z :: r) by rw [cntM, if_neg c]; omega]
      refine Ev.step (fun k => ?_) ih
      simp only [glitch_Count.l0]
      rw [e, rd_mid, if_pos hl2, if_pos (by omega), if_pos hlt, if_neg c]
theorem refCount_l0 (b : Int) : ∀ (post pre : List S48) (n : Int), 0 ≤ n → n + post.length ≤ 9223372036854775807 → (pre ++ post).length ≤ 262144 →
    Ev (fun k => signalbenchref13_Count.l0 k b (pre ++ post) n (pre.length : Int)) (n + cntM b post)
  | [], pre, n, h0, h1, hl => by
    refine Ev.step (f := fun _ => some n) (fun k => ?_) (by rw [show n + cntM b [] = n from Int.add_zero n]; exact Ev.now _)
    simp only [signalbenchref13_Count.l0]
    simp only [List.append_nil] at hl ⊢
    rw [w64 (by omega) (by omega), if_neg (by omega)]
  | [y], pre, n, h0, h1, hl => by
    refine Ev.step (f := fun _ => some n) (fun k => ?_) (by rw [show n + cntM b [y] = n from Int.add_zero n]; exact Ev.now _)
    simp only [signalbenchref13_Count.l0]
    simp only [List.length_append, List.length_cons, List.length_nil] at hl ⊢
    rw [w64 (by omega) (by omega), if_neg (by omega)]
  | y :: z :: r, pre, n, h0, h1, hl => by
    have hlt := mid_lt pre (z :: r) y
    have hll := hl
    simp only [List.length_append, List.length_cons] at hll h1
    have e : wrap64 ((pre.length : Int) + 1) = ((pre ++ [y]).length : Int) := succ_mid pre y (by omega)
    have e2 : wrap64 (((pre ++ y :: z :: r).length : Int) - 1) = ((pre ++ y :: z :: r).length : Int) - 1 := w64 (by omega) (by omega)
    have hl2 : (pre.length : Int) < ((pre ++ y :: z :: r).length : Int) - 1 := by
      simp only [List.length_append, List.length_cons]
      omega
    by_cases c : y.f1 < b
    · have ih := refCount_l0 b (z :: r) (pre ++ [y]) (n + 1) (by omega) (by simp only [List.length_cons]; omega) (by simpa using hl)
      rw [← mid_snoc] at ih
      rw [show n + cntM b (y :: z :: r) = n + 1 + cntM b (z :: r) by rw [cntM, if_pos c]; omega]
      refine Ev.step (fun k => ?_) ih
      simp only [signalbenchref13_Count.l0]
      rw [e2, rd_mid, if_pos hl2, if_pos (by omega), if_pos hlt, if_pos c, w64 (x := n + 1) (by omega) (by omega), e]
    · have ih := refCount_l0 b (z :: r) (pre ++ [y]) n (by omega) (by simp only [List.length_cons]; omega) (by simpa using hl)
      rw [← mid_snoc] at ih
      rw [show n + cntM b (y :: z :: r) = n + cntM b (z :: r) by rw [cntM, if_neg c]; omega]
      refine Ev.step (fun k => ?_) ih
      simp only [signalbenchref13_Count.l0]
      rw [e2, rd_mid, if_pos hl2, if_pos (by omega), if_pos hlt, if_neg c, e]
theorem clV_len (l : List S48) : (cleanV l).length ≤ 262144 ∧ (cleanV l).length ≤ l.length := by
  unfold cleanV
  by_cases v : vld l = true
  · rw [if_pos v]
    have hv := vld_iff.1 v
    have := jn_len l
    omega
  · rw [if_neg v]
    simp
def countV (l : List S48) (b : Int) : Int := cntF b (cleanV l)
theorem Count_ev {l : List S48} {b : Int} (hw : RunsWf l) (hl : l.length ≤ 140737488351232) : Ev (fun k => glitch_Count.f k l b) (countV l b) := by
  refine Ev.bind (wave_Clean_ev hw hl) ?_
  unfold countV
  have hc := (clV_len l).1
  cases e : cleanV l with
  | nil =>
    refine Ev.step (f := fun _ => some 0) (fun k => ?_) (Ev.now _)
    simp only [glitch_Count.l0]
    have e2 : wrap64 (1 + 1) = 2 := by
      rw [w64 (by decide) (by decide)]
      rfl
    rw [e2, if_neg (by simp)]
  | cons x r =>
    rw [e] at hc
    simp only [List.length_cons] at hc
    have h := Count_l0 b r [x] 0 (by omega) (by omega) (by simpa using hc)
    rw [Int.zero_add] at h
    exact h
theorem refCount_ev {l : List S48} {b : Int} (hw : RunsWf l) (hl : l.length ≤ 140737488351232) : Ev (fun k => signalbenchref13_Count.f k l b) (countV l b) := by
  refine Ev.bind (ref_Valid_ev hw hl) ?_
  unfold countV
  by_cases v : vld l = true
  · refine Ev.congr (fun k => if_pos v) (Ev.bind (ref_Clean_ev hw hl) ?_)
    have hc := (clV_len l).1
    cases e : cleanV l with
    | nil =>
      refine Ev.step (f := fun _ => some 0) (fun k => ?_) (Ev.now _)
      simp only [signalbenchref13_Count.l0]
      have e2 : wrap64 ((([] : List S48).length : Int) - 1) = -1 := by
        rw [List.length_nil, w64 (by decide) (by decide)]
        rfl
      rw [e2, if_neg (by decide)]
    | cons x r =>
      rw [e] at hc
      simp only [List.length_cons] at hc
      have h := refCount_l0 b r [x] 0 (by omega) (by omega) (by simpa using hc)
      rw [Int.zero_add] at h
      exact h
  · rw [show cleanV l = [] from if_neg v]
    exact Ev.congr (fun k => if_neg v) (Ev.now _)
theorem GlitchCounts_pure {l : List S48} {b : Int} (hw : RunsWf l) : ∃ k, signalbenchlaw13_GlitchCounts.f k l b = some true := by
  refine Ev.rounds (g := fun k => signalbenchlaw13_GlitchCounts.f k l b) ?_
  by_cases c : 40 < l.length
  · exact Ev.congr (fun k => if_pos (by omega)) awake13_then
  · exact Ev.congr (fun k => if_neg (by omega)) (Ev.bind (Count_ev hw (by omega)) (Ev.bind (refCount_ev hw (by omega)) (Ev.congr (fun k => if_pos rfl) awake13_then)))
end Go.Proofs.Ytobicjobkdhelaa
