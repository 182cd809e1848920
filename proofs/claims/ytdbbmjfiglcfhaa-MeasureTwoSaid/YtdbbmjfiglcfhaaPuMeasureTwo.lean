/- The law MeasureTwo as a plain statement on numbers and lists: with enough rounds it answers true; conditions: each number is one of its kind, no list or string is longer than its memory allows. -/
import Derived.Laws.BitsAllLaws
import Derived.WalkKit
import Derived.Test.YtdbbmjfiglcfhaaWMore
import Derived.Test.YtdbbmjfiglcfhaaQx0
import Derived.Test.YtdbbmjfiglcfhaaQx5
import Derived.Test.YtdbbmjfiglcfhaaQx7
import Derived.Test.YtdbbmjfiglcfhaaQx8
import Derived.Test.YtdbbmjfiglcfhaaQx13
import Derived.Test.YtdbbmjfiglcfhaaQx14
import Derived.Test.YtdbbmjfiglcfhaaQx19
import Derived.Test.YtdbbmjfiglcfhaaQx20
import Derived.Test.YtdbbmjfiglcfhaaQx21
import Derived.Test.YtdbbmjfiglcfhaaQx23
import Derived.Test.YtdbbmjfiglcfhaaQx27
import Derived.Test.YtdbbmjfiglcfhaaQx28
import Derived.Test.YtdbbmjfiglcfhaaQx29
import Derived.Test.YtdbbmjfiglcfhaaQx30
import Derived.Test.YtdbbmjfiglcfhaaQx33
import Derived.Test.YtdbbmjfiglcfhaaQx37
import Derived.Test.YtdbbmjfiglcfhaaQx39
import Derived.Test.YtdbbmjfiglcfhaaQx40
import Derived.Test.YtdbbmjfiglcfhaaQx41
namespace Go.Proofs.Ytdbbmjfiglcfhaa
open Go Go.RowKit Go.Proofs.YtdbbmjfiglcfhaaW.PrintWords Go.Proofs.YtdbbmjfiglcfhaaW.PrintLast Go.Proofs.Ytdbbmjfiglcfhaa.Q
set_option linter.unusedVariables false
theorem w64 {x : Int} (h0 : -9223372036854775808 ≤ x) (h1 : x ≤ 9223372036854775807) : wrap64 x = x := by
  unfold wrap64
  omega
theorem wf64 {x : Int} (h : (Lit.int .i64 x).wf = true) : -9223372036854775808 ≤ x ∧ x ≤ 9223372036854775807 := by
  simp [Lit.wf, IntKind.min, IntKind.max, IntKind.bits, IntKind.signed] at h
  omega
theorem andNot1 {a : Int} (h : (Lit.int .i64 a).wf = true) : Go.bits .andNot .i64 a 1 = 0 ↔ a = 0 ∨ a = 1 := by
  have hw := wf64 h
  have e1 : Go.bits .andNot .i64 a 1 = IntKind.i64.wrap (((BitVec.ofInt 64 a &&& ~~~BitVec.ofInt 64 1).toNat : Nat) : Int) := rfl
  have e2 : (BitVec.ofInt 64 a &&& ~~~BitVec.ofInt 64 1).toNat = (BitVec.ofInt 64 a).toNat &&& 18446744073709551614 := by
    rw [BitVec.toNat_and]
    rfl
  have e3 : ((BitVec.ofInt 64 a).toNat : Int) = a % 18446744073709551616 := by
    rw [BitVec.toNat_ofInt]
    omega
  rw [e1, e2, nat_hi64_1, IntKind.wrap_i64]
  omega
theorem succ_mid {α : Type} (pre : List α) (x : α) (h : pre.length ≤ 9223372036854775806) : wrap64 ((pre.length : Int) + 1) = ((pre ++ [x]).length : Int) := by
  rw [w64 (by omega) (by omega)]
  simp
theorem wrap01 : wrap64 (0 + 1) = 1 := by
  unfold wrap64
  rfl
theorem mid_snoc {α : Type} (pre post : List α) (x : α) : pre ++ x :: post = (pre ++ [x]) ++ post := by simp
def sm : List S50 → Int
  | [] => 0
  | x :: l => x.f1 + sm l
def vldF (left : Int) : List S50 → Bool
  | [] => true
  | x :: l => if (x.f0 = 0 ∨ x.f0 = 1) ∧ 1 ≤ x.f1 ∧ x.f1 ≤ left then vldF (left - x.f1) l else false
def vld (l : List S50) : Bool := if l.length ≤ 262144 then vldF 1099511627776 l else false
def RunWf (x : S50) : Prop := (Lit.int .i64 x.f0).wf = true ∧ (Lit.int .i64 x.f1).wf = true
def RunsWf (l : List S50) : Prop := ∀ x ∈ l, RunWf x
def RunsOk (l : List S50) : Prop := ∀ x ∈ l, (x.f0 = 0 ∨ x.f0 = 1) ∧ 1 ≤ x.f1
theorem rd_mid (pre post : List S50) (x : S50) : rd_T50 (pre ++ x :: post) (pre.length : Int) = x := by simp [rd_T50, List.getD]
theorem mid_lt (pre post : List S50) (x : S50) : (pre.length : Int) < ((pre ++ x :: post).length : Int) := by
  simp only [List.length_append, List.length_cons]
  omega
theorem sm_nonneg : ∀ {l : List S50}, RunsOk l → 0 ≤ sm l
  | [], _ => Int.le_refl _
  | x :: l, h => by
    have h1 := h x (by simp)
    have h2 := sm_nonneg (l := l) (fun y hy => h y (by simp [hy]))
    simp only [sm]
    omega
theorem vldF_iff : ∀ {l : List S50} {left : Int}, 0 ≤ left → (vldF left l = true ↔ RunsOk l ∧ sm l ≤ left)
  | [], left, h => by simp [vldF, RunsOk, sm, h]
  | x :: l, left, h => by
    unfold vldF
    by_cases c : (x.f0 = 0 ∨ x.f0 = 1) ∧ 1 ≤ x.f1 ∧ x.f1 ≤ left
    · rw [if_pos c, vldF_iff (l := l) (by omega)]
      simp only [RunsOk, sm, List.mem_cons, forall_eq_or_imp]
      constructor
      · rintro ⟨h1, h2⟩
        exact ⟨⟨⟨c.1, c.2.1⟩, h1⟩, by omega⟩
      · rintro ⟨⟨h1, h2⟩, h3⟩
        exact ⟨h2, by omega⟩
    · rw [if_neg c]
      simp only [Bool.false_eq_true, false_iff]
      rintro ⟨h1, h2⟩
      have h3 := h1 x (by simp)
      have h4 := sm_nonneg (l := l) (fun y hy => h1 y (by simp [hy]))
      simp only [sm] at h2
      exact c ⟨h3.1, h3.2, by omega⟩
theorem vld_iff {l : List S50} : vld l = true ↔ l.length ≤ 262144 ∧ RunsOk l ∧ sm l ≤ 1099511627776 := by
  unfold vld
  by_cases c : l.length ≤ 262144
  · rw [if_pos c, vldF_iff (by omega)]
    simp [c]
  · rw [if_neg c]
    simp [c]
theorem RunsOk.cons {x : S50} {l : List S50} (h : RunsOk (x :: l)) : ((x.f0 = 0 ∨ x.f0 = 1) ∧ 1 ≤ x.f1) ∧ RunsOk l := ⟨h x (by simp), fun y hy => h y (by simp [hy])⟩
theorem RunsOk.left {a b : List S50} (h : RunsOk (a ++ b)) : RunsOk a := fun x hx => h x (List.mem_append_left _ hx)
theorem wave_Valid_l0 : ∀ (post pre : List S50) (left : Int), 0 ≤ left → left ≤ 1099511627776 → RunsWf post → (pre ++ post).length ≤ 140737488351232 →
    Ev (fun k => wave_Valid.l0 k left (pre ++ post) ((pre ++ post).length : Int) (pre.length : Int)) (vldF left post)
  | [], pre, left, h0, h1, hw, hl => by
    refine Ev.step (f := fun _ => some true) (fun k => ?_) (Ev.now _)
    simp only [wave_Valid.l0]
    rw [if_neg (by simp)]
  | x :: post, pre, left, h0, h1, hw, hl => by
    have hx := hw x (by simp)
    have hlt := mid_lt pre post x
    have hn : pre.length ≤ 9223372036854775806 := by
      simp only [List.length_append, List.length_cons] at hl
      omega
    by_cases c : (x.f0 = 0 ∨ x.f0 = 1) ∧ 1 ≤ x.f1 ∧ x.f1 ≤ left
    · have ih := wave_Valid_l0 post (pre ++ [x]) (left - x.f1) (by omega) (by omega) (fun y hy => hw y (by simp [hy])) (by simpa using hl)
      rw [← mid_snoc] at ih
      rw [vldF, if_pos c]
      refine Ev.step (fun k => ?_) ih
      simp only [wave_Valid.l0]
      rw [rd_mid, if_pos hlt, if_pos (by omega), if_pos hlt, if_pos ((andNot1 hx.1).2 c.1), if_neg (by omega), if_neg (by omega), w64 (by omega) (by omega), succ_mid _ _ hn]
    · rw [vldF, if_neg c]
      refine Ev.step (f := fun _ => some false) (fun k => ?_) (Ev.now _)
      simp only [wave_Valid.l0]
      rw [rd_mid, if_pos hlt, if_pos (by omega), if_pos hlt]
      by_cases c1 : x.f0 = 0 ∨ x.f0 = 1
      · rw [if_pos ((andNot1 hx.1).2 c1)]
        by_cases c2 : x.f1 < 1
        · rw [if_pos c2]
        · rw [if_neg c2, if_pos (by
            have : ¬ (1 ≤ x.f1 ∧ x.f1 ≤ left) := fun h => c ⟨c1, h⟩
            omega)]
      · rw [if_neg (fun h => c1 ((andNot1 hx.1).1 h))]
theorem wave_Valid_ev {l : List S50} (hw : RunsWf l) (hl : l.length ≤ 140737488351232) : Ev (fun k => wave_Valid.f k l) (vld l) := by
  unfold vld
  by_cases c : l.length ≤ 262144
  · rw [if_pos c]
    refine Ev.congr (fun k => ?_) (wave_Valid_l0 l [] 1099511627776 (by omega) (by omega) hw (by simpa using hl))
    unfold wave_Valid.f
    rw [if_neg (by omega)]
    rfl
  · rw [if_neg c]
    refine Ev.congr (fun k => ?_) (Ev.now _)
    unfold wave_Valid.f
    rw [if_pos (by omega)]
theorem ref_Valid_l0 : ∀ (post pre : List S50) (s : Int), 0 ≤ s → s ≤ 1099511627776 → RunsWf post → (pre ++ post).length ≤ 140737488351232 →
    Ev (fun k => signalbenchref08_Valid.l0 k (pre ++ post) s (pre.length : Int)) (vldF (1099511627776 - s) post)
  | [], pre, s, h0, h1, hw, hl => by
    refine Ev.step (f := fun _ => some true) (fun k => ?_) (Ev.now _)
    simp only [signalbenchref08_Valid.l0]
    rw [if_neg (by simp)]
  | x :: post, pre, s, h0, h1, hw, hl => by
    have hx := hw x (by simp)
    have hx1 := wf64 hx.2
    have hlt := mid_lt pre post x
    have hn : pre.length ≤ 9223372036854775806 := by
      simp only [List.length_append, List.length_cons] at hl
      omega
    by_cases c1 : x.f0 = 0 ∨ x.f0 = 1
    · have e0 : ∀ k, signalbenchref08_Valid.l0 (k + 1) (pre ++ x :: post) s (pre.length : Int) = signalbenchref08_Valid.j1 k (pre ++ x :: post) s (pre.length : Int) false := by
        intro k
        simp only [signalbenchref08_Valid.l0]
        rw [rd_mid, if_pos hlt, if_pos (by omega)]
        rcases c1 with c1 | c1
        · rw [if_pos c1]
        · rw [if_neg (by omega), c1]
          rfl
      refine Ev.step e0 ?_
      by_cases c : 1 ≤ x.f1 ∧ x.f1 ≤ 1099511627776 - s
      · have ih := ref_Valid_l0 post (pre ++ [x]) (s + x.f1) (by omega) (by omega) (fun y hy => hw y (by simp [hy])) (by simpa using hl)
        rw [← mid_snoc] at ih
        rw [vldF, if_pos ⟨c1, c⟩]
        have e1 : 1099511627776 - (s + x.f1) = 1099511627776 - s - x.f1 := by omega
        rw [e1] at ih
        refine Ev.step (fun k => ?_) ih
        simp only [signalbenchref08_Valid.j1]
        rw [rd_mid, if_neg (by simp), if_pos (by omega), if_pos hlt, if_neg (by omega), if_neg (by rw [w64 (by omega) (by omega)]; omega), w64 (by omega) (by omega), succ_mid _ _ hn]
      · rw [vldF, if_neg (fun h => c h.2)]
        refine Ev.step (f := fun _ => some false) (fun k => ?_) (Ev.now _)
        simp only [signalbenchref08_Valid.j1]
        rw [rd_mid, if_neg (by simp), if_pos (by omega), if_pos hlt]
        by_cases c2 : x.f1 < 1
        · rw [if_pos c2]
        · rw [if_neg c2, if_pos (by rw [w64 (by omega) (by omega)]; omega)]
    · rw [vldF, if_neg (fun h => c1 h.1)]
      refine Ev.step (f := fun k => signalbenchref08_Valid.j1 k (pre ++ x :: post) s (pre.length : Int) true) (fun k => ?_) (Ev.step (f := fun _ => some false) (fun k => ?_) (Ev.now _))
      · simp only [signalbenchref08_Valid.l0]
        rw [rd_mid, if_pos hlt, if_pos (by omega), if_neg (by omega)]
        congr 1
        simp
        omega
      · simp only [signalbenchref08_Valid.j1]
        rw [if_pos trivial]
theorem ref_Valid_ev {l : List S50} (hw : RunsWf l) (hl : l.length ≤ 140737488351232) : Ev (fun k => signalbenchref08_Valid.f k l) (vld l) := by
  unfold vld
  by_cases c : l.length ≤ 262144
  · rw [if_pos c]
    have h := ref_Valid_l0 l [] 0 (by omega) (by omega) hw (by simpa using hl)
    refine Ev.congr (fun k => ?_) h
    unfold signalbenchref08_Valid.f
    rw [if_neg (by omega)]
    rfl
  · rw [if_neg c]
    refine Ev.congr (fun k => ?_) (Ev.now _)
    unfold signalbenchref08_Valid.f
    rw [if_pos (by omega)]
def jnc (x : S50) : List S50 → List S50
  | [] => [x]
  | y :: l => if x.f0 = y.f0 then jnc ⟨x.f0, x.f1 + y.f1⟩ l else x :: jnc y l
def jn : List S50 → List S50
  | [] => []
  | x :: l => jnc x l
theorem last_at (o : List S50) (x : S50) (h : o.length ≤ 9223372036854775806) : wrap64 (((o ++ [x]).length : Int) - 1) = (o.length : Int) := by
  rw [w64 (by simp only [List.length_append, List.length_cons, List.length_nil]; omega) (by simp only [List.length_append, List.length_cons, List.length_nil]; omega)]
  simp
theorem rd_last (o : List S50) (x : S50) : rd_T50 (o ++ [x]) (o.length : Int) = x := rd_mid o [] x
theorem set_last (o : List S50) (x y : S50) : (o ++ [x]).set ((o.length : Int)).toNat y = o ++ [y] := by
  rw [Int.toNat_natCast, List.set_append_right _ _ (Nat.le_refl _), Nat.sub_self]
  rfl
theorem snoc_pos (o : List S50) (x : S50) : ((o ++ [x]).length : Int) > 0 := by
  simp only [List.length_append, List.length_cons, List.length_nil]
  omega
theorem last_lt (o : List S50) (x : S50) : (o.length : Int) < ((o ++ [x]).length : Int) := mid_lt o [] x
theorem wave_joined_l0 : ∀ (post pre o : List S50) (x : S50), 0 ≤ x.f1 → x.f1 + sm post ≤ 4611686018427387904 → RunsOk post → (pre ++ post).length ≤ 140737488351232 → o.length + post.length ≤ 4398046511104 →
    Ev (fun k => wave_joined.l0 k (o ++ [x]) (pre ++ post) ((pre ++ post).length : Int) (pre.length : Int)) (o ++ jnc x post)
  | [], pre, o, x, h0, h1, hw, hl, ho => by
    refine Ev.step (f := fun _ => some (o ++ [x])) (fun k => ?_) (Ev.now _)
    simp only [wave_joined.l0]
    rw [if_neg (by simp)]
  | y :: post, pre, o, x, h0, h1, hw, hl, ho => by
    have hy := hw.cons
    have hs := sm_nonneg hy.2
    simp only [sm] at h1
    simp only [List.length_cons] at ho
    have hlt := mid_lt pre post y
    have hn : pre.length ≤ 9223372036854775806 := by
      simp only [List.length_append, List.length_cons] at hl
      omega
    by_cases c : x.f0 = y.f0
    · have ih := wave_joined_l0 post (pre ++ [y]) o ⟨x.f0, x.f1 + y.f1⟩ (by simp only; omega) (by simp only; omega) hy.2 (by simpa using hl) (by omega)
      rw [← mid_snoc pre post y] at ih
      rw [jnc, if_pos c]
      refine Ev.step (fun k => ?_) ih
      simp only [wave_joined.l0]
      rw [rd_mid, if_pos hlt, if_pos (by omega), if_pos hlt, if_pos (snoc_pos o x), last_at o x (by omega), if_pos (by omega), if_pos (last_lt o x), rd_last, if_pos c, set_last, w64 (x := x.f1 + y.f1) (by omega) (by omega), succ_mid pre y hn]
    · have ih := wave_joined_l0 post (pre ++ [y]) (o ++ [x]) y (by omega) (by omega) hy.2 (by simpa using hl) (by simp only [List.length_append, List.length_cons, List.length_nil]; omega)
      rw [← mid_snoc pre post y] at ih
      rw [jnc, if_neg c, show o ++ x :: jnc y post = (o ++ [x]) ++ jnc y post by simp]
      refine Ev.step (fun k => ?_) ih
      simp only [wave_joined.l0]
      rw [rd_mid, if_pos hlt, if_pos (by omega), if_pos hlt, if_pos (snoc_pos o x), last_at o x (by omega), if_pos (by omega), if_pos (last_lt o x), rd_last, if_neg c, if_pos (by simp only [List.length_append, List.length_cons, List.length_nil]; omega), succ_mid pre y hn]
theorem wave_joined_ev {l : List S50} (hw : RunsOk l) (hs : sm l ≤ 4611686018427387904) (hl : l.length ≤ 4398046511104) : Ev (fun k => wave_joined.f k l) (jn l) := by
  refine Ev.congr (f := fun k => wave_joined.l0 k [] l (l.length : Int) 0) (fun k => rfl) ?_
  cases l with
  | nil =>
    refine Ev.step (f := fun _ => some []) (fun k => ?_) (Ev.now _)
    simp only [wave_joined.l0]
    rw [if_neg (by simp)]
  | cons x l =>
    have hx := hw.cons
    simp only [sm] at hs
    simp only [List.length_cons] at hl
    have h := wave_joined_l0 l [x] [] x (by omega) (by omega) hx.2 (by simp; omega) (by simp; omega)
    refine Ev.step (fun k => ?_) h
    simp only [wave_joined.l0]
    have e := rd_mid [] l x
    simp only [List.nil_append, List.length_nil] at e
    have e' : rd_T50 (x :: l) 0 = x := e
    rw [e', if_pos (by simp only [List.length_cons]; omega), if_pos (by omega), if_pos (by simp only [List.length_cons]; omega), if_neg (by simp), if_pos (by simp), wrap01]
    rfl
/-- The clean wave. -/
def cleanV (l : List S50) : List S50 := if vld l = true then jn l else []
theorem wave_Clean_ev {l : List S50} (hw : RunsWf l) (hl : l.length ≤ 140737488351232) : Ev (fun k => wave_Clean.f k l) (cleanV l) := by
  unfold cleanV
  refine Ev.bind (wave_Valid_ev hw hl) ?_
  by_cases v : vld l = true
  · simp only [if_pos v]
    have hv := vld_iff.1 v
    exact Ev.bind (wave_joined_ev hv.2.1 (by omega) (by omega)) (Ev.now _)
  · simp only [if_neg v]
    exact Ev.now _
theorem jnc_sm : ∀ (l : List S50) (x : S50), sm (jnc x l) = x.f1 + sm l
  | [], x => rfl
  | y :: l, x => by
    unfold jnc
    split
    · rw [jnc_sm l]
      simp only [sm]
      omega
    · simp only [sm]
      rw [jnc_sm l y]
theorem jn_sm (l : List S50) : sm (jn l) = sm l := by
  cases l with
  | nil => rfl
  | cons x l => exact jnc_sm l x
theorem jnc_len : ∀ (l : List S50) (x : S50), (jnc x l).length ≤ l.length + 1
  | [], x => Nat.le_refl _
  | y :: l, x => by
    unfold jnc
    split
    · have := jnc_len l ⟨x.f0, x.f1 + y.f1⟩
      simp only [List.length_cons]
      omega
    · have := jnc_len l y
      simp only [List.length_cons]
      omega
theorem jn_len (l : List S50) : (jn l).length ≤ l.length := by
  cases l with
  | nil => exact Nat.le_refl _
  | cons x l => exact jnc_len l x
theorem jnc_ok : ∀ (l : List S50) (x : S50), RunsOk (x :: l) → RunsOk (jnc x l)
  | [], x, h => h
  | y :: l, x, h => by
    have hx := h.cons
    have hy := hx.2.cons
    unfold jnc
    split
    · refine jnc_ok l _ (fun z hz => ?_)
      rcases List.mem_cons.1 hz with rfl | hz
      · exact ⟨hx.1.1, by simp only; omega⟩
      · exact hy.2 z hz
    · intro z hz
      rcases List.mem_cons.1 hz with rfl | hz
      · exact hx.1
      · exact jnc_ok l y hx.2 z hz
theorem jn_ok {l : List S50} (h : RunsOk l) : RunsOk (jn l) := by
  cases l with
  | nil => exact h
  | cons x l => exact jnc_ok l x h
theorem jn_vld {l : List S50} (h : vld l = true) : vld (jn l) = true := by
  have hv := vld_iff.1 h
  have h1 := jn_len l
  exact vld_iff.2 ⟨by omega, jn_ok hv.2.1, by rw [jn_sm]; exact hv.2.2⟩
theorem jnc_head : ∀ (l : List S50) (x : S50), ∃ t m, jnc x l = ⟨x.f0, t⟩ :: m
  | [], x => ⟨x.f1, [], rfl⟩
  | y :: l, x => by
    unfold jnc
    split
    · exact jnc_head l ⟨x.f0, x.f1 + y.f1⟩
    · exact ⟨x.f1, _, rfl⟩
/-- Behind a run of level p, at the tick at. -/
def edF (p at_ : Int) : List S50 → List Int
  | [] => []
  | x :: l => if p = x.f0 then edF x.f0 (at_ + x.f1) l else at_ :: edF x.f0 (at_ + x.f1) l
def eds : List S50 → List Int
  | [] => []
  | x :: l => edF x.f0 x.f1 l
def edsV (l : List S50) : List Int := if vld l = true then eds l else []
theorem rd_prev (q post : List S50) (w : S50) : rd_T50 ((q ++ [w]) ++ post) (q.length : Int) = w := by
  rw [← mid_snoc]
  exact rd_mid q post w
theorem prev_lt (q post : List S50) (w : S50) : (q.length : Int) < (((q ++ [w]) ++ post).length : Int) := by
  rw [← mid_snoc]
  exact mid_lt q post w
theorem wave_Edges_l0 : ∀ (post q : List S50) (w : S50) (out : List Int) (at_ : Int), 0 ≤ at_ → at_ + sm post ≤ 4611686018427387904 → RunsOk post → ((q ++ [w]) ++ post).length ≤ 140737488351232 → out.length + post.length ≤ 4398046511104 →
    Ev (fun k => wave_Edges.l0 k ((q ++ [w]) ++ post) out at_ ((q ++ [w]) ++ post) (((q ++ [w]) ++ post).length : Int) ((q ++ [w]).length : Int)) (out ++ edF w.f0 at_ post)
  | [], q, w, out, at_, h0, h1, hw, hl, ho => by
    refine Ev.step (f := fun _ => some out) (fun k => ?_) (by rw [edF, List.append_nil]; exact Ev.now _)
    simp only [wave_Edges.l0]
    rw [if_neg (by simp)]
  | x :: post, q, w, out, at_, h0, h1, hw, hl, ho => by
    have hx := hw.cons
    have hs := sm_nonneg hx.2
    simp only [sm] at h1
    simp only [List.length_cons] at ho
    have hlt := mid_lt (q ++ [w]) post x
    have hn : (q ++ [w]).length ≤ 9223372036854775806 := by
      simp only [List.length_append, List.length_cons] at hl ⊢
      omega
    have hq : q.length ≤ 9223372036854775806 := by
      simp only [List.length_append, List.length_cons] at hn
      omega
    have hr := rd_prev q (x :: post) w
    have hp := prev_lt q (x :: post) w
    by_cases c : w.f0 = x.f0
    · have ih := wave_Edges_l0 post (q ++ [w]) x out (at_ + x.f1) (by omega) (by omega) hx.2 (by simpa using hl) (by omega)
      rw [← mid_snoc (q ++ [w]) post x] at ih
      rw [edF, if_pos c]
      refine Ev.step (fun k => ?_) ih
      simp only [wave_Edges.l0]
      rw [rd_mid, if_pos hlt, if_pos (by omega), if_pos hlt, if_pos (snoc_pos q w), last_at q w hq, if_pos (by omega), if_pos hp, hr, if_pos c, w64 (x := at_ + x.f1) (by omega) (by omega), succ_mid (q ++ [w]) x hn]
    · have ih := wave_Edges_l0 post (q ++ [w]) x (out ++ [at_]) (at_ + x.f1) (by omega) (by omega) hx.2 (by simpa using hl) (by simp only [List.length_append, List.length_cons, List.length_nil]; omega)
      rw [← mid_snoc (q ++ [w]) post x] at ih
      rw [edF, if_neg c, mid_snoc out (edF x.f0 (at_ + x.f1) post) at_]
      refine Ev.step (fun k => ?_) ih
      simp only [wave_Edges.l0]
      rw [rd_mid, if_pos hlt, if_pos (by omega), if_pos hlt, if_pos (snoc_pos q w), last_at q w hq, if_pos (by omega), if_pos hp, hr, if_neg c, if_pos (by omega), w64 (x := at_ + x.f1) (by omega) (by omega), succ_mid (q ++ [w]) x hn]
theorem rd_zero (x : S50) (l : List S50) : rd_T50 (x :: l) 0 = x := by
  have e := rd_mid [] l x
  simp only [List.nil_append, List.length_nil] at e
  exact e
theorem wave_Edges_ev {l : List S50} (hw : RunsWf l) (hl : l.length ≤ 140737488351232) : Ev (fun k => wave_Edges.f k l) (edsV l) := by
  unfold edsV
  refine Ev.bind (wave_Valid_ev hw hl) ?_
  by_cases v : vld l = true
  · simp only [if_pos v]
    have hv := vld_iff.1 v
    cases l with
    | nil =>
      refine Ev.step (f := fun _ => some []) (fun k => ?_) (Ev.now _)
      simp only [wave_Edges.l0]
      rw [if_neg (by simp)]
    | cons x l =>
      have hx := hv.2.1.cons
      have hs := hv.2.2
      have hc := hv.1
      have hs0 := sm_nonneg hx.2
      simp only [sm] at hs
      simp only [List.length_cons] at hc
      have h := wave_Edges_l0 l [] x [] x.f1 (by omega) (by omega) hx.2 (by simpa using hl) (by simp only [List.length_nil]; omega)
      refine Ev.step (fun k => ?_) h
      simp only [wave_Edges.l0]
      rw [rd_zero, if_pos (by simp only [List.length_cons]; omega), if_pos (by omega), if_pos (by simp only [List.length_cons]; omega), if_neg (by omega), w64 (x := 0 + x.f1) (by omega) (by omega), Int.zero_add, wrap01]
      rfl
  · simp only [if_neg v]
    exact Ev.now _
theorem rdi_mid (pre post : List Int) (x : Int) : rd (pre ++ x :: post) (pre.length : Int) = x := by simp [rd, List.getD]
theorem midi_lt (pre post : List Int) (x : Int) : (pre.length : Int) < ((pre ++ x :: post).length : Int) := by
  simp only [List.length_append, List.length_cons]
  omega
def chF (p at_ : Int) : List S50 → List (Int × Int)
  | [] => []
  | x :: l => if p = x.f0 then chF x.f0 (at_ + x.f1) l else (at_, x.f0) :: chF x.f0 (at_ + x.f1) l
def chs : List S50 → List (Int × Int)
  | [] => []
  | x :: l => chF x.f0 x.f1 l
def chsV (l : List S50) : List (Int × Int) := if vld l = true then chs l else []
def chL (at_ : Int) : List S50 → List (Int × Int)
  | [] => []
  | x :: l => (at_, x.f0) :: chL (at_ + x.f1) l
def chT : List S50 → List (Int × Int)
  | [] => []
  | x :: l => chL x.f1 l
def toP (p : Int × Int) : S68 := ⟨p.1, p.2 == 1⟩
def toR (p : Int × Int) : S57 := ⟨p.1, p.2⟩
theorem chL_jnc : ∀ (l : List S50) (x : S50) (at_ : Int), (match jnc x l with | [] => [] | y :: m => chL (at_ + y.f1) m) = chF x.f0 (at_ + x.f1) l
  | [], x, at_ => rfl
  | y :: l, x, at_ => by
    unfold jnc chF
    by_cases c : x.f0 = y.f0
    · rw [if_pos c, if_pos c, chL_jnc l ⟨x.f0, x.f1 + y.f1⟩ at_]
      simp only
      rw [Int.add_assoc, c]
    · rw [if_neg c, if_neg c]
      have h := chL_jnc l y (at_ + x.f1)
      obtain ⟨t, m, e⟩ := jnc_head l y
      rw [e] at h ⊢
      simp only at h ⊢
      rw [chL, h]
theorem chT_jn (l : List S50) : chT (jn l) = chs l := by
  cases l with
  | nil => rfl
  | cons x l =>
    have h := chL_jnc l x 0
    simp only [Int.zero_add] at h
    exact h
theorem chT_clean (l : List S50) : chT (cleanV l) = chsV l := by
  unfold cleanV chsV
  split
  · exact chT_jn l
  · rfl
theorem chF_bound : ∀ {l : List S50} {p at_ : Int}, RunsOk l → ∀ c ∈ chF p at_ l, at_ ≤ c.1 ∧ c.1 ≤ at_ + sm l ∧ (c.2 = 0 ∨ c.2 = 1)
  | [], p, at_, h, c, hc => by simp [chF] at hc
  | x :: l, p, at_, h, c, hc => by
    have hx := h.cons
    have hs := sm_nonneg hx.2
    simp only [sm]
    unfold chF at hc
    split at hc
    · have := chF_bound hx.2 c hc
      omega
    · rcases List.mem_cons.1 hc with rfl | hc
      · exact ⟨Int.le_refl _, by simp only; omega, hx.1.1⟩
      · have := chF_bound hx.2 c hc
        omega
theorem chsV_bound {l : List S50} : ∀ c ∈ chsV l, 0 ≤ c.1 ∧ c.1 ≤ 1099511627776 ∧ (c.2 = 0 ∨ c.2 = 1) := by
  intro c hc
  unfold chsV at hc
  split at hc
  · rename_i v
    have hv := vld_iff.1 v
    cases l with
    | nil => simp [chs] at hc
    | cons x l =>
      have hx := hv.2.1.cons
      have h2 := hv.2.2
      simp only [sm] at h2
      have := chF_bound hx.2 c hc
      omega
  · simp at hc
theorem chF_len : ∀ (l : List S50) (p at_ : Int), (chF p at_ l).length ≤ l.length
  | [], p, at_ => Nat.le_refl _
  | x :: l, p, at_ => by
    have := chF_len l x.f0 (at_ + x.f1)
    unfold chF
    split <;> simp only [List.length_cons] <;> omega
theorem chsV_len2 (l : List S50) : (chsV l).length ≤ 262144 := by
  unfold chsV
  split
  · rename_i v
    have hv := vld_iff.1 v
    cases l with
    | nil => simp [chs]
    | cons x l =>
      have := chF_len l x.f0 x.f1
      have h1 := hv.1
      simp only [List.length_cons] at h1
      simp only [chs]
      omega
  · simp
theorem measure_changes_l0 : ∀ (post pre : List S50) (out : List S68) (at_ : Int), 0 < pre.length → 0 ≤ at_ → at_ + sm post ≤ 1099511627776 → RunsOk post → (pre ++ post).length ≤ 262144 → out.length + post.length ≤ 262144 →
    Ev (fun k => measure_changes.l0 k out at_ (pre ++ post) ((pre ++ post).length : Int) (pre.length : Int)) (out ++ (chL at_ post).map toP)
  | [], pre, out, at_, hp, h0, h1, hw, hl, ho => by
    refine Ev.step (f := fun _ => some out) (fun k => ?_) (by rw [chL, List.map_nil, List.append_nil]; exact Ev.now _)
    simp only [measure_changes.l0]
    rw [if_neg (by simp)]
  | x :: post, pre, out, at_, hp, h0, h1, hw, hl, ho => by
    have hx := hw.cons
    have hs := sm_nonneg hx.2
    simp only [sm] at h1
    simp only [List.length_cons] at ho
    have hlt := mid_lt pre post x
    have hn : pre.length ≤ 9223372036854775806 := by
      simp only [List.length_append, List.length_cons] at hl
      omega
    have ih := measure_changes_l0 post (pre ++ [x]) (out ++ [toP (at_, x.f0)]) (at_ + x.f1) (by simp) (by omega) (by omega) hx.2 (by simpa using hl) (by simp only [List.length_append, List.length_cons, List.length_nil]; omega)
    rw [← mid_snoc pre post x] at ih
    rw [chL, List.map_cons, mid_snoc out _ (toP (at_, x.f0))]
    refine Ev.step (fun k => ?_) ih
    simp only [measure_changes.l0]
    rw [rd_mid, if_pos hlt, if_pos (by omega), if_pos hlt, if_pos (by omega), if_pos (by omega), w64 (x := at_ + x.f1) (by omega) (by omega), succ_mid pre x hn]
    rfl
theorem measure_changes_ev {l : List S50} (hw : RunsWf l) (hl : l.length ≤ 140737488351232) : Ev (fun k => measure_changes.f k l) ((chsV l).map toP) := by
  refine Ev.bind (wave_Clean_ev hw hl) ?_
  rw [← chT_clean]
  have hc : ∀ c, cleanV l = c → RunsOk c ∧ sm c ≤ 1099511627776 ∧ c.length ≤ 262144 := by
    intro c e
    subst e
    unfold cleanV
    split
    · rename_i v
      have := vld_iff.1 (jn_vld v)
      exact ⟨this.2.1, this.2.2, this.1⟩
    · exact ⟨fun x hx => by simp at hx, by simp [sm], by simp⟩
  generalize cleanV l = c at hc
  have hc := hc c rfl
  cases c with
  | nil =>
    refine Ev.step (f := fun _ => some []) (fun k => ?_) (Ev.now _)
    simp only [measure_changes.l0]
    rw [if_neg (by simp)]
  | cons x c =>
    have hx := hc.1.cons
    have hs := sm_nonneg hx.2
    have h2 := hc.2.1
    have h3 := hc.2.2
    simp only [sm] at h2
    simp only [List.length_cons] at h3
    have h := measure_changes_l0 c [x] [] x.f1 (by simp) (by omega) (by omega) hx.2 (by simp only [List.length_append, List.length_cons, List.length_nil]; omega) (by simp only [List.length_nil]; omega)
    refine Ev.step (fun k => ?_) h
    simp only [measure_changes.l0]
    rw [rd_zero, if_pos (by simp only [List.length_cons]; omega), if_pos (by omega), if_pos (by simp only [List.length_cons]; omega), if_neg (by omega), w64 (x := 0 + x.f1) (by omega) (by omega), Int.zero_add, wrap01]
    rfl
theorem ref_changes_l0 : ∀ (post q : List S50) (w : S50) (out : List S57) (at_ : Int), 0 ≤ at_ → at_ + sm post ≤ 1099511627776 → RunsOk post → ((q ++ [w]) ++ post).length ≤ 262144 → out.length + post.length ≤ 262144 →
    Ev (fun k => signalbenchref48_changes.l0 k ((q ++ [w]) ++ post) out at_ ((q ++ [w]).length : Int)) (out ++ (chF w.f0 at_ post).map toR)
  | [], q, w, out, at_, h0, h1, hw, hl, ho => by
    refine Ev.step (f := fun _ => some out) (fun k => ?_) (by rw [chF, List.map_nil, List.append_nil]; exact Ev.now _)
    simp only [signalbenchref48_changes.l0]
    rw [if_neg (by simp)]
  | x :: post, q, w, out, at_, h0, h1, hw, hl, ho => by
    have hx := hw.cons
    have hs := sm_nonneg hx.2
    simp only [sm] at h1
    simp only [List.length_cons] at ho
    have hlt := mid_lt (q ++ [w]) post x
    have hn : (q ++ [w]).length ≤ 9223372036854775806 := by
      simp only [List.length_append, List.length_cons] at hl ⊢
      omega
    have hq : q.length ≤ 9223372036854775806 := by
      simp only [List.length_append, List.length_cons] at hn
      omega
    have hr := rd_prev q (x :: post) w
    have hp := prev_lt q (x :: post) w
    by_cases c : w.f0 = x.f0
    · have ih := ref_changes_l0 post (q ++ [w]) x out (at_ + x.f1) (by omega) (by omega) hx.2 (by simpa using hl) (by omega)
      rw [← mid_snoc (q ++ [w]) post x] at ih
      rw [chF, if_pos c]
      refine Ev.step (fun k => ?_) ih
      simp only [signalbenchref48_changes.l0]
      rw [rd_mid, if_pos hlt, if_pos (snoc_pos q w), if_pos (by omega), last_at q w hq, if_pos (by omega), if_pos hp, hr, if_pos c.symm, w64 (x := at_ + x.f1) (by omega) (by omega), succ_mid (q ++ [w]) x hn]
    · have ih := ref_changes_l0 post (q ++ [w]) x (out ++ [toR (at_, x.f0)]) (at_ + x.f1) (by omega) (by omega) hx.2 (by simpa using hl) (by simp only [List.length_append, List.length_cons, List.length_nil]; omega)
      rw [← mid_snoc (q ++ [w]) post x] at ih
      rw [chF, if_neg c, List.map_cons, mid_snoc out _ (toR (at_, x.f0))]
      refine Ev.step (fun k => ?_) ih
      simp only [signalbenchref48_changes.l0]
      rw [rd_mid, if_pos hlt, if_pos (snoc_pos q w), if_pos (by omega), last_at q w hq, if_pos (by omega), if_pos hp, hr, if_neg (fun h => c h.symm), if_pos (by omega), w64 (x := at_ + x.f1) (by omega) (by omega), succ_mid (q ++ [w]) x hn]
      rfl
theorem ref_changes_ev {l : List S50} (hw : RunsWf l) (hl : l.length ≤ 140737488351232) : Ev (fun k => signalbenchref48_changes.f k l) ((chsV l).map toR) := by
  unfold chsV
  refine Ev.congr (f := fun k => (signalbenchref08_Valid.f k l).bind fun t => (if t = true then (signalbenchref48_changes.l0 k l [] 0 0) else (some []))) (fun k => rfl) (Ev.bind (ref_Valid_ev hw hl) ?_)
  by_cases v : vld l = true
  · simp only [if_pos v]
    have hv := vld_iff.1 v
    cases l with
    | nil =>
      refine Ev.step (f := fun _ => some []) (fun k => ?_) (Ev.now _)
      simp only [signalbenchref48_changes.l0]
      rw [if_neg (by simp)]
    | cons x c =>
      have hx := hv.2.1.cons
      have hs := sm_nonneg hx.2
      have h2 := hv.2.2
      have h3 := hv.1
      simp only [sm] at h2
      simp only [List.length_cons] at h3
      have h := ref_changes_l0 c [] x [] x.f1 (by omega) (by omega) hx.2 (by simp only [List.length_append, List.length_cons, List.length_nil]; omega) (by simp only [List.length_nil]; omega)
      refine Ev.step (fun k => ?_) h
      simp only [signalbenchref48_changes.l0]
      rw [rd_zero, if_pos (by simp only [List.length_cons]; omega), if_neg (by omega), if_pos (by omega), w64 (x := 0 + x.f1) (by omega) (by omega), Int.zero_add, wrap01]
      rfl
  · simp only [if_neg v]
    exact Ev.now _
theorem rdP_mid (pre post : List S68) (x : S68) : rd_T68 (pre ++ x :: post) (pre.length : Int) = x := by simp [rd_T68, List.getD]
theorem rdR_mid (pre post : List S57) (x : S57) : rd_T57 (pre ++ x :: post) (pre.length : Int) = x := by simp [rd_T57, List.getD]
theorem midg_lt {α : Type} (pre post : List α) (x : α) : (pre.length : Int) < ((pre ++ x :: post).length : Int) := by
  simp only [List.length_append, List.length_cons]
  omega
def risesV (l : List S50) (b : Bool) : List Int := ((chsV l).filter (fun p => (p.2 == 1) == b)).map (·.1)
theorem measure_rises_l0 (b : Bool) : ∀ (post : List (Int × Int)) (pre : List S68) (out : List Int), (pre ++ post.map toP).length ≤ 262144 → out.length + post.length ≤ 262144 →
    Ev (fun k => measure_rises.l0 k b out (pre ++ post.map toP) ((pre ++ post.map toP).length : Int) (pre.length : Int)) (out ++ (post.filter (fun p => (p.2 == 1) == b)).map (·.1))
  | [], pre, out, hl, ho => by
    refine Ev.step (f := fun _ => some out) (fun k => ?_) (by rw [List.filter_nil, List.map_nil, List.append_nil]; exact Ev.now _)
    simp only [measure_rises.l0]
    rw [if_neg (by simp)]
  | x :: post, pre, out, hl, ho => by
    rw [List.map_cons] at hl ⊢
    simp only [List.length_cons] at ho
    have hlt := midg_lt pre (post.map toP) (toP x)
    have hn : pre.length ≤ 9223372036854775806 := by
      simp only [List.length_append, List.length_cons] at hl
      omega
    by_cases c : ((x.2 == 1) == b) = true
    · have ih := measure_rises_l0 b post (pre ++ [toP x]) (out ++ [x.1]) (by simpa using hl) (by simp only [List.length_append, List.length_cons, List.length_nil]; omega)
      rw [← mid_snoc pre (post.map toP) (toP x)] at ih
      rw [List.filter_cons_of_pos (by simpa using c), List.map_cons, mid_snoc out _ x.1]
      refine Ev.step (fun k => ?_) ih
      simp only [measure_rises.l0]
      have c' : ((toP x).f1 == b) = true := c
      rw [rdP_mid, if_pos hlt, if_pos (by omega), if_pos hlt, if_pos c', if_pos (by omega), succ_mid pre (toP x) hn]
      rfl
    · have ih := measure_rises_l0 b post (pre ++ [toP x]) out (by simpa using hl) (by omega)
      rw [← mid_snoc pre (post.map toP) (toP x)] at ih
      rw [List.filter_cons_of_neg (by simpa using c)]
      refine Ev.step (fun k => ?_) ih
      simp only [measure_rises.l0]
      have c' : ¬ ((toP x).f1 == b) = true := c
      rw [rdP_mid, if_pos hlt, if_pos (by omega), if_pos hlt, if_neg c', succ_mid pre (toP x) hn]
theorem measure_rises_ev {l : List S50} {b : Bool} (hw : RunsWf l) (hl : l.length ≤ 140737488351232) : Ev (fun k => measure_rises.f k l b) (risesV l b) := by
  refine Ev.bind (measure_changes_ev hw hl) ?_
  have h2 := chsV_len2 l
  exact measure_rises_l0 b (chsV l) [] [] (by simpa using h2) (by simpa using h2)
theorem ref_to_l0 (lev : Int) : ∀ (post : List (Int × Int)) (pre out : List S57), (pre ++ post.map toR).length ≤ 262144 → out.length + post.length ≤ 262144 →
    Ev (fun k => signalbenchref48_to.l0 k (pre ++ post.map toR) lev out (pre.length : Int)) (out ++ (post.filter (fun p => p.2 == lev)).map toR)
  | [], pre, out, hl, ho => by
    refine Ev.step (f := fun _ => some out) (fun k => ?_) (by rw [List.filter_nil, List.map_nil, List.append_nil]; exact Ev.now _)
    simp only [signalbenchref48_to.l0]
    rw [if_neg (by simp)]
  | x :: post, pre, out, hl, ho => by
    rw [List.map_cons] at hl ⊢
    simp only [List.length_cons] at ho
    have hlt := midg_lt pre (post.map toR) (toR x)
    have hn : pre.length ≤ 9223372036854775806 := by
      simp only [List.length_append, List.length_cons] at hl
      omega
    by_cases c : x.2 = lev
    · have ih := ref_to_l0 lev post (pre ++ [toR x]) (out ++ [toR x]) (by simpa using hl) (by simp only [List.length_append, List.length_cons, List.length_nil]; omega)
      rw [← mid_snoc pre (post.map toR) (toR x)] at ih
      rw [List.filter_cons_of_pos (by simpa using c), List.map_cons, mid_snoc out _ (toR x)]
      refine Ev.step (fun k => ?_) ih
      simp only [signalbenchref48_to.l0]
      have c' : (toR x).f1 = lev := c
      rw [rdR_mid, if_pos hlt, if_pos (by omega), if_pos c', if_pos (by omega), succ_mid pre (toR x) hn]
    · have ih := ref_to_l0 lev post (pre ++ [toR x]) out (by simpa using hl) (by omega)
      rw [← mid_snoc pre (post.map toR) (toR x)] at ih
      rw [List.filter_cons_of_neg (by simpa using c)]
      refine Ev.step (fun k => ?_) ih
      simp only [signalbenchref48_to.l0]
      have c' : ¬ (toR x).f1 = lev := c
      rw [rdR_mid, if_pos hlt, if_pos (by omega), if_neg c', succ_mid pre (toR x) hn]
theorem ref_to_ev {lev : Int} {cs : List (Int × Int)} (h2 : cs.length ≤ 262144) : Ev (fun k => signalbenchref48_to.f k (cs.map toR) lev) ((cs.filter (fun p => p.2 == lev)).map toR) :=
  Ev.congr (fun k => rfl) (ref_to_l0 lev cs [] [] (by simpa using h2) (by simpa using h2))
theorem risesV_len (l : List S50) (b : Bool) : (risesV l b).length ≤ 262144 := by
  unfold risesV
  rw [List.length_map]
  exact Nat.le_trans (List.length_filter_le _ _) (chsV_len2 l)
theorem filter_one (cs : List (Int × Int)) : cs.filter (fun p => (p.2 == 1) == true) = cs.filter (fun p => p.2 == 1) := by
  congr 1
  funext p
  cases (p.2 == 1) <;> rfl
theorem law_same_l0 : ∀ (post pre : List S36), (pre ++ post).length ≤ 140737488351232 → Ev (fun k => signalbenchlaw48_same.l0 k (pre ++ post) (pre ++ post) (pre.length : Int)) true
  | [], pre, hl => by
    refine Ev.step (f := fun _ => some true) (fun k => ?_) (Ev.now _)
    simp only [signalbenchlaw48_same.l0]
    rw [if_neg (by simp)]
  | x :: post, pre, hl => by
    have hlt := midg_lt pre post x
    have hn : pre.length ≤ 9223372036854775806 := by
      simp only [List.length_append, List.length_cons] at hl
      omega
    have ih := law_same_l0 post (pre ++ [x]) (by simpa using hl)
    rw [← mid_snoc pre post x] at ih
    refine Ev.step (fun k => ?_) ih
    simp only [signalbenchlaw48_same.l0]
    rw [if_pos hlt, if_pos (by omega), if_pos hlt, if_neg (by simp), succ_mid pre x hn]
theorem law_same_ev (l : List S36) (hl : l.length ≤ 140737488351232) : Ev (fun k => signalbenchlaw48_same.f k l l) true := by
  refine Ev.congr (fun k => ?_) (law_same_l0 l [] (by simpa using hl))
  unfold signalbenchlaw48_same.f
  rw [if_pos rfl]
  rfl
theorem chF_sorted : ∀ {l : List S50} {p at_ : Int}, RunsOk l → (chF p at_ l).Pairwise (fun a b => a.1 < b.1)
  | [], p, at_, h => List.Pairwise.nil
  | x :: l, p, at_, h => by
    have hx := h.cons
    have ih := chF_sorted (l := l) (p := x.f0) (at_ := at_ + x.f1) hx.2
    unfold chF
    split
    · exact ih
    · refine List.Pairwise.cons (fun c hc => ?_) ih
      have := chF_bound hx.2 c hc
      simp only
      omega
theorem chsV_sorted (l : List S50) : (chsV l).Pairwise (fun a b => a.1 < b.1) := by
  unfold chsV
  split
  · rename_i v
    cases l with
    | nil => exact List.Pairwise.nil
    | cons x l => exact chF_sorted (vld_iff.1 v).2.1.cons.2
  · exact List.Pairwise.nil
theorem rises_sorted (l : List S50) (b : Bool) : (risesV l b).Pairwise (· < ·) := by
  unfold risesV
  rw [List.pairwise_map]
  exact (chsV_sorted l).filter _
theorem lives_ev : Ev (fun k => signalbenchlaw48_lives.f k) true := Ev.of (k := 40) (fun k => signalbenchlaw48_lives.mono k) (by decide +kernel)
theorem edF_chF : ∀ (l : List S50) (p at_ : Int), edF p at_ l = (chF p at_ l).map (·.1)
  | [], p, at_ => rfl
  | x :: l, p, at_ => by
    unfold edF chF
    split
    · exact edF_chF l _ _
    · rw [List.map_cons, edF_chF l]
theorem edsV_chs (l : List S50) : edsV l = (chsV l).map (·.1) := by
  unfold edsV chsV
  split
  · cases l with
    | nil => rfl
    | cons x l => exact edF_chF l _ _
  · rfl
theorem edsV_bound (l : List S50) : ∀ e ∈ edsV l, 0 ≤ e ∧ e ≤ 1099511627776 := by
  intro e he
  rw [edsV_chs] at he
  obtain ⟨c, hc, rfl⟩ := List.mem_map.1 he
  have := chsV_bound c hc
  omega
theorem edsV_len48 (l : List S50) : (edsV l).length ≤ 262144 := by
  rw [edsV_chs, List.length_map]
  exact chsV_len2 l
theorem rises_len (l : List S50) (b : Bool) : (risesV l b).length ≤ 262144 := risesV_len l b
theorem snoc_len48 {α : Type} (l : List α) (x : α) : (l ++ [x]).length = l.length + 1 := by simp
def lastLe (t : Int) : Int → List Int → Int
  | acc, [] => acc
  | acc, x :: d => if x ≤ t then lastLe t x d else acc
def stp (d : List Int) : List Int → List S36
  | [] => []
  | t :: a => if 0 ≤ lastLe t (-1) d then ⟨lastLe t (-1) d, wrap64 (t - lastLe t (-1) d)⟩ :: stp d a else stp d a
def lst : List Int → Int
  | [] => -1
  | [x] => x
  | _ :: y :: l => lst (y :: l)
theorem lst_snoc : ∀ (p : List Int) (x : Int), lst (p ++ [x]) = x
  | [], x => rfl
  | [a], x => rfl
  | a :: b :: p, x => lst_snoc (b :: p) x
theorem lastLe_all (t : Int) : ∀ (p q : List Int) (acc : Int), (∀ x ∈ p, x ≤ t) → lastLe t acc (p ++ q) = lastLe t (if p = [] then acc else lst p) q
  | [], q, acc, h => by simp
  | [a], q, acc, h => by
    have := h a (by simp)
    simp [lastLe, this, lst]
  | a :: b :: p, q, acc, h => by
    have h1 := h a (by simp)
    have h2 := lastLe_all t (b :: p) q a (fun x hx => h x (by simp [hx]))
    simp only [List.cons_append] at h2 ⊢
    rw [lastLe, if_pos h1, h2]
    simp [lst]
theorem lastLe_split {t : Int} {p q : List Int} (h : ∀ x ∈ p, x ≤ t) (hq : ∀ x r, q = x :: r → ¬ x ≤ t) : lastLe t (-1) (p ++ q) = lst p := by
  rw [lastLe_all t p q (-1) h]
  have e : (if p = [] then -1 else lst p) = lst p := by
    split
    · rename_i e
      rw [e]
      rfl
    · rfl
  rw [e]
  cases q with
  | nil => rfl
  | cons x r => rw [lastLe, if_neg (hq x r rfl)]
theorem stp_len (d : List Int) : ∀ a : List Int, (stp d a : List S36).length ≤ a.length
  | [] => Nat.le_refl _
  | t :: a => by
    have := stp_len d a
    unfold stp
    split <;> simp only [List.length_cons] <;> omega
theorem rdi_last (p q : List Int) (x : Int) : rd ((p ++ [x]) ++ q) (wrap64 (((p ++ [x]).length : Int) - 1)) = x ∨ 9223372036854775806 < p.length := by
  by_cases h : 9223372036854775806 < p.length
  · exact .inr h
  · left
    have e : wrap64 (((p ++ [x]).length : Int) - 1) = (p.length : Int) := by
      rw [List.length_append, List.length_cons, List.length_nil]
      rw [w64 (by omega) (by omega)]
      omega
    rw [e, List.append_assoc]
    exact rdi_mid p q x
theorem measure_Setup_l1 (out : List S36) (t : Int) (a : List Int) (n i : Int) (d : List Int) (hd : d.length ≤ 262144) (hd0 : ∀ x ∈ d, 0 ≤ x) (ho : out.length < 8796093022208) (r : List S36) :
    ∀ (q p : List Int), d = p ++ q → (∀ x ∈ p, x ≤ t) → (∀ p' q', d = p' ++ q' → (∀ x ∈ p', x ≤ t) → lastLe t (-1) d = lst p' → Ev (fun k => measure_Setup.l0 k (if 0 ≤ lastLe t (-1) d then out ++ [(⟨lastLe t (-1) d, wrap64 (t - lastLe t (-1) d)⟩ : S36)] else out) d (p'.length : Int) a n (wrap64 (i + 1))) r) →
    Ev (fun k => measure_Setup.l1 k out d (p.length : Int) t a n i) r := by
  have fin : ∀ (p q : List Int), d = p ++ q → (∀ x ∈ p, x ≤ t) → (∀ x s, q = x :: s → ¬ x ≤ t) → (∀ p' q', d = p' ++ q' → (∀ x ∈ p', x ≤ t) → lastLe t (-1) d = lst p' → Ev (fun k => measure_Setup.l0 k (if 0 ≤ lastLe t (-1) d then out ++ [(⟨lastLe t (-1) d, wrap64 (t - lastLe t (-1) d)⟩ : S36)] else out) d (p'.length : Int) a n (wrap64 (i + 1))) r) →
      Ev (fun k => if (p.length : Int) > 0 then (if 0 ≤ (wrap64 ((p.length : Int) - 1)) then (if (wrap64 ((p.length : Int) - 1)) < (d.length : Int) then (if out.length < 8796093022208 then (measure_Setup.l0 k (out ++ [(⟨rd d (wrap64 ((p.length : Int) - 1)), wrap64 (t - (rd d (wrap64 ((p.length : Int) - 1))))⟩ : S36)]) d (p.length : Int) a n (wrap64 (i + 1))) else (none)) else (none)) else (none)) else (measure_Setup.l0 k out d (p.length : Int) a n (wrap64 (i + 1)))) r := by
    intro p q e hp hq hk
    have hL : lastLe t (-1) d = lst p := by
      rw [e]
      exact lastLe_split hp hq
    have h := hk p q e hp hL
    rcases List.eq_nil_or_concat p with rfl | ⟨p0, x, rfl⟩
    · rw [hL, if_neg (by simp [lst])] at h
      exact Ev.congr (fun k => if_neg (by simp)) h
    · rw [List.concat_eq_append] at h hL hp e ⊢
      have hx : 0 ≤ x := hd0 x (by rw [e]; simp)
      have hl : p0.length + 1 ≤ 262144 := by
        rw [e] at hd
        simp only [List.length_append, List.length_cons, List.length_nil] at hd
        omega
      rw [hL, lst_snoc, if_pos hx] at h
      have e1 : rd d (wrap64 (((p0 ++ [x]).length : Int) - 1)) = x := by
        rcases rdi_last p0 q x with h | h
        · rw [e]
          exact h
        · omega
      have e2 : wrap64 (((p0 ++ [x]).length : Int) - 1) = (p0.length : Int) := by
        rw [List.length_append, List.length_cons, List.length_nil]
        rw [w64 (by omega) (by omega)]
        omega
      have e3 : (p0.length : Int) < (d.length : Int) := by
        rw [e]
        simp only [List.length_append, List.length_cons, List.length_nil]
        omega
      refine Ev.congr (fun k => ?_) h
      rw [if_pos (by simp only [List.length_append, List.length_cons, List.length_nil]; omega), e1, e2, if_pos (by omega), if_pos e3, if_pos ho]
  intro q
  induction q with
  | nil =>
    intro p e hp hk
    refine Ev.step (fun k => ?_) (fin p [] e hp (fun x s h => by cases h) hk)
    simp only [measure_Setup.l1]
    rw [if_neg (by rw [e]; simp)]
  | cons x q ih =>
    intro p e hp hk
    have hlt : (p.length : Int) < (d.length : Int) := by
      rw [e]
      exact midi_lt p q x
    have hrd : rd d (p.length : Int) = x := by
      rw [e]
      exact rdi_mid p q x
    by_cases c : x ≤ t
    · have h := ih (p ++ [x]) (by rw [e]; simp) (fun y hy => by
        rcases List.mem_append.1 hy with hy | hy
        · exact hp y hy
        · have : y = x := by simpa using hy
          omega) hk
      refine Ev.step (fun k => ?_) h
      simp only [measure_Setup.l1]
      rw [if_pos hlt, if_pos (by omega), hrd, if_pos c, succ_mid p x (by omega)]
    · refine Ev.step (fun k => ?_) (fin p (x :: q) e hp (fun y s h => by
        injection h with h1 h2
        rw [← h1]
        exact c) hk)
      simp only [measure_Setup.l1]
      rw [if_pos hlt, if_pos (by omega), hrd, if_neg c]
theorem measure_Setup_l0 (d : List Int) (hd : d.length ≤ 262144) (hd0 : ∀ x ∈ d, 0 ≤ x) : ∀ (post pre p q : List Int) (out : List S36), d = p ++ q → (∀ t ∈ post, ∀ x ∈ p, x ≤ t) → post.Pairwise (· < ·) → (pre ++ post).length ≤ 262144 → out.length + post.length ≤ 262144 →
    Ev (fun k => measure_Setup.l0 k out d (p.length : Int) (pre ++ post) ((pre ++ post).length : Int) (pre.length : Int)) (out ++ stp d post)
  | [], pre, p, q, out, e, hp, hs, hl, ho => by
    refine Ev.step (f := fun _ => some out) (fun k => ?_) (by rw [stp, List.append_nil]; exact Ev.now _)
    simp only [measure_Setup.l0]
    rw [if_neg (by simp)]
  | t :: post, pre, p, q, out, e, hp, hs, hl, ho => by
    have hlt := midi_lt pre post t
    have hn : pre.length ≤ 9223372036854775806 := by
      simp only [List.length_append, List.length_cons] at hl
      omega
    simp only [List.length_cons] at ho
    have hs' := List.pairwise_cons.1 hs
    refine Ev.step (fun k => ?_) (measure_Setup_l1 out t (pre ++ t :: post) ((pre ++ t :: post).length : Int) (pre.length : Int) d hd hd0 (by omega) _ q p e (fun x hx => hp t (by simp) x hx) ?_)
    · simp only [measure_Setup.l0]
      rw [if_pos hlt, if_pos (by omega), if_pos hlt, rdi_mid]
    · intro p' q' e' hp' hL
      have hp2 : ∀ u ∈ post, ∀ x ∈ p', x ≤ u := fun u hu x hx => by
        have h1 := hp' x hx
        have h2 := hs'.1 u hu
        omega
      rw [succ_mid pre t hn, mid_snoc pre post t, stp]
      by_cases c : 0 ≤ lastLe t (-1) d
      · rw [if_pos c, if_pos c, mid_snoc out (stp d post) _]
        refine measure_Setup_l0 d hd hd0 post (pre ++ [t]) p' q' _ e' hp2 hs'.2 (by simpa using hl) ?_
        rw [snoc_len48]
        omega
      · rw [if_neg c, if_neg c]
        exact measure_Setup_l0 d hd hd0 post (pre ++ [t]) p' q' _ e' hp2 hs'.2 (by simpa using hl) (by omega)
theorem both_ev {a b : List S50} (ha : RunsWf a) (hb : RunsWf b) (hla : a.length ≤ 140737488351232) (hlb : b.length ≤ 140737488351232) : Ev (fun k => measure_both.f k a b) (vld a && vld b) := by
  refine Ev.bind (wave_Valid_ev ha hla) ?_
  cases vld a with
  | true => exact Ev.congr (fun k => if_pos rfl) (Ev.bind (wave_Valid_ev hb hlb) (by simpa using Ev.now _))
  | false => exact Ev.congr (fun k => if_neg (by simp)) (by simpa using Ev.now _)
def setupV (a b : List S50) (r : Bool) : List S36 := if (vld a && vld b) = true then stp (edsV a) (risesV b r) else []
theorem measure_Setup_ev {a b : List S50} {r : Bool} (ha : RunsWf a) (hb : RunsWf b) (hla : a.length ≤ 140737488351232) (hlb : b.length ≤ 140737488351232) : Ev (fun k => measure_Setup.f k a b r) (setupV a b r) := by
  unfold setupV
  refine Ev.bind (both_ev ha hb hla hlb) ?_
  by_cases v : (vld a && vld b) = true
  · refine Ev.congr (fun k => if_pos v) ?_
    rw [if_pos v]
    refine Ev.bind (wave_Edges_ev ha hla) (Ev.bind (measure_rises_ev hb hlb) ?_)
    have h := measure_Setup_l0 (edsV a) (edsV_len48 a) (fun x hx => (edsV_bound a x hx).1) (risesV b r) [] [] (edsV a) [] rfl (fun t _ x hx => by simp at hx) (rises_sorted b r) (by simpa using rises_len b r) (by simpa using rises_len b r)
    simpa using h
  · rw [if_neg v]
    exact Ev.congr (fun k => if_neg v) (Ev.now _)
theorem rdR_map (cs : List (Int × Int)) (i : Nat) (h : i < cs.length) : (rd_T57 (cs.map toR) (i : Int)).f0 = rd (cs.map (·.1)) (i : Int) := by
  simp [rd_T57, rd, List.getD, List.getElem?_eq_getElem h, toR]
theorem ref_Setup_l1 (out : List S36) (A : List S57) (i : Nat) (hi : i < A.length) (t : Int) (ht : (rd_T57 A (i : Int)).f0 = t) (ho : out.length < 8796093022208) (r : List S36) (D : List Int) :
    ∀ (post : List (Int × Int)) (pre : List S57) (acc : Int), (pre ++ post.map toR).length ≤ 262144 →
    Ev (fun k => signalbenchref48_Setup.l0 k (if 0 ≤ lastLe t acc (post.map (·.1)) then out ++ [(⟨lastLe t acc (post.map (·.1)), wrap64 (t - lastLe t acc (post.map (·.1)))⟩ : S36)] else out) (pre ++ post.map toR) A (wrap64 ((i : Int) + 1))) r →
    Ev (fun k => signalbenchref48_Setup.l1 k out (pre ++ post.map toR) A (i : Int) acc (pre.length : Int)) r
  | [], pre, acc, hl, hk => by
    have hi' : (i : Int) < (A.length : Int) := by omega
    refine Ev.step (fun k => ?_) hk
    simp only [signalbenchref48_Setup.l1, List.map_nil, lastLe]
    rw [if_neg (by simp), ht]
    by_cases c : acc ≥ 0
    · rw [if_pos c, if_pos (by omega), if_pos hi', if_pos ho, if_pos c]
    · rw [if_neg c, if_neg c]
  | x :: post, pre, acc, hl, hk => by
    have hi' : (i : Int) < (A.length : Int) := by omega
    rw [List.map_cons] at hl hk ⊢
    have hlt := midg_lt pre (post.map toR) (toR x)
    have hn : pre.length ≤ 9223372036854775806 := by
      simp only [List.length_append, List.length_cons] at hl
      omega
    by_cases c : x.1 ≤ t
    · rw [List.map_cons, lastLe, if_pos c] at hk
      rw [mid_snoc pre _ (toR x)] at hk
      have ih := ref_Setup_l1 out A i hi t ht ho r D post (pre ++ [toR x]) x.1 (by simpa using hl) hk
      rw [← mid_snoc pre _ (toR x)] at ih
      refine Ev.step (fun k => ?_) ih
      simp only [signalbenchref48_Setup.l1]
      rw [rdR_mid, if_pos hlt, if_pos (by omega), if_pos (by omega), if_pos hi', ht, if_pos (show (toR x).f0 ≤ t from c), succ_mid pre (toR x) hn]
      rfl
    · rw [List.map_cons, lastLe, if_neg c] at hk
      refine Ev.step (fun k => ?_) hk
      simp only [signalbenchref48_Setup.l1]
      rw [rdR_mid, if_pos hlt, if_pos (by omega), if_pos (by omega), if_pos hi', ht, if_neg (show ¬ (toR x).f0 ≤ t from c)]
      by_cases c2 : acc ≥ 0
      · rw [if_pos c2, if_pos ho, if_pos c2]
      · rw [if_neg c2, if_neg c2]
theorem ref_Setup_l0 (cs : List (Int × Int)) (hc : cs.length ≤ 262144) : ∀ (post : List (Int × Int)) (pre : List S57) (out : List S36), (pre ++ post.map toR).length ≤ 262144 → out.length + post.length ≤ 262144 →
    Ev (fun k => signalbenchref48_Setup.l0 k out (cs.map toR) (pre ++ post.map toR) (pre.length : Int)) (out ++ stp (cs.map (·.1)) (post.map (·.1)))
  | [], pre, out, hl, ho => by
    refine Ev.step (f := fun _ => some out) (fun k => ?_) (by rw [List.map_nil, stp, List.append_nil]; exact Ev.now _)
    simp only [signalbenchref48_Setup.l0]
    rw [if_neg (by simp)]
  | x :: post, pre, out, hl, ho => by
    rw [List.map_cons] at hl ⊢
    simp only [List.length_cons] at ho
    have hlt := midg_lt pre (post.map toR) (toR x)
    have hn : pre.length ≤ 9223372036854775806 := by
      simp only [List.length_append, List.length_cons] at hl
      omega
    have h1 := ref_Setup_l1 out (pre ++ toR x :: post.map toR) pre.length (by omega) x.1 (by rw [rdR_mid]; rfl) (by omega) (out ++ stp (cs.map (·.1)) (x.1 :: post.map (·.1))) [] cs [] (-1) (by simpa using hc) (by
      simp only [List.nil_append]
      rw [succ_mid pre (toR x) hn, mid_snoc pre _ (toR x), stp]
      by_cases c : 0 ≤ lastLe x.1 (-1) (cs.map (·.1))
      · rw [if_pos c, if_pos c, mid_snoc out (stp (cs.map (·.1)) (post.map (·.1))) _]
        refine ref_Setup_l0 cs hc post (pre ++ [toR x]) _ (by simpa using hl) ?_
        rw [snoc_len48]
        omega
      · rw [if_neg c, if_neg c]
        exact ref_Setup_l0 cs hc post (pre ++ [toR x]) _ (by simpa using hl) (by omega))
    refine Ev.step (fun k => ?_) h1
    simp only [signalbenchref48_Setup.l0]
    rw [if_pos hlt]
    rfl
def chR (l : List S50) (b : Bool) : List (Int × Int) := (chsV l).filter (fun p => (p.2 == 1) == b)
theorem chR_rises (l : List S50) (b : Bool) : (chR l b).map (·.1) = risesV l b := rfl
theorem chR_len (l : List S50) (b : Bool) : (chR l b).length ≤ 262144 := Nat.le_trans (List.length_filter_le _ _) (chsV_len2 l)
theorem ref_active_ev {l : List S50} {b : Bool} (hw : RunsWf l) (hl : l.length ≤ 140737488351232) : Ev (fun k => signalbenchref48_active.f k l b) ((chR l b).map toR) := by
  unfold signalbenchref48_active.f
  cases b with
  | true =>
    refine Ev.congr (fun k => if_pos rfl) (Ev.bind (ref_changes_ev hw hl) (Ev.bind (ref_to_ev (lev := 1) (chsV_len2 l)) ?_))
    have e : (chsV l).filter (fun p => p.2 == 1) = chR l true := (filter_one _).symm
    rw [e]
    exact Ev.now _
  | false =>
    refine Ev.congr (fun k => if_neg (by simp)) (Ev.bind (ref_changes_ev hw hl) (Ev.bind (ref_to_ev (lev := 0) (chsV_len2 l)) ?_))
    have e : (chsV l).filter (fun p => p.2 == 0) = chR l false := by
      unfold chR
      refine List.filter_congr (fun c hc => ?_)
      have := (chsV_bound c hc).2.2
      rcases this with h | h <;> rw [h] <;> rfl
    rw [e]
    exact Ev.now _
theorem chsV_bad {l : List S50} (h : ¬ vld l = true) : chsV l = [] := by
  unfold chsV
  rw [if_neg h]
theorem stp_nil (d : List Int) : (stp d [] : List S36) = [] := rfl
theorem ref_Setup_ev {a b : List S50} {r : Bool} (ha : RunsWf a) (hb : RunsWf b) (hla : a.length ≤ 140737488351232) (hlb : b.length ≤ 140737488351232) : Ev (fun k => signalbenchref48_Setup.f k a b r) (setupV a b r) := by
  refine Ev.bind (Ev.now _) (Ev.bind (ref_Valid_ev ha hla) ?_)
  unfold setupV
  by_cases v : vld a = true
  · refine Ev.congr (fun k => if_pos v) (Ev.bind (ref_changes_ev ha hla) (Ev.bind (ref_active_ev (b := r) hb hlb) ?_))
    have h := ref_Setup_l0 (chsV a) (chsV_len2 a) (chR b r) [] [] (by simpa using chR_len b r) (by simpa using chR_len b r)
    simp only [List.nil_append, List.length_nil] at h
    rw [chR_rises, ← edsV_chs] at h
    by_cases v2 : vld b = true
    · rw [if_pos (by rw [v, v2]; rfl)]
      exact h
    · rw [if_neg (by simp [v2])]
      have e : risesV b r = [] := by
        unfold risesV
        rw [chsV_bad v2]
        rfl
      rw [e, stp_nil] at h
      exact h
  · rw [if_neg (by simp [v])]
    exact Ev.congr (fun k => if_neg v) (Ev.now _)
theorem nx_all {d : List Int} {t : Int} {k : Nat} (h : ∀ x ∈ d.take k, x ≤ t) (hk : k ≤ d.length) : measure_behind.nx d t k = measure_behind.nx d t 0 := by
  induction k with
  | zero => rfl
  | succ k ih =>
    have hlt : k < d.length := by omega
    have e : d.take (k + 1) = d.take k ++ [d[k]] := by
      rw [List.take_append_getElem hlt]
    have e2 : rd d (k : Int) = d[k] := by simp [rd, List.getD, List.getElem?_eq_getElem hlt]
    rw [← measure_behind.nx_step hlt (by rw [e2]; exact h _ (e ▸ List.mem_append_right _ (List.mem_singleton.2 rfl)))]
    exact ih (fun x hx => h x (e ▸ List.mem_append_left _ hx)) (by omega)
theorem takeWhile_imp {α : Type} (p : α → Bool) : ∀ {l : List α} {x : α}, x ∈ l.takeWhile p → p x = true
  | [], x, h => by simp at h
  | y :: l, x, h => by
    by_cases c : p y = true
    · rw [List.takeWhile_cons_of_pos c] at h
      rcases List.mem_cons.1 h with rfl | h
      · exact c
      · exact takeWhile_imp p h
    · rw [List.takeWhile_cons_of_neg c] at h
      simp at h
theorem nx_take (d : List Int) (t : Int) : ∀ x ∈ d.take (measure_behind.nx d t 0), x ≤ t := by
  intro x hx
  unfold measure_behind.nx at hx
  rw [List.drop_zero, Nat.zero_add] at hx
  have e : d.take (d.takeWhile (fun x => decide (x ≤ t))).length = d.takeWhile (fun x => decide (x ≤ t)) := by
    conv => lhs; arg 2; rw [← List.takeWhile_append_dropWhile (p := fun x => decide (x ≤ t)) (l := d)]
    exact List.take_left
  rw [e] at hx
  have := takeWhile_imp _ hx
  simpa using this
def hld (d : List Int) : List Int → List S36
  | [] => []
  | t :: a => if measure_behind.nx d t 0 < d.length then ⟨t, wrap64 (rd d (measure_behind.nx d t 0 : Int) - t)⟩ :: hld d a else hld d a
theorem behind_hld (d : List Int) : ∀ (a : List Int) (k : Nat), k ≤ d.length → (∀ t ∈ a, ∀ x ∈ d.take k, x ≤ t) → a.Pairwise (· < ·) → measure_behind.l d k a = hld d a
  | [], k, hk, h, hs => rfl
  | t :: a, k, hk, h, hs => by
    have hs' := List.pairwise_cons.1 hs
    have e := nx_all (h t (by simp)) hk
    have ih := behind_hld d a (measure_behind.nx d t 0) (measure_behind.nx_le (Nat.zero_le _)) (fun u hu x hx => by
      have h1 := nx_take d t x hx
      have h2 := hs'.1 u hu
      omega) hs'.2
    rw [measure_behind.l_cons, hld, e, ih]
theorem hld_len (d : List Int) : ∀ a : List Int, (hld d a : List S36).length ≤ a.length
  | [] => Nat.le_refl _
  | t :: a => by
    have := hld_len d a
    unfold hld
    split <;> simp only [List.length_cons] <;> omega
theorem behind_ev {d a : List Int} (hd : d.length ≤ 262144) (ha : a.length ≤ 262144) (hs : a.Pairwise (· < ·)) : Ev (fun k => measure_behind.f d a) (hld d a) := by
  have e : measure_behind.f d a = some (hld d a) := by
    unfold measure_behind.f
    rw [if_pos (by omega), if_pos (by omega), behind_hld d a 0 (Nat.zero_le _) (fun t _ x hx => by simp at hx) hs]
  rw [e]
  exact Ev.now _
def holdV (a b : List S50) (r : Bool) : List S36 := if (vld a && vld b) = true then hld (edsV a) (risesV b r) else []
def delayV (a b : List S50) (r : Bool) : List S36 := if (vld a && vld b) = true then hld (risesV a true) (risesV b r) else []
theorem measure_Hold_ev {a b : List S50} {r : Bool} (ha : RunsWf a) (hb : RunsWf b) (hla : a.length ≤ 140737488351232) (hlb : b.length ≤ 140737488351232) : Ev (fun k => measure_Hold.f k a b r) (holdV a b r) := by
  unfold holdV
  refine Ev.bind (both_ev ha hb hla hlb) ?_
  by_cases v : (vld a && vld b) = true
  · rw [if_pos v]
    exact Ev.congr (fun k => if_pos v) (Ev.bind (wave_Edges_ev ha hla) (Ev.bind (measure_rises_ev hb hlb) (Ev.bind (behind_ev (edsV_len48 a) (rises_len b r) (rises_sorted b r)) (Ev.now _))))
  · rw [if_neg v]
    exact Ev.congr (fun k => if_neg v) (Ev.now _)
theorem measure_Delay_ev {a b : List S50} {r : Bool} (ha : RunsWf a) (hb : RunsWf b) (hla : a.length ≤ 140737488351232) (hlb : b.length ≤ 140737488351232) : Ev (fun k => measure_Delay.f k a b r) (delayV a b r) := by
  unfold delayV
  refine Ev.bind (both_ev ha hb hla hlb) ?_
  by_cases v : (vld a && vld b) = true
  · rw [if_pos v]
    exact Ev.congr (fun k => if_pos v) (Ev.bind (measure_rises_ev ha hla) (Ev.bind (measure_rises_ev hb hlb) (Ev.bind (behind_ev (rises_len a true) (rises_len b r) (rises_sorted b r)) (Ev.now _))))
  · rw [if_neg v]
    exact Ev.congr (fun k => if_neg v) (Ev.now _)
theorem ref_after_l1 (out : List S36) (cs : List (Int × Int)) (hcs : cs.length ≤ 262144) (A : List S57) (i : Nat) (hi : i < A.length) (t : Int) (ht : (rd_T57 A (i : Int)).f0 = t) (ho : out.length < 8796093022208) (r : List S36)
    (hk : Ev (fun k => signalbenchref48_after.l0 k (cs.map toR) A (if measure_behind.nx (cs.map (·.1)) t 0 < cs.length then out ++ [(⟨t, wrap64 (rd (cs.map (·.1)) (measure_behind.nx (cs.map (·.1)) t 0 : Int) - t)⟩ : S36)] else out) (wrap64 ((i : Int) + 1))) r) :
    ∀ (n y : Nat), y + n = cs.length → measure_behind.nx (cs.map (·.1)) t y = measure_behind.nx (cs.map (·.1)) t 0 → Ev (fun k => signalbenchref48_after.l1 k (cs.map toR) A out (i : Int) (y : Int)) r
  | 0, y, hy, hn => by
    have e := measure_behind.nx_end (l := cs.map (·.1)) (t := t) (k := y) (by rw [List.length_map]; omega)
    rw [← hn, e, if_neg (by omega)] at hk
    refine Ev.step (fun k => ?_) hk
    simp only [signalbenchref48_after.l1]
    rw [if_neg (by rw [List.length_map]; omega)]
  | n + 1, y, hy, hn => by
    have hlt : y < cs.length := by omega
    have hlt' : y < (cs.map (·.1)).length := by rw [List.length_map]; omega
    have hi' : (i : Int) < (A.length : Int) := by omega
    by_cases c : rd (cs.map (·.1)) (y : Int) ≤ t
    · have ih := ref_after_l1 out cs hcs A i hi t ht ho r hk n (y + 1) (by omega) ((measure_behind.nx_step hlt' c).symm.trans hn)
      refine Ev.step (fun k => ?_) ih
      simp only [signalbenchref48_after.l1]
      rw [if_pos (by rw [List.length_map]; omega), if_pos (by omega), if_pos (by omega), if_pos hi', ht, rdR_map cs y hlt, if_pos c, w64 (by omega) (by omega)]
      rfl
    · have e := measure_behind.nx_stop hlt' c
      rw [← hn, e, if_pos hlt] at hk
      refine Ev.step (fun k => ?_) hk
      simp only [signalbenchref48_after.l1]
      rw [if_pos (by rw [List.length_map]; omega), if_pos (by omega), if_pos (by omega), if_pos hi', ht, rdR_map cs y hlt, if_neg c, if_pos ho]
theorem ref_after_l0 (cs : List (Int × Int)) (hc : cs.length ≤ 262144) : ∀ (post : List (Int × Int)) (pre : List S57) (out : List S36), (pre ++ post.map toR).length ≤ 262144 → out.length + post.length ≤ 262144 →
    Ev (fun k => signalbenchref48_after.l0 k (cs.map toR) (pre ++ post.map toR) out (pre.length : Int)) (out ++ hld (cs.map (·.1)) (post.map (·.1)))
  | [], pre, out, hl, ho => by
    refine Ev.step (f := fun _ => some out) (fun k => ?_) (by rw [List.map_nil, hld, List.append_nil]; exact Ev.now _)
    simp only [signalbenchref48_after.l0]
    rw [if_neg (by simp)]
  | x :: post, pre, out, hl, ho => by
    rw [List.map_cons] at hl ⊢
    simp only [List.length_cons] at ho
    have hlt := midg_lt pre (post.map toR) (toR x)
    have hn : pre.length ≤ 9223372036854775806 := by
      simp only [List.length_append, List.length_cons] at hl
      omega
    have h1 := ref_after_l1 out cs hc (pre ++ toR x :: post.map toR) pre.length (by omega) x.1 (by rw [rdR_mid]; rfl) (by omega) (out ++ hld (cs.map (·.1)) (x.1 :: post.map (·.1))) (by
      rw [succ_mid pre (toR x) hn, mid_snoc pre _ (toR x), hld, List.length_map]
      by_cases c : measure_behind.nx (cs.map (·.1)) x.1 0 < cs.length
      · rw [if_pos c, if_pos c, mid_snoc out (hld (cs.map (·.1)) (post.map (·.1))) _]
        refine ref_after_l0 cs hc post (pre ++ [toR x]) _ (by simpa using hl) ?_
        rw [snoc_len48]
        omega
      · rw [if_neg c, if_neg c]
        exact ref_after_l0 cs hc post (pre ++ [toR x]) _ (by simpa using hl) (by omega)) cs.length 0 (by omega) rfl
    refine Ev.step (fun k => ?_) h1
    simp only [signalbenchref48_after.l0]
    rw [if_pos hlt]
    rfl
theorem ref_after_ev {cs as_ : List (Int × Int)} (hc : cs.length ≤ 262144) (ha : as_.length ≤ 262144) : Ev (fun k => signalbenchref48_after.f k (cs.map toR) (as_.map toR)) (hld (cs.map (·.1)) (as_.map (·.1))) := by
  have h := ref_after_l0 cs hc as_ [] [] (by simpa using ha) (by simpa using ha)
  simp only [List.nil_append, List.length_nil] at h
  exact h
theorem hld_none : ∀ a : List Int, (hld [] a : List S36) = []
  | [] => rfl
  | t :: a => by
    rw [hld, if_neg (by simp)]
    exact hld_none a
theorem edsV_bad {l : List S50} (h : ¬ vld l = true) : edsV l = [] := by
  unfold edsV
  rw [if_neg h]
theorem rises_bad {l : List S50} {b : Bool} (h : ¬ vld l = true) : risesV l b = [] := by
  unfold risesV
  rw [chsV_bad h]
  rfl
theorem holdV_all (a b : List S50) (r : Bool) : holdV a b r = hld (edsV a) (risesV b r) := by
  unfold holdV
  by_cases v : vld a = true
  · by_cases v2 : vld b = true
    · rw [if_pos (by rw [v, v2]; rfl)]
    · rw [if_neg (by simp [v2]), rises_bad v2]
      rfl
  · rw [if_neg (by simp [v]), edsV_bad v, hld_none]
theorem delayV_all (a b : List S50) (r : Bool) : delayV a b r = hld (risesV a true) (risesV b r) := by
  unfold delayV
  by_cases v : vld a = true
  · by_cases v2 : vld b = true
    · rw [if_pos (by rw [v, v2]; rfl)]
    · rw [if_neg (by simp [v2]), rises_bad v2]
      rfl
  · rw [if_neg (by simp [v]), rises_bad v, hld_none]
theorem ref_Hold_ev {a b : List S50} {r : Bool} (ha : RunsWf a) (hb : RunsWf b) (hla : a.length ≤ 140737488351232) (hlb : b.length ≤ 140737488351232) : Ev (fun k => signalbenchref48_Hold.f k a b r) (holdV a b r) := by
  rw [holdV_all]
  refine Ev.bind (ref_changes_ev ha hla) (Ev.bind (ref_active_ev (b := r) hb hlb) (Ev.bind (ref_after_ev (chsV_len2 a) (chR_len b r)) ?_))
  rw [chR_rises, ← edsV_chs]
  exact Ev.now _
theorem ref_Delay_ev {a b : List S50} {r : Bool} (ha : RunsWf a) (hb : RunsWf b) (hla : a.length ≤ 140737488351232) (hlb : b.length ≤ 140737488351232) : Ev (fun k => signalbenchref48_Delay.f k a b r) (delayV a b r) := by
  rw [delayV_all]
  refine Ev.bind (ref_changes_ev ha hla) (Ev.bind (ref_to_ev (lev := 1) (chsV_len2 a)) (Ev.bind (ref_active_ev (b := r) hb hlb) ?_))
  have e : (chsV a).filter (fun p => p.2 == 1) = chR a true := (filter_one _).symm
  rw [e]
  refine Ev.bind (ref_after_ev (chR_len a true) (chR_len b r)) ?_
  rw [chR_rises, chR_rises]
  exact Ev.now _
theorem setupV_len (a b : List S50) (r : Bool) : (setupV a b r).length ≤ 262144 := by
  unfold setupV
  split
  · exact Nat.le_trans (stp_len _ _) (rises_len b r)
  · simp
theorem holdV_len (a b : List S50) (r : Bool) : (holdV a b r).length ≤ 262144 := by
  rw [holdV_all]
  exact Nat.le_trans (hld_len _ _) (rises_len b r)
theorem delayV_len (a b : List S50) (r : Bool) : (delayV a b r).length ≤ 262144 := by
  rw [delayV_all]
  exact Nat.le_trans (hld_len _ _) (rises_len b r)
theorem MeasureTwo_pure {a b : List S50} {r : Bool} (ha : RunsWf a) (hb : RunsWf b) (hla : a.length ≤ 140737488351232) (hlb : b.length ≤ 140737488351232) : ∃ k, signalbenchlaw48_MeasureTwo.f k a b r = some true := by
  have yes : Ev (fun k => signalbenchlaw48_MeasureTwo.j0 k a b r true) true := by
    refine Ev.step (f := fun _ => some true) (fun k => ?_) (Ev.now _)
    simp only [signalbenchlaw48_MeasureTwo.j0]
    rw [if_pos trivial]
  have no : Ev (fun k => signalbenchlaw48_MeasureTwo.j0 k a b r false) true := by
    have w1 : Ev (fun k => signalbenchlaw48_same.f k (setupV a b r) (setupV a b r)) true := law_same_ev _ (by have := setupV_len a b r; omega)
    have w2 : Ev (fun k => signalbenchlaw48_same.f k (holdV a b r) (holdV a b r)) true := law_same_ev _ (by have := holdV_len a b r; omega)
    have w3 : Ev (fun k => signalbenchlaw48_same.f k (delayV a b r) (delayV a b r)) true := law_same_ev _ (by have := delayV_len a b r; omega)
    have hh : Ev (fun k => ((measure_Setup.f k a b r).bind fun t565 => ((signalbenchref48_Setup.f k a b r).bind fun t568 => ((signalbenchlaw48_same.f k t565 t568).bind fun t571 => (if t571 = true then ((measure_Hold.f k a b r).bind fun t572 => ((signalbenchref48_Hold.f k a b r).bind fun t575 => ((signalbenchlaw48_same.f k t572 t575).bind fun t578 => (if t578 = true then ((measure_Delay.f k a b r).bind fun t579 => ((signalbenchref48_Delay.f k a b r).bind fun t582 => ((signalbenchlaw48_same.f k t579 t582).bind fun t585 => (some t585)))) else (none))))) else (none)))))) true :=
      Ev.bind (measure_Setup_ev ha hb hla hlb) (Ev.bind (ref_Setup_ev ha hb hla hlb) (Ev.bind w1 (Ev.congr (fun k => if_pos rfl) (Ev.bind (measure_Hold_ev ha hb hla hlb) (Ev.bind (ref_Hold_ev ha hb hla hlb) (Ev.bind w2 (Ev.congr (fun k => if_pos rfl) (Ev.bind (measure_Delay_ev ha hb hla hlb) (Ev.bind (ref_Delay_ev ha hb hla hlb) (Ev.bind w3 (Ev.now _)))))))))))
    refine Ev.step (fun k => ?_) hh
    simp only [signalbenchlaw48_MeasureTwo.j0]
    rw [if_neg (by simp)]
  refine Ev.rounds (g := fun k => signalbenchlaw48_MeasureTwo.f k a b r) (Ev.bind lives_ev (Ev.congr (fun k => if_pos rfl) ?_))
  by_cases c : (a.length : Int) > 400
  · exact Ev.congr (fun k => if_pos c) yes
  · refine Ev.congr (fun k => if_neg c) ?_
    by_cases c2 : (b.length : Int) > 400
    · rw [decide_eq_true c2]
      exact yes
    · rw [decide_eq_false c2]
      exact no
end Go.Proofs.Ytdbbmjfiglcfhaa
