/- The law MeasureOne as a plain statement on numbers and lists: with enough rounds it answers true; conditions: each number is one of its kind, no list or string is longer than its memory allows. -/
import Derived.Laws.BitsAllLaws
import Derived.WalkKit
import Derived.Test.YtdbbmjfiglcfhaaWMore
import Derived.Test.YtdbbmjfiglcfhaaQx0
import Derived.Test.YtdbbmjfiglcfhaaQx3
import Derived.Test.YtdbbmjfiglcfhaaQx4
import Derived.Test.YtdbbmjfiglcfhaaQx5
import Derived.Test.YtdbbmjfiglcfhaaQx6
import Derived.Test.YtdbbmjfiglcfhaaQx7
import Derived.Test.YtdbbmjfiglcfhaaQx8
import Derived.Test.YtdbbmjfiglcfhaaQx10
import Derived.Test.YtdbbmjfiglcfhaaQx11
import Derived.Test.YtdbbmjfiglcfhaaQx12
import Derived.Test.YtdbbmjfiglcfhaaQx13
import Derived.Test.YtdbbmjfiglcfhaaQx14
import Derived.Test.YtdbbmjfiglcfhaaQx16
import Derived.Test.YtdbbmjfiglcfhaaQx17
import Derived.Test.YtdbbmjfiglcfhaaQx18
import Derived.Test.YtdbbmjfiglcfhaaQx19
import Derived.Test.YtdbbmjfiglcfhaaQx20
import Derived.Test.YtdbbmjfiglcfhaaQx21
import Derived.Test.YtdbbmjfiglcfhaaQx22
import Derived.Test.YtdbbmjfiglcfhaaQx23
import Derived.Test.YtdbbmjfiglcfhaaQx24
import Derived.Test.YtdbbmjfiglcfhaaQx25
import Derived.Test.YtdbbmjfiglcfhaaQx26
import Derived.Test.YtdbbmjfiglcfhaaQx27
namespace Go.Proofs.Ytdbbmjfiglcfhaa
open Go Go.RowKit Go.Proofs.YtdbbmjfiglcfhaaW.PrintWords Go.Proofs.YtdbbmjfiglcfhaaW.PrintLast Go.Proofs.Ytdbbmjfiglcfhaa.Q
set_option linter.unusedVariables false
theorem w64 {x : Int} (h0 : -9223372036854775808 ≤ x) (h1 : x ≤ 9223372036854775807) : wrap64 x = x := by
  unfold wrap64
  omega
theorem wf64 {x : Int} (h : (Lit.int .i64 x).wf = true) : -9223372036854775808 ≤ x ∧ x ≤ 9223372036854775807 := by
  simp [Lit.wf, IntKind.min, IntKind.max, IntKind.bits, IntKind.signed] at h
  omega
theorem andNot1 {a : Int} (h : (Lit.int .i64 a).wf = true) : Go.bits .andNot .i64 a 1 = 0 ↔ a = 0 ∨ a = 1 := by
  have hw := wf64 h
  have e1 : Go.bits .andNot .i64 a 1 = IntKind.i64.wrap (((BitVec.ofInt 64 a &&& ~~~BitVec.ofInt 64 1).toNat : Nat) : Int) := rfl
  have e2 : (BitVec.ofInt 64 a &&& ~~~BitVec.ofInt 64 1).toNat = (BitVec.ofInt 64 a).toNat &&& 18446744073709551614 := by
    rw [BitVec.toNat_and]
    rfl
  have e3 : ((BitVec.ofInt 64 a).toNat : Int) = a % 18446744073709551616 := by
    rw [BitVec.toNat_ofInt]
    omega
  rw [e1, e2, nat_hi64_1, IntKind.wrap_i64]
  omega
theorem succ_mid {α : Type} (pre : List α) (x : α) (h : pre.length ≤ 9223372036854775806) : wrap64 ((pre.length : Int) + 1) = ((pre ++ [x]).length : Int) := by
  rw [w64 (by omega) (by omega)]
  simp
theorem wrap01 : wrap64 (0 + 1) = 1 := by
  unfold wrap64
  rfl
theorem mid_snoc {α : Type} (pre post : List α) (x : α) : pre ++ x :: post = (pre ++ [x]) ++ post := by simp
def sm : List S50 → Int
  | [] => 0
  | x :: l => x.f1 + sm l
def vldF (left : Int) : List S50 → Bool
  | [] => true
  | x :: l => if (x.f0 = 0 ∨ x.f0 = 1) ∧ 1 ≤ x.f1 ∧ x.f1 ≤ left then vldF (left - x.f1) l else false
def vld (l : List S50) : Bool := if l.length ≤ 262144 then vldF 1099511627776 l else false
def RunWf (x : S50) : Prop := (Lit.int .i64 x.f0).wf = true ∧ (Lit.int .i64 x.f1).wf = true
def RunsWf (l : List S50) : Prop := ∀ x ∈ l, RunWf x
def RunsOk (l : List S50) : Prop := ∀ x ∈ l, (x.f0 = 0 ∨ x.f0 = 1) ∧ 1 ≤ x.f1
theorem rd_mid (pre post : List S50) (x : S50) : rd_T50 (pre ++ x :: post) (pre.length : Int) = x := by simp [rd_T50, List.getD]
theorem mid_lt (pre post : List S50) (x : S50) : (pre.length : Int) < ((pre ++ x :: post).length : Int) := by
  simp only [List.length_append, List.length_cons]
  omega
theorem sm_nonneg : ∀ {l : List S50}, RunsOk l → 0 ≤ sm l
  | [], _ => Int.le_refl _
  | x :: l, h => by
    have h1 := h x (by simp)
    have h2 := sm_nonneg (l := l) (fun y hy => h y (by simp [hy]))
    simp only [sm]
    omega
theorem vldF_iff : ∀ {l : List S50} {left : Int}, 0 ≤ left → (vldF left l = true ↔ RunsOk l ∧ sm l ≤ left)
  | [], left, h => by simp [vldF, RunsOk, sm, h]
  | x :: l, left, h => by
    unfold vldF
    by_cases c : (x.f0 = 0 ∨ x.f0 = 1) ∧ 1 ≤ x.f1 ∧ x.f1 ≤ left
    · rw [if_pos c, vldF_iff (l := l) (by omega)]
      simp only [RunsOk, sm, List.mem_cons, forall_eq_or_imp]
      constructor
      · rintro ⟨h1, h2⟩
        exact ⟨⟨⟨c.1, c.2.1⟩, h1⟩, by omega⟩
      · rintro ⟨⟨h1, h2⟩, h3⟩
        exact ⟨h2, by omega⟩
    · rw [if_neg c]
      simp only [Bool.false_eq_true, false_iff]
      rintro ⟨h1, h2⟩
      have h3 := h1 x (by simp)
      have h4 := sm_nonneg (l := l) (fun y hy => h1 y (by simp [hy]))
      simp only [sm] at h2
      exact c ⟨h3.1, h3.2, by omega⟩
theorem vld_iff {l : List S50} : vld l = true ↔ l.length ≤ 262144 ∧ RunsOk l ∧ sm l ≤ 1099511627776 := by
  unfold vld
  by_cases c : l.length ≤ 262144
  · rw [if_pos c, vldF_iff (by omega)]
    simp [c]
  · rw [if_neg c]
    simp [c]
theorem RunsOk.cons {x : S50} {l : List S50} (h : RunsOk (x :: l)) : ((x.f0 = 0 ∨ x.f0 = 1) ∧ 1 ≤ x.f1) ∧ RunsOk l := ⟨h x (by simp), fun y hy => h y (by simp [hy])⟩
theorem RunsOk.left {a b : List S50} (h : RunsOk (a ++ b)) : RunsOk a := fun x hx => h x (List.mem_append_left _ hx)
theorem wave_Valid_l0 : ∀ (post pre : List S50) (left : Int), 0 ≤ left → left ≤ 1099511627776 → RunsWf post → (pre ++ post).length ≤ 140737488351232 →
    Ev (fun k => wave_Valid.l0 k left (pre ++ post) ((pre ++ post).length : Int) (pre.length : Int)) (vldF left post)
  | [], pre, left, h0, h1, hw, hl => by
    refine Ev.step (f := fun _ => some true) (fun k => ?_) (Ev.now _)
    simp only [wave_Valid.l0]
    rw [if_neg (by simp)]
  | x :: post, pre, left, h0, h1, hw, hl => by
    have hx := hw x (by simp)
    have hlt := mid_lt pre post x
    have hn : pre.length ≤ 9223372036854775806 := by
      simp only [List.length_append, List.length_cons] at hl
      omega
    by_cases c : (x.f0 = 0 ∨ x.f0 = 1) ∧ 1 ≤ x.f1 ∧ x.f1 ≤ left
    · have ih := wave_Valid_l0 post (pre ++ [x]) (left - x.f1) (by omega) (by omega) (fun y hy => hw y (by simp [hy])) (by simpa using hl)
      rw [← mid_snoc] at ih
      rw [vldF, if_pos c]
      refine Ev.step (fun k => ?_) ih
      simp only [wave_Valid.l0]
      rw [rd_mid, if_pos hlt, if_pos (by omega), if_pos hlt, if_pos ((andNot1 hx.1).2 c.1), if_neg (by omega), if_neg (by omega), w64 (by omega) (by omega), succ_mid _ _ hn]
    · rw [vldF, if_neg c]
      refine Ev.step (f := fun _ => some false) (fun k => ?_) (Ev.now _)
      simp only [wave_Valid.l0]
      rw [rd_mid, if_pos hlt, if_pos (by omega), if_pos hlt]
      by_cases c1 : x.f0 = 0 ∨ x.f0 = 1
      · rw [if_pos ((andNot1 hx.1).2 c1)]
        by_cases c2 : x.f1 < 1
        · rw [if_pos c2]
        · rw [if_neg c2, if_pos (by
            have : ¬ (1 ≤ x.f1 ∧ x.f1 ≤ left) := fun h => c ⟨c1, h⟩
            omega)]
      · rw [if_neg (fun h => c1 ((andNot1 hx.1).1 h))]
theorem wave_Valid_ev {l : List S50} (hw : RunsWf l) (hl : l.length ≤ 140737488351232) : Ev (fun k => wave_Valid.f k l) (vld l) := by
  unfold vld
  by_cases c : l.length ≤ 262144
  · rw [if_pos c]
    refine Ev.congr (fun k => ?_) (wave_Valid_l0 l [] 1099511627776 (by omega) (by omega) hw (by simpa using hl))
    unfold wave_Valid.f
    rw [if_neg (by omega)]
    rfl
  · rw [if_neg c]
    refine Ev.congr (fun k => ?_) (Ev.now _)
    unfold wave_Valid.f
    rw [if_pos (by omega)]
theorem ref_Valid_l0 : ∀ (post pre : List S50) (s : Int), 0 ≤ s → s ≤ 1099511627776 → RunsWf post → (pre ++ post).length ≤ 140737488351232 →
    Ev (fun k => signalbenchref08_Valid.l0 k (pre ++ post) s (pre.length : Int)) (vldF (1099511627776 - s) post)
  | [], pre, s, h0, h1, hw, hl => by
    refine Ev.step (f := fun _ => some true) (fun k => ?_) (Ev.now _)
    simp only [signalbenchref08_Valid.l0]
    rw [if_neg (by simp)]
  | x :: post, pre, s, h0, h1, hw, hl => by
    have hx := hw x (by simp)
    have hx1 := wf64 hx.2
    have hlt := mid_lt pre post x
    have hn : pre.length ≤ 9223372036854775806 := by
      simp only [List.length_append, List.length_cons] at hl
      omega
    by_cases c1 : x.f0 = 0 ∨ x.f0 = 1
    · have e0 : ∀ k, signalbenchref08_Valid.l0 (k + 1) (pre ++ x :: post) s (pre.length : Int) = signalbenchref08_Valid.j1 k (pre ++ x :: post) s (pre.length : Int) false := by
        intro k
        simp only [signalbenchref08_Valid.l0]
        rw [rd_mid, if_pos hlt, if_pos (by omega)]
        rcases c1 with c1 | c1
        · rw [if_pos c1]
        · rw [if_neg (by omega), c1]
          rfl
      refine Ev.step e0 ?_
      by_cases c : 1 ≤ x.f1 ∧ x.f1 ≤ 1099511627776 - s
      · have ih := ref_Valid_l0 post (pre ++ [x]) (s + x.f1) (by omega) (by omega) (fun y hy => hw y (by simp [hy])) (by simpa using hl)
        rw [← mid_snoc] at ih
        rw [vldF, if_pos ⟨c1, c⟩]
        have e1 : 1099511627776 - (s + x.f1) = 1099511627776 - s - x.f1 := by omega
        rw [e1] at ih
        refine Ev.step (fun k => ?_) ih
        simp only [signalbenchref08_Valid.j1]
        rw [rd_mid, if_neg (by simp), if_pos (by omega), if_pos hlt, if_neg (by omega), if_neg (by rw [w64 (by omega) (by omega)]; omega), w64 (by omega) (by omega), succ_mid _ _ hn]
      · rw [vldF, if_neg (fun h => c h.2)]
        refine Ev.step (f := fun _ => some false) (fun k => ?_) (Ev.now _)
        simp only [signalbenchref08_Valid.j1]
        rw [rd_mid, if_neg (by simp), if_pos (by omega), if_pos hlt]
        by_cases c2 : x.f1 < 1
        · rw [if_pos c2]
        · rw [if_neg c2, if_pos (by rw [w64 (by omega) (by omega)]; omega)]
    · rw [vldF, if_neg (fun h => c1 h.1)]
      refine Ev.step (f := fun k => signalbenchref08_Valid.j1 k (pre ++ x :: post) s (pre.length : Int) true) (fun k => ?_) (Ev.step (f := fun _ => some false) (fun k => ?_) (Ev.now _))
      · simp only [signalbenchref08_Valid.l0]
        rw [rd_mid, if_pos hlt, if_pos (by omega), if_neg (by omega)]
        congr 1
        simp
        omega
      · simp only [signalbenchref08_Valid.j1]
        rw [if_pos trivial]
theorem ref_Valid_ev {l : List S50} (hw : RunsWf l) (hl : l.length ≤ 140737488351232) : Ev (fun k => signalbenchref08_Valid.f k l) (vld l) := by
  unfold vld
  by_cases c : l.length ≤ 262144
  · rw [if_pos c]
    have h := ref_Valid_l0 l [] 0 (by omega) (by omega) hw (by simpa using hl)
    refine Ev.congr (fun k => ?_) h
    unfold signalbenchref08_Valid.f
    rw [if_neg (by omega)]
    rfl
  · rw [if_neg c]
    refine Ev.congr (fun k => ?_) (Ev.now _)
    unfold signalbenchref08_Valid.f
    rw [if_pos (by omega)]
def jnc (x : S50) : List S50 → List S50
  | [] => [x]
  | y :: l => if x.f0 = y.f0 then jnc ⟨x.f0, x.f1 + y.f1⟩ l else x :: jnc y l
def jn : List S50 → List S50
  | [] => []
  | x :: l => jnc x l
theorem last_at (o : List S50) (x : S50) (h : o.length ≤ 9223372036854775806) : wrap64 (((o ++ [x]).length : Int) - 1) = (o.length : Int) := by
  rw [w64 (by simp only [List.length_append, List.length_cons, List.length_nil]; omega) (by simp only [List.length_append, List.length_cons, List.length_nil]; omega)]
  simp
theorem rd_last (o : List S50) (x : S50) : rd_T50 (o ++ [x]) (o.length : Int) = x := rd_mid o [] x
theorem set_last (o : List S50) (x y : S50) : (o ++ [x]).set ((o.length : Int)).toNat y = o ++ [y] := by
  rw [Int.toNat_natCast, List.set_append_right _ _ (Nat.le_refl _), Nat.sub_self]
  rfl
theorem snoc_pos (o : List S50) (x : S50) : ((o ++ [x]).length : Int) > 0 := by
  simp only [List.length_append, List.length_cons, List.length_nil]
  omega
theorem last_lt (o : List S50) (x : S50) : (o.length : Int) < ((o ++ [x]).length : Int) := mid_lt o [] x
theorem wave_joined_l0 : ∀ (post pre o : List S50) (x : S50), 0 ≤ x.f1 → x.f1 + sm post ≤ 4611686018427387904 → RunsOk post → (pre ++ post).length ≤ 140737488351232 → o.length + post.length ≤ 4398046511104 →
    Ev (fun k => wave_joined.l0 k (o ++ [x]) (pre ++ post) ((pre ++ post).length : Int) (pre.length : Int)) (o ++ jnc x post)
  | [], pre, o, x, h0, h1, hw, hl, ho => by
    refine Ev.step (f := fun _ => some (o ++ [x])) (fun k => ?_) (Ev.now _)
    simp only [wave_joined.l0]
    rw [if_neg (by simp)]
  | y :: post, pre, o, x, h0, h1, hw, hl, ho => by
    have hy := hw.cons
    have hs := sm_nonneg hy.2
    simp only [sm] at h1
    simp only [List.length_cons] at ho
    have hlt := mid_lt pre post y
    have hn : pre.length ≤ 9223372036854775806 := by
      simp only [List.length_append, List.length_cons] at hl
      omega
    by_cases c : x.f0 = y.f0
    · have ih := wave_joined_l0 post (pre ++ [y]) o ⟨x.f0, x.f1 + y.f1⟩ (by simp only; omega) (by simp only; omega) hy.2 (by simpa using hl) (by omega)
      rw [← mid_snoc pre post y] at ih
      rw [jnc, if_pos c]
      refine Ev.step (fun k => ?_) ih
      simp only [wave_joined.l0]
      rw [rd_mid, if_pos hlt, if_pos (by omega), if_pos hlt, if_pos (snoc_pos o x), last_at o x (by omega), if_pos (by omega), if_pos (last_lt o x), rd_last, if_pos c, set_last, w64 (x := x.f1 + y.f1) (by omega) (by omega), succ_mid pre y hn]
    · have ih := wave_joined_l0 post (pre ++ [y]) (o ++ [x]) y (by omega) (by omega) hy.2 (by simpa using hl) (by simp only [List.length_append, List.length_cons, List.length_nil]; omega)
      rw [← mid_snoc pre post y] at ih
      rw [jnc, if_neg c, show o ++ x :: jnc y post = (o ++ [x]) ++ jnc y post by simp]
      refine Ev.step (fun k => ?_) ih
      simp only [wave_joined.l0]
      rw [rd_mid, if_pos hlt, if_pos (by omega), if_pos hlt, if_pos (snoc_pos o x), last_at o x (by omega), if_pos (by omega), if_pos (last_lt o x), rd_last, if_neg c, if_pos (by simp only [List.length_append, List.length_cons, List.length_nil]; omega), succ_mid pre y hn]
theorem wave_joined_ev {l : List S50} (hw : RunsOk l) (hs : sm l ≤ 4611686018427387904) (hl : l.length ≤ 4398046511104) : Ev (fun k => wave_joined.f k l) (jn l) := by
  refine Ev.congr (f := fun k => wave_joined.l0 k [] l (l.length : Int) 0) (fun k => rfl) ?_
  cases l with
  | nil =>
    refine Ev.step (f := fun _ => some []) (fun k => ?_) (Ev.now _)
    simp only [wave_joined.l0]
    rw [if_neg (by simp)]
  | cons x l =>
    have hx := hw.cons
    simp only [sm] at hs
    simp only [List.length_cons] at hl
    have h := wave_joined_l0 l [x] [] x (by omega) (by omega) hx.2 (by simp; omega) (by simp; omega)
    refine Ev.step (fun k => ?_) h
    simp only [wave_joined.l0]
    have e := rd_mid [] l x
    simp only [List.nil_append, List.length_nil] at e
    have e' : rd_T50 (x :: l) 0 = x := e
    rw [e', if_pos (by simp only [List.length_cons]; omega), if_pos (by omega), if_pos (by simp only [List.length_cons]; omega), if_neg (by simp), if_pos (by simp), wrap01]
    rfl
/-- The clean wave. -/
def cleanV (l : List S50) : List S50 := if vld l = true then jn l else []
theorem wave_Clean_ev {l : List S50} (hw : RunsWf l) (hl : l.length ≤ 140737488351232) : Ev (fun k => wave_Clean.f k l) (cleanV l) := by
  unfold cleanV
  refine Ev.bind (wave_Valid_ev hw hl) ?_
  by_cases v : vld l = true
  · simp only [if_pos v]
    have hv := vld_iff.1 v
    exact Ev.bind (wave_joined_ev hv.2.1 (by omega) (by omega)) (Ev.now _)
  · simp only [if_neg v]
    exact Ev.now _
theorem jnc_sm : ∀ (l : List S50) (x : S50), sm (jnc x l) = x.f1 + sm l
  | [], x => rfl
  | y :: l, x => by
    unfold jnc
    split
    · rw [jnc_sm l]
      simp only [sm]
      omega
    · simp only [sm]
      rw [jnc_sm l y]
theorem jn_sm (l : List S50) : sm (jn l) = sm l := by
  cases l with
  | nil => rfl
  | cons x l => exact jnc_sm l x
theorem jnc_len : ∀ (l : List S50) (x : S50), (jnc x l).length ≤ l.length + 1
  | [], x => Nat.le_refl _
  | y :: l, x => by
    unfold jnc
    split
    · have := jnc_len l ⟨x.f0, x.f1 + y.f1⟩
      simp only [List.length_cons]
      omega
    · have := jnc_len l y
      simp only [List.length_cons]
      omega
theorem jn_len (l : List S50) : (jn l).length ≤ l.length := by
  cases l with
  | nil => exact Nat.le_refl _
  | cons x l => exact jnc_len l x
theorem jnc_ok : ∀ (l : List S50) (x : S50), RunsOk (x :: l) → RunsOk (jnc x l)
  | [], x, h => h
  | y :: l, x, h => by
    have hx := h.cons
    have hy := hx.2.cons
    unfold jnc
    split
    · refine jnc_ok l _ (fun z hz => ?_)
      rcases List.mem_cons.1 hz with rfl | hz
      · exact ⟨hx.1.1, by simp only; omega⟩
      · exact hy.2 z hz
    · intro z hz
      rcases List.mem_cons.1 hz with rfl | hz
      · exact hx.1
      · exact jnc_ok l y hx.2 z hz
theorem jn_ok {l : List S50} (h : RunsOk l) : RunsOk (jn l) := by
  cases l with
  | nil => exact h
  | cons x l => exact jnc_ok l x h
theorem jn_vld {l : List S50} (h : vld l = true) : vld (jn l) = true := by
  have hv := vld_iff.1 h
  have h1 := jn_len l
  exact vld_iff.2 ⟨by omega, jn_ok hv.2.1, by rw [jn_sm]; exact hv.2.2⟩
theorem jnc_head : ∀ (l : List S50) (x : S50), ∃ t m, jnc x l = ⟨x.f0, t⟩ :: m
  | [], x => ⟨x.f1, [], rfl⟩
  | y :: l, x => by
    unfold jnc
    split
    · exact jnc_head l ⟨x.f0, x.f1 + y.f1⟩
    · exact ⟨x.f1, _, rfl⟩
theorem rd_prev (q post : List S50) (w : S50) : rd_T50 ((q ++ [w]) ++ post) (q.length : Int) = w := by
  rw [← mid_snoc]
  exact rd_mid q post w
theorem prev_lt (q post : List S50) (w : S50) : (q.length : Int) < (((q ++ [w]) ++ post).length : Int) := by
  rw [← mid_snoc]
  exact mid_lt q post w
theorem rd_zero (x : S50) (l : List S50) : rd_T50 (x :: l) 0 = x := by
  have e := rd_mid [] l x
  simp only [List.nil_append, List.length_nil] at e
  exact e
theorem rdi_mid (pre post : List Int) (x : Int) : rd (pre ++ x :: post) (pre.length : Int) = x := by simp [rd, List.getD]
def chF (p at_ : Int) : List S50 → List (Int × Int)
  | [] => []
  | x :: l => if p = x.f0 then chF x.f0 (at_ + x.f1) l else (at_, x.f0) :: chF x.f0 (at_ + x.f1) l
def chs : List S50 → List (Int × Int)
  | [] => []
  | x :: l => chF x.f0 x.f1 l
def chsV (l : List S50) : List (Int × Int) := if vld l = true then chs l else []
def chL (at_ : Int) : List S50 → List (Int × Int)
  | [] => []
  | x :: l => (at_, x.f0) :: chL (at_ + x.f1) l
def chT : List S50 → List (Int × Int)
  | [] => []
  | x :: l => chL x.f1 l
def toP (p : Int × Int) : S68 := ⟨p.1, p.2 == 1⟩
def toR (p : Int × Int) : S57 := ⟨p.1, p.2⟩
theorem chL_jnc : ∀ (l : List S50) (x : S50) (at_ : Int), (match jnc x l with | [] => [] | y :: m => chL (at_ + y.f1) m) = chF x.f0 (at_ + x.f1) l
  | [], x, at_ => rfl
  | y :: l, x, at_ => by
    unfold jnc chF
    by_cases c : x.f0 = y.f0
    · rw [if_pos c, if_pos c, chL_jnc l ⟨x.f0, x.f1 + y.f1⟩ at_]
      simp only
      rw [Int.add_assoc, c]
    · rw [if_neg c, if_neg c]
      have h := chL_jnc l y (at_ + x.f1)
      obtain ⟨t, m, e⟩ := jnc_head l y
      rw [e] at h ⊢
      simp only at h ⊢
      rw [chL, h]
theorem chT_jn (l : List S50) : chT (jn l) = chs l := by
  cases l with
  | nil => rfl
  | cons x l =>
    have h := chL_jnc l x 0
    simp only [Int.zero_add] at h
    exact h
theorem chT_clean (l : List S50) : chT (cleanV l) = chsV l := by
  unfold cleanV chsV
  split
  · exact chT_jn l
  · rfl
theorem chF_bound : ∀ {l : List S50} {p at_ : Int}, RunsOk l → ∀ c ∈ chF p at_ l, at_ ≤ c.1 ∧ c.1 ≤ at_ + sm l ∧ (c.2 = 0 ∨ c.2 = 1)
  | [], p, at_, h, c, hc => by simp [chF] at hc
  | x :: l, p, at_, h, c, hc => by
    have hx := h.cons
    have hs := sm_nonneg hx.2
    simp only [sm]
    unfold chF at hc
    split at hc
    · have := chF_bound hx.2 c hc
      omega
    · rcases List.mem_cons.1 hc with rfl | hc
      · exact ⟨Int.le_refl _, by simp only; omega, hx.1.1⟩
      · have := chF_bound hx.2 c hc
        omega
theorem chsV_bound {l : List S50} : ∀ c ∈ chsV l, 0 ≤ c.1 ∧ c.1 ≤ 1099511627776 ∧ (c.2 = 0 ∨ c.2 = 1) := by
  intro c hc
  unfold chsV at hc
  split at hc
  · rename_i v
    have hv := vld_iff.1 v
    cases l with
    | nil => simp [chs] at hc
    | cons x l =>
      have hx := hv.2.1.cons
      have h2 := hv.2.2
      simp only [sm] at h2
      have := chF_bound hx.2 c hc
      omega
  · simp at hc
theorem chF_len : ∀ (l : List S50) (p at_ : Int), (chF p at_ l).length ≤ l.length
  | [], p, at_ => Nat.le_refl _
  | x :: l, p, at_ => by
    have := chF_len l x.f0 (at_ + x.f1)
    unfold chF
    split <;> simp only [List.length_cons] <;> omega
theorem chsV_len2 (l : List S50) : (chsV l).length ≤ 262144 := by
  unfold chsV
  split
  · rename_i v
    have hv := vld_iff.1 v
    cases l with
    | nil => simp [chs]
    | cons x l =>
      have := chF_len l x.f0 x.f1
      have h1 := hv.1
      simp only [List.length_cons] at h1
      simp only [chs]
      omega
  · simp
theorem measure_changes_l0 : ∀ (post pre : List S50) (out : List S68) (at_ : Int), 0 < pre.length → 0 ≤ at_ → at_ + sm post ≤ 1099511627776 → RunsOk post → (pre ++ post).length ≤ 262144 → out.length + post.length ≤ 262144 →
    Ev (fun k => measure_changes.l0 k out at_ (pre ++ post) ((pre ++ post).length : Int) (pre.length : Int)) (out ++ (chL at_ post).map toP)
  | [], pre, out, at_, hp, h0, h1, hw, hl, ho => by
    refine Ev.step (f := fun _ => some out) (fun k => ?_) (by rw [chL, List.map_nil, List.append_nil]; exact Ev.now _)
    simp only [measure_changes.l0]
    rw [if_neg (by simp)]
  | x :: post, pre, out, at_, hp, h0, h1, hw, hl, ho => by
    have hx := hw.cons
    have hs := sm_nonneg hx.2
    simp only [sm] at h1
    simp only [List.length_cons] at ho
    have hlt := mid_lt pre post x
    have hn : pre.length ≤ 9223372036854775806 := by
      simp only [List.length_append, List.length_cons] at hl
      omega
    have ih := measure_changes_l0 post (pre ++ [x]) (out ++ [toP (at_, x.f0)]) (at_ + x.f1) (by simp) (by omega) (by omega) hx.2 (by simpa using hl) (by simp only [List.length_append, List.length_cons, List.length_nil]; omega)
    rw [← mid_snoc pre post x] at ih
    rw [chL, List.map_cons, mid_snoc out _ (toP (at_, x.f0))]
    refine Ev.step (fun k => ?_) ih
    simp only [measure_changes.l0]
    rw [rd_mid, if_pos hlt, if_pos (by omega), if_pos hlt, if_pos (by omega), if_pos (by omega), w64 (x := at_ + x.f1) (by omega) (by omega), succ_mid pre x hn]
    rfl
theorem measure_changes_ev {l : List S50} (hw : RunsWf l) (hl : l.length ≤ 140737488351232) : Ev (fun k => measure_changes.f k l) ((chsV l).map toP) := by
  refine Ev.bind (wave_Clean_ev hw hl) ?_
  rw [← chT_clean]
  have hc : ∀ c, cleanV l = c → RunsOk c ∧ sm c ≤ 1099511627776 ∧ c.length ≤ 262144 := by
    intro c e
    subst e
    unfold cleanV
    split
    · rename_i v
      have := vld_iff.1 (jn_vld v)
      exact ⟨this.2.1, this.2.2, this.1⟩
    · exact ⟨fun x hx => by simp at hx, by simp [sm], by simp⟩
  generalize cleanV l = c at hc
  have hc := hc c rfl
  cases c with
  | nil =>
    refine Ev.step (f := fun _ => some []) (fun k => ?_) (Ev.now _)
    simp only [measure_changes.l0]
    rw [if_neg (by simp)]
  | cons x c =>
    have hx := hc.1.cons
    have hs := sm_nonneg hx.2
    have h2 := hc.2.1
    have h3 := hc.2.2
    simp only [sm] at h2
    simp only [List.length_cons] at h3
    have h := measure_changes_l0 c [x] [] x.f1 (by simp) (by omega) (by omega) hx.2 (by simp only [List.length_append, List.length_cons, List.length_nil]; omega) (by simp only [List.length_nil]; omega)
    refine Ev.step (fun k => ?_) h
    simp only [measure_changes.l0]
    rw [rd_zero, if_pos (by simp only [List.length_cons]; omega), if_pos (by omega), if_pos (by simp only [List.length_cons]; omega), if_neg (by omega), w64 (x := 0 + x.f1) (by omega) (by omega), Int.zero_add, wrap01]
    rfl
theorem ref_changes_l0 : ∀ (post q : List S50) (w : S50) (out : List S57) (at_ : Int), 0 ≤ at_ → at_ + sm post ≤ 1099511627776 → RunsOk post → ((q ++ [w]) ++ post).length ≤ 262144 → out.length + post.length ≤ 262144 →
    Ev (fun k => signalbenchref48_changes.l0 k ((q ++ [w]) ++ post) out at_ ((q ++ [w]).length : Int)) (out ++ (chF w.f0 at_ post).map toR)
  | [], q, w, out, at_, h0, h1, hw, hl, ho => by
    refine Ev.step (f := fun _ => some out) (fun k => ?_) (by rw [chF, List.map_nil, List.append_nil]; exact Ev.now _)
    simp only [signalbenchref48_changes.l0]
    rw [if_neg (by simp)]
  | x :: post, q, w, out, at_, h0, h1, hw, hl, ho => by
    have hx := hw.cons
    have hs := sm_nonneg hx.2
    simp only [sm] at h1
    simp only [List.length_cons] at ho
    have hlt := mid_lt (q ++ [w]) post x
    have hn : (q ++ [w]).length ≤ 9223372036854775806 := by
      simp only [List.length_append, List.length_cons] at hl ⊢
      omega
    have hq : q.length ≤ 9223372036854775806 := by
      simp only [List.length_append, List.length_cons] at hn
      omega
    have hr := rd_prev q (x :: post) w
    have hp := prev_lt q (x :: post) w
    by_cases c : w.f0 = x.f0
    · have ih := ref_changes_l0 post (q ++ [w]) x out (at_ + x.f1) (by omega) (by omega) hx.2 (by simpa using hl) (by omega)
      rw [← mid_snoc (q ++ [w]) post x] at ih
      rw [chF, if_pos c]
      refine Ev.step (fun k => ?_) ih
      simp only [signalbenchref48_changes.l0]
      rw [rd_mid, if_pos hlt, if_pos (snoc_pos q w), if_pos (by omega), last_at q w hq, if_pos (by omega), if_pos hp, hr, if_pos c.symm, w64 (x := at_ + x.f1) (by omega) (by omega), succ_mid (q ++ [w]) x hn]
    · have ih := ref_changes_l0 post (q ++ [w]) x (out ++ [toR (at_, x.f0)]) (at_ + x.f1) (by omega) (by omega) hx.2 (by simpa using hl) (by simp only [List.length_append, List.length_cons, List.length_nil]; omega)
      rw [← mid_snoc (q ++ [w]) post x] at ih
      rw [chF, if_neg c, List.map_cons, mid_snoc out _ (toR (at_, x.f0))]
      refine Ev.step (fun k => ?_) ih
      simp only [signalbenchref48_changes.l0]
      rw [rd_mid, if_pos hlt, if_pos (snoc_pos q w), if_pos (by omega), last_at q w hq, if_pos (by omega), if_pos hp, hr, if_neg (fun h => c h.symm), if_pos (by omega), w64 (x := at_ + x.f1) (by omega) (by omega), succ_mid (q ++ [w]) x hn]
      rfl
theorem ref_changes_ev {l : List S50} (hw : RunsWf l) (hl : l.length ≤ 140737488351232) : Ev (fun k => signalbenchref48_changes.f k l) ((chsV l).map toR) := by
  unfold chsV
  refine Ev.congr (f := fun k => (signalbenchref08_Valid.f k l).bind fun t => (if t = true then (signalbenchref48_changes.l0 k l [] 0 0) else (some []))) (fun k => rfl) (Ev.bind (ref_Valid_ev hw hl) ?_)
  by_cases v : vld l = true
  · simp only [if_pos v]
    have hv := vld_iff.1 v
    cases l with
    | nil =>
      refine Ev.step (f := fun _ => some []) (fun k => ?_) (Ev.now _)
      simp only [signalbenchref48_changes.l0]
      rw [if_neg (by simp)]
    | cons x c =>
      have hx := hv.2.1.cons
      have hs := sm_nonneg hx.2
      have h2 := hv.2.2
      have h3 := hv.1
      simp only [sm] at h2
      simp only [List.length_cons] at h3
      have h := ref_changes_l0 c [] x [] x.f1 (by omega) (by omega) hx.2 (by simp only [List.length_append, List.length_cons, List.length_nil]; omega) (by simp only [List.length_nil]; omega)
      refine Ev.step (fun k => ?_) h
      simp only [signalbenchref48_changes.l0]
      rw [rd_zero, if_pos (by simp only [List.length_cons]; omega), if_neg (by omega), if_pos (by omega), w64 (x := 0 + x.f1) (by omega) (by omega), Int.zero_add, wrap01]
      rfl
  · simp only [if_neg v]
    exact Ev.now _
theorem rdP_mid (pre post : List S68) (x : S68) : rd_T68 (pre ++ x :: post) (pre.length : Int) = x := by simp [rd_T68, List.getD]
theorem rdR_mid (pre post : List S57) (x : S57) : rd_T57 (pre ++ x :: post) (pre.length : Int) = x := by simp [rd_T57, List.getD]
theorem rdG_mid (pre post : List S36) (x : S36) : rd_T36 (pre ++ x :: post) (pre.length : Int) = x := by simp [rd_T36, List.getD]
theorem midg_lt {α : Type} (pre post : List α) (x : α) : (pre.length : Int) < ((pre ++ x :: post).length : Int) := by
  simp only [List.length_append, List.length_cons]
  omega
def risesV (l : List S50) (b : Bool) : List Int := ((chsV l).filter (fun p => (p.2 == 1) == b)).map (·.1)
theorem measure_rises_l0 (b : Bool) : ∀ (post : List (Int × Int)) (pre : List S68) (out : List Int), (pre ++ post.map toP).length ≤ 262144 → out.length + post.length ≤ 262144 →
    Ev (fun k => measure_rises.l0 k b out (pre ++ post.map toP) ((pre ++ post.map toP).length : Int) (pre.length : Int)) (out ++ (post.filter (fun p => (p.2 == 1) == b)).map (·.1))
  | [], pre, out, hl, ho => by
    refine Ev.step (f := fun _ => some out) (fun k => ?_) (by rw [List.filter_nil, List.map_nil, List.append_nil]; exact Ev.now _)
    simp only [measure_rises.l0]
    rw [if_neg (by simp)]
  | x :: post, pre, out, hl, ho => by
    rw [List.map_cons] at hl ⊢
    simp only [List.length_cons] at ho
    have hlt := midg_lt pre (post.map toP) (toP x)
    have hn : pre.length ≤ 9223372036854775806 := by
      simp only [List.length_append, List.length_cons] at hl
      omega
    by_cases c : ((x.2 == 1) == b) = true
    · have ih := measure_rises_l0 b post (pre ++ [toP x]) (out ++ [x.1]) (by simpa using hl) (by simp only [List.length_append, List.length_cons, List.length_nil]; omega)
      rw [← mid_snoc pre (post.map toP) (toP x)] at ih
      rw [List.filter_cons_of_pos (by simpa using c), List.map_cons, mid_snoc out _ x.1]
      refine Ev.step (fun k => ?_) ih
      simp only [measure_rises.l0]
      have c' : ((toP x).f1 == b) = true := c
      rw [rdP_mid, if_pos hlt, if_pos (by omega), if_pos hlt, if_pos c', if_pos (by omega), succ_mid pre (toP x) hn]
      rfl
    · have ih := measure_rises_l0 b post (pre ++ [toP x]) out (by simpa using hl) (by omega)
      rw [← mid_snoc pre (post.map toP) (toP x)] at ih
      rw [List.filter_cons_of_neg (by simpa using c)]
      refine Ev.step (fun k => ?_) ih
      simp only [measure_rises.l0]
      have c' : ¬ ((toP x).f1 == b) = true := c
      rw [rdP_mid, if_pos hlt, if_pos (by omega), if_pos hlt, if_neg c', succ_mid pre (toP x) hn]
theorem measure_rises_ev {l : List S50} {b : Bool} (hw : RunsWf l) (hl : l.length ≤ 140737488351232) : Ev (fun k => measure_rises.f k l b) (risesV l b) := by
  refine Ev.bind (measure_changes_ev hw hl) ?_
  have h2 := chsV_len2 l
  exact measure_rises_l0 b (chsV l) [] [] (by simpa using h2) (by simpa using h2)
theorem ref_to_l0 (lev : Int) : ∀ (post : List (Int × Int)) (pre out : List S57), (pre ++ post.map toR).length ≤ 262144 → out.length + post.length ≤ 262144 →
    Ev (fun k => signalbenchref48_to.l0 k (pre ++ post.map toR) lev out (pre.length : Int)) (out ++ (post.filter (fun p => p.2 == lev)).map toR)
  | [], pre, out, hl, ho => by
    refine Ev.step (f := fun _ => some out) (fun k => ?_) (by rw [List.filter_nil, List.map_nil, List.append_nil]; exact Ev.now _)
    simp only [signalbenchref48_to.l0]
    rw [if_neg (by simp)]
  | x :: post, pre, out, hl, ho => by
    rw [List.map_cons] at hl ⊢
    simp only [List.length_cons] at ho
    have hlt := midg_lt pre (post.map toR) (toR x)
    have hn : pre.length ≤ 9223372036854775806 := by
      simp only [List.length_append, List.length_cons] at hl
      omega
    by_cases c : x.2 = lev
    · have ih := ref_to_l0 lev post (pre ++ [toR x]) (out ++ [toR x]) (by simpa using hl) (by simp only [List.length_append, List.length_cons, List.length_nil]; omega)
      rw [← mid_snoc pre (post.map toR) (toR x)] at ih
      rw [List.filter_cons_of_pos (by simpa using c), List.map_cons, mid_snoc out _ (toR x)]
      refine Ev.step (fun k => ?_) ih
      simp only [signalbenchref48_to.l0]
      have c' : (toR x).f1 = lev := c
      rw [rdR_mid, if_pos hlt, if_pos (by omega), if_pos c', if_pos (by omega), succ_mid pre (toR x) hn]
    · have ih := ref_to_l0 lev post (pre ++ [toR x]) out (by simpa using hl) (by omega)
      rw [← mid_snoc pre (post.map toR) (toR x)] at ih
      rw [List.filter_cons_of_neg (by simpa using c)]
      refine Ev.step (fun k => ?_) ih
      simp only [signalbenchref48_to.l0]
      have c' : ¬ (toR x).f1 = lev := c
      rw [rdR_mid, if_pos hlt, if_pos (by omega), if_neg c', succ_mid pre (toR x) hn]
theorem ref_to_ev {lev : Int} {cs : List (Int × Int)} (h2 : cs.length ≤ 262144) : Ev (fun k => signalbenchref48_to.f k (cs.map toR) lev) ((cs.filter (fun p => p.2 == lev)).map toR) :=
  Ev.congr (fun k => rfl) (ref_to_l0 lev cs [] [] (by simpa using h2) (by simpa using h2))
def prd : List Int → List S36
  | a :: b :: r => ⟨a, b - a⟩ :: prd (b :: r)
  | _ => []
theorem prd_one (a : Int) : prd [a] = [] := rfl
theorem measure_Periods_l0 : ∀ (post q : List Int) (a : Int) (out : List S36), (∀ e ∈ a :: post, 0 ≤ e ∧ e ≤ 1099511627776) → ((q ++ [a]) ++ post).length ≤ 262144 → out.length + post.length ≤ 262144 →
    Ev (fun k => measure_Periods.l0 k out ((q ++ [a]) ++ post) ((q ++ [a]).length : Int)) (out ++ prd (a :: post))
  | [], q, a, out, hb, hl, ho => by
    refine Ev.step (f := fun _ => some out) (fun k => ?_) (by rw [prd_one, List.append_nil]; exact Ev.now _)
    simp only [measure_Periods.l0]
    rw [if_neg (by simp)]
  | b :: post, q, a, out, hb, hl, ho => by
    simp only [List.length_cons] at ho
    have h1 := hb a (by simp)
    have h2 := hb b (by simp)
    have hlt := midg_lt (q ++ [a]) post b
    have hn : (q ++ [a]).length ≤ 9223372036854775806 := by
      simp only [List.length_append, List.length_cons] at hl ⊢
      omega
    have hq : q.length ≤ 9223372036854775806 := by
      simp only [List.length_append, List.length_cons] at hn
      omega
    have e1 : wrap64 (((q ++ [a]).length : Int) - 1) = (q.length : Int) := by
      rw [w64 (by simp only [List.length_append, List.length_cons, List.length_nil]; omega) (by omega)]
      simp
    have e2 : rd ((q ++ [a]) ++ b :: post) (q.length : Int) = a := by
      rw [← mid_snoc]
      exact rdi_mid q _ a
    have e3 : (q.length : Int) < (((q ++ [a]) ++ b :: post).length : Int) := by
      rw [← mid_snoc]
      exact midg_lt q _ a
    have ih := measure_Periods_l0 post (q ++ [a]) b (out ++ [⟨a, b - a⟩]) (fun e he => hb e (List.mem_cons_of_mem _ he)) (by simpa using hl) (by simp only [List.length_append, List.length_cons, List.length_nil]; omega)
    rw [← mid_snoc (q ++ [a]) post b] at ih
    rw [prd, mid_snoc out _ (⟨a, b - a⟩ : S36)]
    refine Ev.step (fun k => ?_) ih
    simp only [measure_Periods.l0]
    rw [if_pos hlt, e1, if_pos (by omega), if_pos e3, if_pos (by omega), if_pos (by omega), e2, rdi_mid, w64 (x := b - a) (by omega) (by omega), succ_mid (q ++ [a]) b hn]
theorem risesV_bound {l : List S50} {b : Bool} : ∀ e ∈ risesV l b, 0 ≤ e ∧ e ≤ 1099511627776 := by
  intro e he
  obtain ⟨c, hc, rfl⟩ := List.mem_map.1 he
  have := chsV_bound c (List.mem_filter.1 hc).1
  omega
theorem risesV_len (l : List S50) (b : Bool) : (risesV l b).length ≤ 262144 := by
  unfold risesV
  rw [List.length_map]
  exact Nat.le_trans (List.length_filter_le _ _) (chsV_len2 l)
theorem measure_Periods_ev {l : List S50} (hw : RunsWf l) (hl : l.length ≤ 140737488351232) : Ev (fun k => measure_Periods.f k l) (prd (risesV l true)) := by
  refine Ev.bind (measure_rises_ev hw hl) ?_
  have h1 := risesV_bound (l := l) (b := true)
  have h2 := risesV_len l true
  generalize risesV l true = r at h1 h2
  cases r with
  | nil =>
    refine Ev.step (f := fun _ => some []) (fun k => ?_) (Ev.now _)
    simp only [measure_Periods.l0]
    rw [if_neg (by simp)]
  | cons a r =>
    simp only [List.length_cons] at h2
    exact measure_Periods_l0 r [] a [] h1 (by simp only [List.length_append, List.length_cons, List.length_nil]; omega) (by simp only [List.length_nil]; omega)
theorem ref_Periods_l0 : ∀ (post q : List S57) (a : S57) (out : List S36), (∀ e ∈ a :: post, 0 ≤ e.f0 ∧ e.f0 ≤ 1099511627776) → ((q ++ [a]) ++ post).length ≤ 262144 → out.length + post.length ≤ 262144 →
    Ev (fun k => signalbenchref48_Periods.l0 k out ((q ++ [a]) ++ post) ((q ++ [a]).length : Int)) (out ++ prd ((a :: post).map (·.f0)))
  | [], q, a, out, hb, hl, ho => by
    refine Ev.step (f := fun _ => some out) (fun k => ?_) (by rw [show ([a] : List _).map (·.f0) = [a.f0] from rfl, prd_one, List.append_nil]; exact Ev.now _)
    simp only [signalbenchref48_Periods.l0]
    rw [if_neg (by simp)]
  | b :: post, q, a, out, hb, hl, ho => by
    simp only [List.length_cons] at ho
    have h1 := hb a (by simp)
    have h2 := hb b (by simp)
    have hlt := midg_lt (q ++ [a]) post b
    have hn : (q ++ [a]).length ≤ 9223372036854775806 := by
      simp only [List.length_append, List.length_cons] at hl ⊢
      omega
    have hq : q.length ≤ 9223372036854775806 := by
      simp only [List.length_append, List.length_cons] at hn
      omega
    have e1 : wrap64 (((q ++ [a]).length : Int) - 1) = (q.length : Int) := by
      rw [w64 (by simp only [List.length_append, List.length_cons, List.length_nil]; omega) (by omega)]
      simp
    have e2 : rd_T57 ((q ++ [a]) ++ b :: post) (q.length : Int) = a := by
      rw [← mid_snoc]
      exact rdR_mid q _ a
    have e3 : (q.length : Int) < (((q ++ [a]) ++ b :: post).length : Int) := by
      rw [← mid_snoc]
      exact midg_lt q _ a
    have ih := ref_Periods_l0 post (q ++ [a]) b (out ++ [⟨a.f0, b.f0 - a.f0⟩]) (fun e he => hb e (List.mem_cons_of_mem _ he)) (by simpa using hl) (by simp only [List.length_append, List.length_cons, List.length_nil]; omega)
    rw [← mid_snoc (q ++ [a]) post b] at ih
    simp only [List.map_cons] at ih ⊢
    rw [prd, mid_snoc out _ (⟨a.f0, b.f0 - a.f0⟩ : S36)]
    refine Ev.step (fun k => ?_) ih
    simp only [signalbenchref48_Periods.l0]
    rw [if_pos hlt, e1, if_pos (by omega), if_pos e3, if_pos (by omega), if_pos (by omega), e2, rdR_mid, w64 (x := b.f0 - a.f0) (by omega) (by omega), succ_mid (q ++ [a]) b hn]
theorem map_toR (cs : List (Int × Int)) : (cs.map toR).map (·.f0) = cs.map (·.1) := by
  rw [List.map_map]
  rfl
theorem filter_one (cs : List (Int × Int)) : cs.filter (fun p => (p.2 == 1) == true) = cs.filter (fun p => p.2 == 1) := by
  congr 1
  funext p
  cases (p.2 == 1) <;> rfl
theorem ref_Periods_ev {l : List S50} (hw : RunsWf l) (hl : l.length ≤ 140737488351232) : Ev (fun k => signalbenchref48_Periods.f k l) (prd (risesV l true)) := by
  refine Ev.bind (ref_changes_ev hw hl) (Ev.bind (ref_to_ev (chsV_len2 l)) ?_)
  have h1 := risesV_bound (l := l) (b := true)
  have h2 := risesV_len l true
  unfold risesV at h1 h2 ⊢
  rw [filter_one] at h1 h2 ⊢
  generalize (chsV l).filter (fun p => p.2 == 1) = r at h1 h2
  rw [List.length_map] at h2
  cases r with
  | nil =>
    refine Ev.step (f := fun _ => some []) (fun k => ?_) (Ev.now _)
    simp only [signalbenchref48_Periods.l0]
    rw [if_neg (by simp)]
  | cons a r =>
    simp only [List.length_cons] at h2
    have h := ref_Periods_l0 (r.map toR) [] (toR a) [] (fun e he => by
      have : e ∈ (a :: r).map toR := he
      obtain ⟨c, hc, rfl⟩ := List.mem_map.1 this
      exact h1 c.1 (List.mem_map.2 ⟨c, hc, rfl⟩)) (by simp only [List.length_append, List.length_cons, List.length_nil, List.length_map]; omega) (by simp only [List.length_nil, List.length_map]; omega)
    have e : ((toR a :: r.map toR).map (·.f0)) = (a :: r).map (·.1) := map_toR (a :: r)
    rw [e] at h
    exact h
theorem ratio_common_ev : ∀ (b a : Nat), Ev (fun k => ratio_common.f k (a : Int) (b : Int)) ((Nat.gcd a b : Nat) : Int) := by
  intro b
  induction b using Nat.strongRecOn with
  | _ b ih =>
    intro a
    refine Ev.congr (f := fun k => ratio_common.l0 k (a : Int) (b : Int)) (fun k => rfl) ?_
    by_cases c : b = 0
    · subst c
      rw [Nat.gcd_zero_right]
      refine Ev.step (f := fun _ => some (a : Int)) (fun k => ?_) (Ev.now _)
      simp only [ratio_common.l0]
      rw [if_pos (by omega)]
    · have h := ih (a % b) (Nat.mod_lt _ (by omega)) b
      rw [show Nat.gcd a b = Nat.gcd b (a % b) by rw [Nat.gcd_comm a b, Nat.gcd_rec b a, Nat.gcd_comm]]
      refine Ev.step (fun k => ?_) h
      simp only [ratio_common.l0]
      rw [if_neg (by omega)]
      rfl
theorem ref_gcd_ev : ∀ (b a : Nat), Ev (fun k => signalbenchref01_gcd.f k (a : Int) (b : Int)) ((Nat.gcd a b : Nat) : Int) := by
  intro b
  induction b using Nat.strongRecOn with
  | _ b ih =>
    intro a
    by_cases c : b = 0
    · subst c
      rw [Nat.gcd_zero_right]
      refine Ev.step (f := fun _ => some (a : Int)) (fun k => ?_) (Ev.now _)
      simp only [signalbenchref01_gcd.f]
      rw [if_pos (by omega)]
    · have h := ih (a % b) (Nat.mod_lt _ (by omega)) b
      rw [show Nat.gcd a b = Nat.gcd b (a % b) by rw [Nat.gcd_comm a b, Nat.gcd_rec b a, Nat.gcd_comm]]
      refine Ev.step (f := fun k => (signalbenchref01_gcd.f k (b : Int) (((a % b : Nat)) : Int)).bind fun t => some t) (fun k => ?_) (Ev.bind h (Ev.now _))
      simp only [signalbenchref01_gcd.f]
      rw [if_neg (by omega)]
      rfl
theorem size_abs {n : Int} (h : (Lit.int .i64 n).wf = true) : (if n < 0 then (some (IntKind.u64.wrap ((IntKind.u64.wrap (wrap64 (-(wrap64 (n + 1))))) + 1))) else (some (IntKind.u64.wrap n))) = some ((n.natAbs : Nat) : Int) := by
  have hw := wf64 h
  by_cases c : n < 0
  · rw [if_pos c, w64 (x := n + 1) (by omega) (by omega), w64 (by omega) (by omega), IntKind.wrap_u64, IntKind.wrap_u64]
    congr 1
    omega
  · rw [if_neg c, IntKind.wrap_u64]
    congr 1
    omega
def mkV (n d : Int) : Int × Int × Int :=
  if d = 0 then (0, 0, 1) else if n = 0 then (0, 1, 0) else
    if 1073741824 < n.natAbs / Nat.gcd n.natAbs d.natAbs ∨ 1073741824 < d.natAbs / Nat.gcd n.natAbs d.natAbs then (0, 0, 3)
    else ((if (decide (n < 0) != decide (d < 0)) = true then -((n.natAbs / Nat.gcd n.natAbs d.natAbs : Nat) : Int) else ((n.natAbs / Nat.gcd n.natAbs d.natAbs : Nat) : Int)), ((d.natAbs / Nat.gcd n.natAbs d.natAbs : Nat) : Int), 0)
theorem tdiv_nat (a g : Nat) (h : a ≤ 9223372036854775808) : IntKind.u64.wrap (Int.tdiv (a : Int) (g : Int)) = ((a / g : Nat) : Int) := by
  have h1 : Int.tdiv (a : Int) (g : Int) = ((a / g : Nat) : Int) := rfl
  have h2 : a / g ≤ a := Nat.div_le_self a g
  rw [h1, IntKind.wrap_u64]
  generalize a / g = q at h2
  omega
theorem abs_le {n : Int} (h : (Lit.int .i64 n).wf = true) : n.natAbs ≤ 9223372036854775808 := by
  have := wf64 h
  omega
theorem ratio_Make_ev {n d : Int} (hn : (Lit.int .i64 n).wf = true) (hd : (Lit.int .i64 d).wf = true) : Ev (fun k => ratio_Make.f k n d) (mkV n d) := by
  unfold mkV
  by_cases c : d = 0
  · rw [if_pos c]
    refine Ev.congr (fun k => ?_) (Ev.now _)
    unfold ratio_Make.f
    rw [if_pos c]
  · rw [if_neg c]
    by_cases c1 : n = 0
    · rw [if_pos c1]
      refine Ev.congr (fun k => ?_) (Ev.now _)
      unfold ratio_Make.f
      rw [if_neg c, if_pos c1]
      rfl
    · rw [if_neg c1]
      have hg : 0 < Nat.gcd n.natAbs d.natAbs := Nat.gcd_pos_of_pos_left _ (by omega)
      have e1 : ratio_size.f n = some ((n.natAbs : Nat) : Int) := size_abs hn
      have e2 : ratio_size.f d = some ((d.natAbs : Nat) : Int) := size_abs hd
      refine Ev.congr (f := fun k => (ratio_common.f k ((n.natAbs : Nat) : Int) ((d.natAbs : Nat) : Int)).bind fun t148 => (if t148 = 0 then (none) else (if (IntKind.u64.wrap (Int.tdiv ((n.natAbs : Nat) : Int) t148)) > 1073741824 then (ratio_Make.j0 k n d (IntKind.u64.wrap (Int.tdiv ((n.natAbs : Nat) : Int) t148)) (IntKind.u64.wrap (Int.tdiv ((d.natAbs : Nat) : Int) t148)) true) else (ratio_Make.j0 k n d (IntKind.u64.wrap (Int.tdiv ((n.natAbs : Nat) : Int) t148)) (IntKind.u64.wrap (Int.tdiv ((d.natAbs : Nat) : Int) t148)) (decide ((IntKind.u64.wrap (Int.tdiv ((d.natAbs : Nat) : Int) t148)) > 1073741824)))))) (fun k => ?_) (Ev.bind (ratio_common_ev d.natAbs n.natAbs) ?_)
      · unfold ratio_Make.f
        rw [if_neg c, if_neg c1, e1, e2]
        rfl
      · simp only [tdiv_nat _ _ (abs_le hn), tdiv_nat _ _ (abs_le hd)]
        refine Ev.congr (fun k => if_neg (by omega)) ?_
        have ha : n.natAbs / Nat.gcd n.natAbs d.natAbs ≤ n.natAbs := Nat.div_le_self _ _
        have hb : d.natAbs / Nat.gcd n.natAbs d.natAbs ≤ d.natAbs := Nat.div_le_self _ _
        generalize n.natAbs / Nat.gcd n.natAbs d.natAbs = a at ha
        generalize d.natAbs / Nat.gcd n.natAbs d.natAbs = b at hb
        have stop : Ev (fun k => ratio_Make.j0 k n d (a : Int) (b : Int) true) (0, 0, 3) := Ev.step (f := fun _ => some (0, 0, 3)) (fun k => by
          simp only [ratio_Make.j0]
          rw [if_pos trivial]) (Ev.now _)
        by_cases c2 : 1073741824 < a
        · rw [if_pos (Or.inl c2)]
          exact Ev.congr (fun k => if_pos (by omega)) stop
        · refine Ev.congr (fun k => if_neg (by omega)) ?_
          by_cases c3 : 1073741824 < b
          · rw [if_pos (Or.inr c3), decide_eq_true (by omega)]
            exact stop
          · rw [if_neg (by omega), decide_eq_false (by omega)]
            refine Ev.step (f := fun _ => some (if (decide (n < 0) != decide (d < 0)) = true then -(a : Int) else (a : Int), (b : Int), 0)) (fun k => ?_) (Ev.now _)
            simp only [ratio_Make.j0]
            rw [if_neg (by simp), w64 (x := (a : Int)) (by omega) (by omega), w64 (x := (b : Int)) (by omega) (by omega), w64 (x := -(a : Int)) (by omega) (by omega)]
            split <;> rfl
theorem ref_Make_ev {n d : Int} (hn : (Lit.int .i64 n).wf = true) (hd : (Lit.int .i64 d).wf = true) : Ev (fun k => signalbenchref01_Make.f k n d) (mkV n d) := by
  unfold mkV
  by_cases c : d = 0
  · rw [if_pos c]
    refine Ev.congr (fun k => ?_) (Ev.now _)
    unfold signalbenchref01_Make.f
    rw [if_pos c]
  · rw [if_neg c]
    have hg : 0 < Nat.gcd n.natAbs d.natAbs := Nat.gcd_pos_of_pos_right _ (by omega)
    have e1 : signalbenchref01_size.f n = some ((n.natAbs : Nat) : Int) := size_abs hn
    have e2 : signalbenchref01_size.f d = some ((d.natAbs : Nat) : Int) := size_abs hd
    refine Ev.congr (f := fun k => (signalbenchref01_gcd.f k ((n.natAbs : Nat) : Int) ((d.natAbs : Nat) : Int)).bind fun t223 => (if t223 = 0 then (none) else (if (IntKind.u64.wrap (Int.tdiv ((n.natAbs : Nat) : Int) t223)) > 1073741824 then (signalbenchref01_Make.j0 k n d ((n.natAbs : Nat) : Int) ((d.natAbs : Nat) : Int) t223 true) else (signalbenchref01_Make.j0 k n d ((n.natAbs : Nat) : Int) ((d.natAbs : Nat) : Int) t223 (decide ((IntKind.u64.wrap (Int.tdiv ((d.natAbs : Nat) : Int) t223)) > 1073741824)))))) (fun k => ?_) (Ev.bind (ref_gcd_ev d.natAbs n.natAbs) ?_)
    · unfold signalbenchref01_Make.f
      rw [if_neg c, e1, e2]
      rfl
    · simp only [tdiv_nat _ _ (abs_le hn), tdiv_nat _ _ (abs_le hd)]
      refine Ev.congr (fun k => if_neg (by omega)) ?_
      have stop : Ev (fun k => signalbenchref01_Make.j0 k n d ((n.natAbs : Nat) : Int) ((d.natAbs : Nat) : Int) ((Nat.gcd n.natAbs d.natAbs : Nat) : Int) true) (0, 0, 3) := Ev.step (f := fun _ => some (0, 0, 3)) (fun k => by
        simp only [signalbenchref01_Make.j0]
        rw [if_pos trivial]) (Ev.now _)
      have go : ¬ (1073741824 < n.natAbs / Nat.gcd n.natAbs d.natAbs) → ¬ (1073741824 < d.natAbs / Nat.gcd n.natAbs d.natAbs) → Ev (fun k => signalbenchref01_Make.j0 k n d ((n.natAbs : Nat) : Int) ((d.natAbs : Nat) : Int) ((Nat.gcd n.natAbs d.natAbs : Nat) : Int) false) (if (decide (n < 0) != decide (d < 0)) = true then -((n.natAbs / Nat.gcd n.natAbs d.natAbs : Nat) : Int) else ((n.natAbs / Nat.gcd n.natAbs d.natAbs : Nat) : Int), ((d.natAbs / Nat.gcd n.natAbs d.natAbs : Nat) : Int), 0) := by
        intro c2 c3
        refine Ev.step (f := fun _ => some (if (decide (n < 0) != decide (d < 0)) = true then -((n.natAbs / Nat.gcd n.natAbs d.natAbs : Nat) : Int) else ((n.natAbs / Nat.gcd n.natAbs d.natAbs : Nat) : Int), ((d.natAbs / Nat.gcd n.natAbs d.natAbs : Nat) : Int), 0)) (fun k => ?_) (Ev.now _)
        simp only [signalbenchref01_Make.j0]
        rw [if_neg (by simp), if_neg (by omega), tdiv_nat _ _ (abs_le hn), tdiv_nat _ _ (abs_le hd)]
        generalize n.natAbs / Nat.gcd n.natAbs d.natAbs = a at c2
        generalize d.natAbs / Nat.gcd n.natAbs d.natAbs = b at c3
        rw [w64 (x := (a : Int)) (by omega) (by omega), w64 (x := (b : Int)) (by omega) (by omega), w64 (x := -(a : Int)) (by omega) (by omega)]
        split <;> rfl
      by_cases c1 : n = 0
      · rw [if_pos c1]
        have eb : Nat.gcd n.natAbs d.natAbs = d.natAbs := by
          rw [c1]
          exact Nat.gcd_zero_left _
        have ea : n.natAbs / Nat.gcd n.natAbs d.natAbs = 0 := by
          rw [c1]
          simp
        have eb2 : d.natAbs / Nat.gcd n.natAbs d.natAbs = 1 := by
          rw [eb]
          exact Nat.div_self (by omega)
        have h := go (by omega) (by omega)
        rw [ea, eb2] at h
        refine Ev.congr (fun k => if_neg (by omega)) ?_
        rw [eb2, decide_eq_false (by omega)]
        have e3 : ((if (decide (n < 0) != decide (d < 0)) = true then -((0 : Nat) : Int) else ((0 : Nat) : Int), ((1 : Nat) : Int), (0 : Int)) : Int × Int × Int) = (0, 1, 0) := by
          split <;> rfl
        rw [e3] at h
        exact h
      · rw [if_neg c1]
        by_cases c2 : 1073741824 < n.natAbs / Nat.gcd n.natAbs d.natAbs
        · rw [if_pos (Or.inl c2)]
          exact Ev.congr (fun k => if_pos (by omega)) stop
        · refine Ev.congr (fun k => if_neg (by omega)) ?_
          by_cases c3 : 1073741824 < d.natAbs / Nat.gcd n.natAbs d.natAbs
          · rw [if_pos (Or.inr c3), decide_eq_true (by omega)]
            exact stop
          · rw [if_neg (fun h => h.elim c2 c3), decide_eq_false (by omega)]
            exact go c2 c3
def pls (lev : Int) : List (Int × Int) → List S36
  | a :: b :: r => if a.2 = lev then ⟨a.1, b.1 - a.1⟩ :: pls lev (b :: r) else pls lev (b :: r)
  | _ => []
theorem pls_one (lev : Int) (a : Int × Int) : pls lev [a] = [] := rfl
theorem pls_nil (lev : Int) : pls lev [] = [] := rfl
theorem measure_Pulses_l0 (lev : Int) (c : List S50) : ∀ (post pre : List S50) (out : List S36) (at_ : Int), c = pre ++ post → 0 < pre.length → 0 ≤ at_ → at_ + sm post ≤ 1099511627776 → RunsOk post → c.length ≤ 262144 → out.length + post.length ≤ 262144 →
    Ev (fun k => measure_Pulses.l0 k lev out c at_ c (c.length : Int) (pre.length : Int)) (out ++ pls lev (chL at_ post))
  | [], pre, out, at_, hc, hp, h0, h1, hw, hl, ho => by
    refine Ev.step (f := fun _ => some out) (fun k => ?_) (by rw [chL, pls_nil, List.append_nil]; exact Ev.now _)
    simp only [measure_Pulses.l0]
    rw [if_neg (by rw [hc]; simp)]
  | x :: post, pre, out, at_, hc, hp, h0, h1, hw, hl, ho => by
    have hx := hw.cons
    have hs := sm_nonneg hx.2
    simp only [sm] at h1
    simp only [List.length_cons] at ho
    have hlt : (pre.length : Int) < (c.length : Int) := by
      rw [hc]
      exact mid_lt pre post x
    have hr : rd_T50 c (pre.length : Int) = x := by
      rw [hc]
      exact rd_mid pre post x
    have hlen : c.length = pre.length + post.length + 1 := by
      rw [hc]
      simp only [List.length_append, List.length_cons]
      omega
    have hn : pre.length ≤ 9223372036854775806 := by omega
    have e1 : wrap64 ((c.length : Int) - 1) = (c.length : Int) - 1 := w64 (by omega) (by omega)
    have es : wrap64 ((pre.length : Int) + 1) = ((pre ++ [x]).length : Int) := succ_mid pre x hn
    cases post with
    | nil =>
      have ih := measure_Pulses_l0 lev c [] (pre ++ [x]) out (at_ + x.f1) (by rw [hc]; simp) (by simp) (by omega) (by omega) hx.2 hl (by simp only [List.length_nil]; omega)
      have e2 : pls lev (chL at_ [x]) = pls lev (chL (at_ + x.f1) []) := rfl
      rw [e2]
      refine Ev.step (fun k => ?_) ih
      simp only [measure_Pulses.l0]
      simp only [List.length_nil] at hlen
      rw [hr, if_pos hlt, if_pos (by omega), if_pos hlt, if_pos (by omega), e1, if_neg (by omega), w64 (x := at_ + x.f1) (by omega) (by omega), es]
    | cons y post =>
      simp only [List.length_cons] at hlen ho
      by_cases c1 : x.f0 = lev
      · have ih := measure_Pulses_l0 lev c (y :: post) (pre ++ [x]) (out ++ [⟨at_, x.f1⟩]) (at_ + x.f1) (by rw [hc]; simp) (by simp) (by omega) (by omega) hx.2 hl (by simp only [List.length_append, List.length_cons, List.length_nil]; omega)
        have e2 : pls lev (chL at_ (x :: y :: post)) = (⟨at_, x.f1⟩ : S36) :: pls lev (chL (at_ + x.f1) (y :: post)) := by
          simp only [chL, pls]
          rw [if_pos c1, show at_ + x.f1 - at_ = x.f1 by omega]
        rw [e2, mid_snoc out _ (⟨at_, x.f1⟩ : S36)]
        refine Ev.step (fun k => ?_) ih
        simp only [measure_Pulses.l0]
        rw [hr, if_pos hlt, if_pos (by omega), if_pos hlt, if_pos (by omega), e1, if_pos (by omega), if_pos c1, if_pos (by omega), w64 (x := at_ + x.f1) (by omega) (by omega), es]
      · have ih := measure_Pulses_l0 lev c (y :: post) (pre ++ [x]) out (at_ + x.f1) (by rw [hc]; simp) (by simp) (by omega) (by omega) hx.2 hl (by simp only [List.length_cons]; omega)
        have e2 : pls lev (chL at_ (x :: y :: post)) = pls lev (chL (at_ + x.f1) (y :: post)) := by
          simp only [chL, pls]
          rw [if_neg c1]
        rw [e2]
        refine Ev.step (fun k => ?_) ih
        simp only [measure_Pulses.l0]
        rw [hr, if_pos hlt, if_pos (by omega), if_pos hlt, if_pos (by omega), e1, if_pos (by omega), if_neg c1, w64 (x := at_ + x.f1) (by omega) (by omega), es]
theorem clean_facts (l : List S50) : RunsOk (cleanV l) ∧ sm (cleanV l) ≤ 1099511627776 ∧ (cleanV l).length ≤ 262144 := by
  unfold cleanV
  split
  · rename_i v
    have := vld_iff.1 (jn_vld v)
    exact ⟨this.2.1, this.2.2, this.1⟩
  · exact ⟨fun x hx => by simp at hx, by simp [sm], by simp⟩
theorem measure_Pulses_ev {l : List S50} {lev : Int} (hw : RunsWf l) (hl : l.length ≤ 140737488351232) : Ev (fun k => measure_Pulses.f k l lev) (pls lev (chsV l)) := by
  refine Ev.bind (wave_Clean_ev hw hl) ?_
  rw [← chT_clean]
  have hc := clean_facts l
  generalize cleanV l = c at hc
  cases c with
  | nil =>
    refine Ev.step (f := fun _ => some []) (fun k => ?_) (Ev.now _)
    simp only [measure_Pulses.l0]
    rw [if_neg (by simp)]
  | cons x c =>
    have hx := hc.1.cons
    have hs := sm_nonneg hx.2
    have h2 := hc.2.1
    have h3 := hc.2.2
    simp only [sm] at h2
    simp only [List.length_cons] at h3
    have h := measure_Pulses_l0 lev (x :: c) c [x] [] x.f1 rfl (by simp) (by omega) (by omega) hx.2 hc.2.2 (by simp only [List.length_nil]; omega)
    refine Ev.step (fun k => ?_) h
    simp only [measure_Pulses.l0]
    rw [rd_zero, if_pos (by simp only [List.length_cons]; omega), if_pos (by omega), if_pos (by simp only [List.length_cons]; omega), if_neg (by omega), w64 (x := 0 + x.f1) (by omega) (by omega), Int.zero_add, wrap01]
    rfl
theorem ref_Pulses_l0 (lev : Int) : ∀ (post : List (Int × Int)) (q : List S57) (a : Int × Int) (out : List S36), (∀ e ∈ a :: post, 0 ≤ e.1 ∧ e.1 ≤ 1099511627776) → ((q ++ [toR a]) ++ post.map toR).length ≤ 262144 → out.length + post.length ≤ 262144 →
    Ev (fun k => signalbenchref48_Pulses.l0 k lev out ((q ++ [toR a]) ++ post.map toR) ((q ++ [toR a]).length : Int)) (out ++ pls lev (a :: post))
  | [], q, a, out, hb, hl, ho => by
    refine Ev.step (f := fun _ => some out) (fun k => ?_) (by rw [pls_one, List.append_nil]; exact Ev.now _)
    simp only [signalbenchref48_Pulses.l0]
    rw [if_neg (by simp)]
  | b :: post, q, a, out, hb, hl, ho => by
    simp only [List.length_cons] at ho
    have h1 := hb a (by simp)
    have h2 := hb b (by simp)
    rw [List.map_cons] at hl ⊢
    have hlt := midg_lt (q ++ [toR a]) (post.map toR) (toR b)
    have hn : (q ++ [toR a]).length ≤ 9223372036854775806 := by
      simp only [List.length_append, List.length_cons] at hl ⊢
      omega
    have hq : q.length ≤ 9223372036854775806 := by
      simp only [List.length_append, List.length_cons] at hn
      omega
    have e1 : wrap64 (((q ++ [toR a]).length : Int) - 1) = (q.length : Int) := by
      rw [w64 (by simp only [List.length_append, List.length_cons, List.length_nil]; omega) (by omega)]
      simp
    have e2 : rd_T57 ((q ++ [toR a]) ++ toR b :: post.map toR) (q.length : Int) = toR a := by
      rw [← mid_snoc]
      exact rdR_mid q _ _
    have e3 : (q.length : Int) < (((q ++ [toR a]) ++ toR b :: post.map toR).length : Int) := by
      rw [← mid_snoc]
      exact midg_lt q _ _
    have e5 : wrap64 ((toR b).f0 - (toR a).f0) = b.1 - a.1 := w64 (by simp only [toR]; omega) (by simp only [toR]; omega)
    by_cases c1 : a.2 = lev
    · have ih := ref_Pulses_l0 lev post (q ++ [toR a]) b (out ++ [⟨a.1, b.1 - a.1⟩]) (fun e he => hb e (List.mem_cons_of_mem _ he)) (by simpa using hl) (by simp only [List.length_append, List.length_cons, List.length_nil]; omega)
      rw [← mid_snoc (q ++ [toR a]) (post.map toR) (toR b)] at ih
      rw [pls, if_pos c1, mid_snoc out _ (⟨a.1, b.1 - a.1⟩ : S36)]
      refine Ev.step (fun k => ?_) ih
      simp only [signalbenchref48_Pulses.l0]
      have c1' : (toR a).f1 = lev := c1
      rw [if_pos hlt, e1, if_pos (by omega), if_pos e3, e2, if_pos c1', if_pos (by omega), if_pos (by omega), rdR_mid, e5, succ_mid (q ++ [toR a]) (toR b) hn]
      rfl
    · have ih := ref_Pulses_l0 lev post (q ++ [toR a]) b out (fun e he => hb e (List.mem_cons_of_mem _ he)) (by simpa using hl) (by omega)
      rw [← mid_snoc (q ++ [toR a]) (post.map toR) (toR b)] at ih
      rw [pls, if_neg c1]
      refine Ev.step (fun k => ?_) ih
      simp only [signalbenchref48_Pulses.l0]
      have c1' : ¬ (toR a).f1 = lev := c1
      rw [if_pos hlt, e1, if_pos (by omega), if_pos e3, e2, if_neg c1', succ_mid (q ++ [toR a]) (toR b) hn]
theorem ref_Pulses_ev {l : List S50} {lev : Int} (hw : RunsWf l) (hl : l.length ≤ 140737488351232) : Ev (fun k => signalbenchref48_Pulses.f k l lev) (pls lev (chsV l)) := by
  refine Ev.bind (ref_changes_ev hw hl) ?_
  have h1 := chsV_bound (l := l)
  have h2 := chsV_len2 l
  generalize chsV l = r at h1 h2
  cases r with
  | nil =>
    refine Ev.step (f := fun _ => some []) (fun k => ?_) (Ev.now _)
    simp only [signalbenchref48_Pulses.l0]
    rw [if_neg (by simp)]
  | cons a r =>
    simp only [List.length_cons] at h2
    exact ref_Pulses_l0 lev r [] a [] (fun e he => by have := h1 e he; omega) (by simp only [List.length_append, List.length_cons, List.length_nil, List.length_map]; omega) (by simp only [List.length_nil]; omega)
theorem pls_len (lev : Int) : ∀ (cs : List (Int × Int)), (pls lev cs).length ≤ cs.length
  | [] => by simp [pls]
  | [a] => by simp [pls]
  | a :: b :: r => by
    have := pls_len lev (b :: r)
    rw [pls]
    split <;> simp only [List.length_cons] at this ⊢ <;> omega
theorem law_same_l0 : ∀ (post pre : List S36), (pre ++ post).length ≤ 140737488351232 → Ev (fun k => signalbenchlaw48_same.l0 k (pre ++ post) (pre ++ post) (pre.length : Int)) true
  | [], pre, hl => by
    refine Ev.step (f := fun _ => some true) (fun k => ?_) (Ev.now _)
    simp only [signalbenchlaw48_same.l0]
    rw [if_neg (by simp)]
  | x :: post, pre, hl => by
    have hlt := midg_lt pre post x
    have hn : pre.length ≤ 9223372036854775806 := by
      simp only [List.length_append, List.length_cons] at hl
      omega
    have ih := law_same_l0 post (pre ++ [x]) (by simpa using hl)
    rw [← mid_snoc pre post x] at ih
    refine Ev.step (fun k => ?_) ih
    simp only [signalbenchlaw48_same.l0]
    rw [if_pos hlt, if_pos (by omega), if_pos hlt, if_neg (by simp), succ_mid pre x hn]
theorem law_same_ev (l : List S36) (hl : l.length ≤ 140737488351232) : Ev (fun k => signalbenchlaw48_same.f k l l) true := by
  refine Ev.congr (fun k => ?_) (law_same_l0 l [] (by simpa using hl))
  unfold signalbenchlaw48_same.f
  rw [if_pos rfl]
  rfl
theorem chF_sorted : ∀ {l : List S50} {p at_ : Int}, RunsOk l → (chF p at_ l).Pairwise (fun a b => a.1 < b.1)
  | [], p, at_, h => List.Pairwise.nil
  | x :: l, p, at_, h => by
    have hx := h.cons
    have ih := chF_sorted (l := l) (p := x.f0) (at_ := at_ + x.f1) hx.2
    unfold chF
    split
    · exact ih
    · refine List.Pairwise.cons (fun c hc => ?_) ih
      have := chF_bound hx.2 c hc
      simp only
      omega
theorem chsV_sorted (l : List S50) : (chsV l).Pairwise (fun a b => a.1 < b.1) := by
  unfold chsV
  split
  · rename_i v
    cases l with
    | nil => exact List.Pairwise.nil
    | cons x l => exact chF_sorted (vld_iff.1 v).2.1.cons.2
  · exact List.Pairwise.nil
def altF : Int → List (Int × Int) → Prop
  | _, [] => True
  | p, c :: cs => p ≠ c.2 ∧ altF c.2 cs
theorem chF_alt : ∀ (l : List S50) (p at_ : Int), altF p (chF p at_ l)
  | [], p, at_ => trivial
  | x :: l, p, at_ => by
    unfold chF
    split
    · rename_i c
      have := chF_alt l x.f0 (at_ + x.f1)
      rw [← c] at this ⊢
      exact this
    · rename_i c
      exact ⟨c, chF_alt l x.f0 (at_ + x.f1)⟩
def alt : List (Int × Int) → Prop
  | [] => True
  | c :: cs => altF c.2 cs
theorem chsV_alt (l : List S50) : alt (chsV l) := by
  unfold chsV
  split
  · cases l with
    | nil => trivial
    | cons x l =>
      have h := chF_alt l x.f0 x.f1
      show alt (chF x.f0 x.f1 l)
      generalize chF x.f0 x.f1 l = cs at h
      cases cs with
      | nil => trivial
      | cons c cs => exact h.2
  · trivial
def dutP (last : Int) : List S36 → Int
  | [] => 0
  | g :: r => if g.f0 < last then g.f1 + dutP last r else dutP last r
def dutR (first last : Int) : List (Int × Int) → Int
  | a :: b :: r => (if a.2 = 1 ∧ first ≤ a.1 ∧ b.1 ≤ last then b.1 - a.1 else 0) + dutR first last (b :: r)
  | _ => 0
theorem dut_eq (first last : Int) : ∀ (cs : List (Int × Int)), cs.Pairwise (fun a b => a.1 < b.1) → alt cs → (∀ c ∈ cs, c.2 = 0 ∨ c.2 = 1) → (∀ c ∈ cs, c.2 = 1 → first ≤ c.1 ∧ c.1 ≤ last) → ((∃ c ∈ cs, c.2 = 1) → ∃ c ∈ cs, c.2 = 1 ∧ c.1 = last) →
    dutP last (pls 1 cs) = dutR first last cs
  | [], _, _, _, _, _ => rfl
  | [a], _, _, _, _, _ => rfl
  | a :: b :: r, hs, ha, hv, h1, h2 => by
    have hs' := List.pairwise_cons.1 hs
    have hab := hs'.1 b (by simp)
    have ha' : alt (b :: r) := ha.2
    have h1' : ∀ c ∈ b :: r, c.2 = 1 → first ≤ c.1 ∧ c.1 ≤ last := fun c hc => h1 c (List.mem_cons_of_mem _ hc)
    have h2' : (∃ c ∈ b :: r, c.2 = 1) → ∃ c ∈ b :: r, c.2 = 1 ∧ c.1 = last := by
      rintro ⟨c, hc, hc1⟩
      obtain ⟨e, he, he1, hel⟩ := h2 ⟨c, List.mem_cons_of_mem _ hc, hc1⟩
      rcases List.mem_cons.1 he with rfl | he
      · have := hs'.1 c hc
        have := (h1' c hc hc1).2
        omega
      · exact ⟨e, he, he1, hel⟩
    have ih := dut_eq first last (b :: r) hs'.2 ha' (fun c hc => hv c (List.mem_cons_of_mem _ hc)) h1' h2'
    rw [pls, dutR]
    by_cases c1 : a.2 = 1
    · rw [if_pos c1, dutP, ih]
      have ha1 := h1 a (by simp) c1
      have hb0 : b.2 ≠ 1 := by
        have := ha.1
        omega
      have hiff : a.1 < last ↔ b.1 ≤ last := by
        constructor
        · intro hl
          obtain ⟨e, he, he1, hel⟩ := h2 ⟨a, by simp, c1⟩
          rcases List.mem_cons.1 he with rfl | he
          · omega
          · rcases List.mem_cons.1 he with rfl | he
            · exact absurd he1 hb0
            · have := (List.pairwise_cons.1 hs'.2).1 e he
              omega
        · intro hl
          omega
      by_cases c2 : a.1 < last
      · rw [if_pos c2, if_pos ⟨c1, ha1.1, hiff.1 c2⟩]
      · rw [if_neg c2, if_neg (fun h => c2 (hiff.2 h.2.2))]
        omega
    · rw [if_neg c1, if_neg (fun h => c1 h.1), ih]
      omega
theorem pls_bound {lev : Int} : ∀ {cs : List (Int × Int)}, cs.Pairwise (fun a b => a.1 < b.1) → (∀ c ∈ cs, 0 ≤ c.1 ∧ c.1 ≤ 1099511627776) → ∀ g ∈ pls lev cs, (0 ≤ g.f0 ∧ g.f0 ≤ 1099511627776) ∧ 0 ≤ g.f1 ∧ g.f1 ≤ 1099511627776
  | [], _, _, g, hg => by simp [pls] at hg
  | [a], _, _, g, hg => by simp [pls] at hg
  | a :: b :: r, hs, hb, g, hg => by
    have hs' := List.pairwise_cons.1 hs
    have hab := hs'.1 b (by simp)
    have ha := hb a (by simp)
    have hb1 := hb b (by simp)
    have ih := pls_bound (lev := lev) hs'.2 (fun c hc => hb c (List.mem_cons_of_mem _ hc))
    rw [pls] at hg
    split at hg
    · rcases List.mem_cons.1 hg with rfl | hg
      · simp only
        omega
      · exact ih g hg
    · exact ih g hg
theorem wf_small {n : Int} (h0 : -4611686018427387904 ≤ n) (h1 : n ≤ 4611686018427387904) : (Lit.int .i64 n).wf = true := by
  simp [Lit.wf, IntKind.min, IntKind.max, IntKind.bits, IntKind.signed]
  omega
theorem measure_Duty_l0 (first last : Int) (hf : 0 ≤ first) (hfb : first ≤ 1099511627776) (hl0 : 0 ≤ last) (hlb : last ≤ 1099511627776) : ∀ (post pre : List S36) (s : Int), (∀ g ∈ post, 0 ≤ g.f1 ∧ g.f1 ≤ 1099511627776) → 0 ≤ s → s + 1099511627776 * post.length ≤ 1152921504606846976 → (pre ++ post).length ≤ 262144 →
    Ev (fun k => measure_Duty.l0 k first last s (pre ++ post) ((pre ++ post).length : Int) (pre.length : Int)) (mkV (s + dutP last post) (last - first))
  | [], pre, s, hb, h0, h1, hl => by
    simp only [dutP, Int.add_zero]
    simp only [List.length_nil] at h1
    have e : wrap64 (last - first) = last - first := w64 (by omega) (by omega)
    refine Ev.step (f := fun k => (ratio_Make.f k s (last - first)).bind fun bt161 => (some (bt161.1, bt161.2.1, bt161.2.2))) (fun k => ?_) (Ev.bind (ratio_Make_ev (wf_small (by omega) (by omega)) (wf_small (by omega) (by omega))) (Ev.now _))
    simp only [measure_Duty.l0]
    rw [if_neg (by simp), e]
  | g :: post, pre, s, hb, h0, h1, hl => by
    have hg := hb g (by simp)
    simp only [List.length_cons] at h1
    have hlt := midg_lt pre post g
    have hn : pre.length ≤ 9223372036854775806 := by
      simp only [List.length_append, List.length_cons] at hl
      omega
    rw [dutP]
    by_cases c : g.f0 < last
    · have ih := measure_Duty_l0 first last hf hfb hl0 hlb post (pre ++ [g]) (s + g.f1) (fun q hq => hb q (List.mem_cons_of_mem _ hq)) (by omega) (by omega) (by simpa using hl)
      rw [← mid_snoc pre post g] at ih
      rw [if_pos c, ← Int.add_assoc]
      refine Ev.step (fun k => ?_) ih
      simp only [measure_Duty.l0]
      rw [rdG_mid, if_pos hlt, if_pos (by omega), if_pos hlt, if_pos c, w64 (x := s + g.f1) (by omega) (by omega), succ_mid pre g hn]
    · have ih := measure_Duty_l0 first last hf hfb hl0 hlb post (pre ++ [g]) s (fun q hq => hb q (List.mem_cons_of_mem _ hq)) (by omega) (by omega) (by simpa using hl)
      rw [← mid_snoc pre post g] at ih
      rw [if_neg c]
      refine Ev.step (fun k => ?_) ih
      simp only [measure_Duty.l0]
      rw [rdG_mid, if_pos hlt, if_pos (by omega), if_pos hlt, if_neg c, succ_mid pre g hn]
def dutyV (l : List S50) : Int × Int × Int :=
  if (risesV l true).length < 2 then (0, 0, 8) else mkV (dutP ((risesV l true).getD ((risesV l true).length - 1) 0) (pls 1 (chsV l))) ((risesV l true).getD ((risesV l true).length - 1) 0 - (risesV l true).getD 0 0)
theorem rd_nat (l : List Int) (i : Nat) : rd l (i : Int) = l.getD i 0 := by simp [rd]
theorem getD_mem {l : List Int} {i : Nat} (h : i < l.length) : l.getD i 0 ∈ l := by
  rw [List.getD_eq_getElem?_getD, List.getElem?_eq_getElem h]
  exact List.getElem_mem h
theorem measure_Duty_ev {l : List S50} (hw : RunsWf l) (hl : l.length ≤ 140737488351232) : Ev (fun k => measure_Duty.f k l) (dutyV l) := by
  refine Ev.bind (measure_rises_ev hw hl) ?_
  unfold dutyV
  by_cases c : (risesV l true).length < 2
  · rw [if_pos c]
    exact Ev.congr (fun k => if_pos (by omega)) (Ev.now _)
  · rw [if_neg c]
    have h2 := risesV_len l true
    have e : wrap64 (((risesV l true).length : Int) - 1) = (((risesV l true).length - 1 : Nat) : Int) := by
      rw [w64 (by omega) (by omega)]
      omega
    have b1 := risesV_bound _ (getD_mem (l := risesV l true) (i := 0) (by omega))
    have b2 := risesV_bound _ (getD_mem (l := risesV l true) (i := (risesV l true).length - 1) (by omega))
    have e0 : rd (risesV l true) 0 = (risesV l true).getD 0 0 := rd_nat _ 0
    refine Ev.congr (f := fun k => (measure_Pulses.f k l 1).bind fun t156 => (measure_Duty.l0 k ((risesV l true).getD 0 0) ((risesV l true).getD ((risesV l true).length - 1) 0) 0 t156 (t156.length : Int) 0)) (fun k => ?_) (Ev.bind (measure_Pulses_ev hw hl) ?_)
    · rw [if_neg (by omega), if_pos (by omega), e, if_pos (by omega), if_pos (by omega), e0, rd_nat]
    · have hp := pls_bound (lev := 1) (chsV_sorted l) (fun c hc => by have := chsV_bound c hc; omega)
      have hpl := pls_len 1 (chsV l)
      have hcl := chsV_len2 l
      have h := measure_Duty_l0 ((risesV l true).getD 0 0) ((risesV l true).getD ((risesV l true).length - 1) 0) b1.1 b1.2 b2.1 b2.2 (pls 1 (chsV l)) [] 0 (fun g hg => (hp g hg).2) (by omega) (by omega) (by simpa using Nat.le_trans hpl hcl)
      rw [Int.zero_add] at h
      exact h
theorem ref_Duty_l0 (first last : Int) (hf : 0 ≤ first) (hfb : first ≤ 1099511627776) (hl0 : 0 ≤ last) (hlb : last ≤ 1099511627776) : ∀ (post : List (Int × Int)) (q : List S57) (a : Int × Int) (s : Int), (a :: post).Pairwise (fun a b => a.1 < b.1) → (∀ e ∈ a :: post, 0 ≤ e.1 ∧ e.1 ≤ 1099511627776) → 0 ≤ s → s + 1099511627776 * post.length ≤ 1152921504606846976 → ((q ++ [toR a]) ++ post.map toR).length ≤ 262144 →
    Ev (fun k => signalbenchref48_Duty.l0 k ((q ++ [toR a]) ++ post.map toR) first last s ((q ++ [toR a]).length : Int)) (mkV (s + dutR first last (a :: post)) (last - first))
  | [], q, a, s, hs, hb, h0, h1, hl => by
    have e1 : dutR first last [a] = 0 := rfl
    rw [e1, Int.add_zero]
    simp only [List.length_nil] at h1
    have e : wrap64 (last - first) = last - first := w64 (by omega) (by omega)
    refine Ev.step (f := fun k => (signalbenchref01_Make.f k s (last - first)).bind fun bt161 => (some (bt161.1, bt161.2.1, bt161.2.2))) (fun k => ?_) (Ev.bind (ref_Make_ev (wf_small (by omega) (by omega)) (wf_small (by omega) (by omega))) (Ev.now _))
    simp only [signalbenchref48_Duty.l0]
    rw [if_neg (by simp), e]
  | b :: post, q, a, s, hs, hb, h0, h1, hl => by
    have hs' := List.pairwise_cons.1 hs
    have hab := hs'.1 b (by simp)
    have ha1 := hb a (by simp)
    have hb1 := hb b (by simp)
    simp only [List.length_cons] at h1
    rw [List.map_cons] at hl ⊢
    have hlt := midg_lt (q ++ [toR a]) (post.map toR) (toR b)
    have hn : (q ++ [toR a]).length ≤ 9223372036854775806 := by
      simp only [List.length_append, List.length_cons] at hl ⊢
      omega
    have e1 : wrap64 (((q ++ [toR a]).length : Int) - 1) = (q.length : Int) := by
      rw [w64 (by simp only [List.length_append, List.length_cons, List.length_nil]; omega) (by omega)]
      simp
    have e2 : rd_T57 ((q ++ [toR a]) ++ toR b :: post.map toR) (q.length : Int) = toR a := by
      rw [← mid_snoc]
      exact rdR_mid q _ _
    have e3 : (q.length : Int) < (((q ++ [toR a]) ++ toR b :: post.map toR).length : Int) := by
      rw [← mid_snoc]
      exact midg_lt q _ _
    have ih := fun s' => ref_Duty_l0 first last hf hfb hl0 hlb post (q ++ [toR a]) b s' hs'.2 (fun e he => hb e (List.mem_cons_of_mem _ he))
    rw [← mid_snoc (q ++ [toR a]) (post.map toR) (toR b)] at ih
    have es := succ_mid (q ++ [toR a]) (toR b) hn
    rw [dutR]
    by_cases c1 : a.2 = 1
    · have c1' : (toR a).f1 = 1 := c1
      by_cases c2 : first ≤ a.1
      · have c2' : (toR a).f0 ≥ first := c2
        by_cases c3 : b.1 ≤ last
        · have c3' : (toR b).f0 ≤ last := c3
          rw [if_pos ⟨c1, c2, c3⟩, ← Int.add_assoc]
          refine Ev.step (fun k => ?_) (ih (s + (b.1 - a.1)) (by omega) (by omega) hl)
          simp only [signalbenchref48_Duty.l0]
          have e6 : wrap64 (wrap64 (s + (toR b).f0) - (toR a).f0) = s + (b.1 - a.1) := by
            simp only [toR]
            rw [w64 (x := s + b.1) (by omega) (by omega), w64 (by omega) (by omega)]
            omega
          rw [if_pos hlt, e1, if_pos (by omega), if_pos e3, e2, if_pos c1', if_pos c2', if_pos (by omega), rdR_mid, if_pos c3', e6, es]
        · have c3' : ¬ (toR b).f0 ≤ last := c3
          rw [if_neg (fun h => c3 h.2.2), Int.zero_add]
          refine Ev.step (fun k => ?_) (ih s (by omega) (by omega) hl)
          simp only [signalbenchref48_Duty.l0]
          rw [if_pos hlt, e1, if_pos (by omega), if_pos e3, e2, if_pos c1', if_pos c2', if_pos (by omega), rdR_mid, if_neg c3', es]
      · have c2' : ¬ (toR a).f0 ≥ first := c2
        rw [if_neg (fun h => c2 h.2.1), Int.zero_add]
        refine Ev.step (fun k => ?_) (ih s (by omega) (by omega) hl)
        simp only [signalbenchref48_Duty.l0]
        rw [if_pos hlt, e1, if_pos (by omega), if_pos e3, e2, if_pos c1', if_neg c2', es]
    · have c1' : ¬ (toR a).f1 = 1 := c1
      rw [if_neg (fun h => c1 h.1), Int.zero_add]
      refine Ev.step (fun k => ?_) (ih s (by omega) (by omega) hl)
      simp only [signalbenchref48_Duty.l0]
      rw [if_pos hlt, e1, if_pos (by omega), if_pos e3, e2, if_neg c1', es]
theorem sorted_ends : ∀ {r : List Int}, r.Pairwise (· < ·) → ∀ e ∈ r, r.getD 0 0 ≤ e ∧ e ≤ r.getD (r.length - 1) 0
  | [], _, e, he => by simp at he
  | [a], _, e, he => by
    simp at he
    subst he
    simp
  | a :: b :: r, h, e, he => by
    have h' := List.pairwise_cons.1 h
    have ih := sorted_ends h'.2
    have e1 : (a :: b :: r).getD ((a :: b :: r).length - 1) 0 = (b :: r).getD ((b :: r).length - 1) 0 := by simp
    have e2 : (a :: b :: r).getD 0 0 = a := by simp
    rw [e1, e2]
    rcases List.mem_cons.1 he with rfl | he
    · have h1 := h'.1 b (by simp)
      have h2 := ih b (by simp)
      omega
    · have h1 := h'.1 e he
      have h2 := ih e he
      omega
theorem rises_sorted (l : List S50) (b : Bool) : (risesV l b).Pairwise (· < ·) := by
  unfold risesV
  rw [List.pairwise_map]
  exact (chsV_sorted l).filter _
theorem rises_mem {l : List S50} {e : Int} : e ∈ risesV l true ↔ ∃ c ∈ chsV l, c.2 = 1 ∧ c.1 = e := by
  unfold risesV
  rw [filter_one]
  constructor
  · intro h
    obtain ⟨c, hc, rfl⟩ := List.mem_map.1 h
    have := List.mem_filter.1 hc
    exact ⟨c, this.1, by simpa using this.2, rfl⟩
  · rintro ⟨c, hc, h1, rfl⟩
    exact List.mem_map.2 ⟨c, List.mem_filter.2 ⟨hc, by simpa using h1⟩, rfl⟩
theorem ref_Duty_ev {l : List S50} (hw : RunsWf l) (hl : l.length ≤ 140737488351232) : Ev (fun k => signalbenchref48_Duty.f k l) (dutyV l) := by
  have hlen : (((chsV l).filter (fun p => p.2 == 1)).map toR).length = (risesV l true).length := by
    unfold risesV
    rw [filter_one, List.length_map, List.length_map]
  have hget : ∀ i : Nat, i < (risesV l true).length → (rd_T57 (((chsV l).filter (fun p => p.2 == 1)).map toR) (i : Int)).f0 = (risesV l true).getD i 0 := by
    intro i hi
    have h1 : i < ((chsV l).filter (fun p => p.2 == 1)).length := by
      rw [← hlen, List.length_map] at hi
      exact hi
    unfold risesV rd_T57
    rw [filter_one, Int.toNat_natCast, List.getD_eq_getElem?_getD, List.getD_eq_getElem?_getD, List.getElem?_map, List.getElem?_map, List.getElem?_eq_getElem h1]
    rfl
  refine Ev.bind (ref_changes_ev hw hl) (Ev.bind (ref_to_ev (chsV_len2 l)) ?_)
  unfold dutyV
  by_cases c : (risesV l true).length < 2
  · rw [if_pos c]
    exact Ev.congr (fun k => if_pos (by rw [hlen]; omega)) (Ev.now _)
  · rw [if_neg c]
    have h2 := risesV_len l true
    have e : wrap64 (((risesV l true).length : Int) - 1) = (((risesV l true).length - 1 : Nat) : Int) := by
      rw [w64 (by omega) (by omega)]
      omega
    have m1 := getD_mem (l := risesV l true) (i := 0) (by omega)
    have m2 := getD_mem (l := risesV l true) (i := (risesV l true).length - 1) (by omega)
    have b1 := risesV_bound _ m1
    have b2 := risesV_bound _ m2
    have ends := sorted_ends (rises_sorted l true)
    have hd := dut_eq ((risesV l true).getD 0 0) ((risesV l true).getD ((risesV l true).length - 1) 0) (chsV l) (chsV_sorted l) (chsV_alt l) (fun c hc => (chsV_bound c hc).2.2) (fun c hc h1 => ends c.1 (rises_mem.2 ⟨c, hc, h1, rfl⟩)) (fun _ => rises_mem.1 m2)
    refine Ev.congr (f := fun k => signalbenchref48_Duty.l0 k ((chsV l).map toR) ((risesV l true).getD 0 0) ((risesV l true).getD ((risesV l true).length - 1) 0) 0 1) (fun k => ?_) ?_
    · have g0 := hget 0 (by omega)
      have g1 := hget ((risesV l true).length - 1) (by omega)
      have g0' : (rd_T57 (((chsV l).filter (fun p => p.2 == 1)).map toR) 0).f0 = (risesV l true).getD 0 0 := g0
      rw [hlen, if_neg (by omega), if_pos (by omega), e, if_pos (by omega), if_pos (by omega), g0', g1]
    · rw [hd]
      have hs := chsV_sorted l
      have hb := chsV_bound (l := l)
      have hcl := chsV_len2 l
      obtain ⟨c0, hc0, -⟩ := rises_mem.1 m1
      generalize chsV l = cs at hs hb hcl hc0
      cases cs with
      | nil => simp at hc0
      | cons a r =>
        simp only [List.length_cons] at hcl
        have h := ref_Duty_l0 ((risesV l true).getD 0 0) ((risesV l true).getD ((risesV l true).length - 1) 0) b1.1 b1.2 b2.1 b2.2 r [] a 0 hs (fun e he => by have := hb e he; omega) (by omega) (by omega) (by simp only [List.length_append, List.length_cons, List.length_nil, List.length_map]; omega)
        rw [Int.zero_add] at h
        exact h
theorem lives_ev : Ev (fun k => signalbenchlaw48_lives.f k) true := Ev.of (k := 40) (fun k => signalbenchlaw48_lives.mono k) (by decide +kernel)
theorem prd_len : ∀ (r : List Int), (prd r : List S36).length ≤ r.length
  | [] => by simp [prd]
  | [a] => by simp [prd]
  | a :: b :: r => by
    have := prd_len (b :: r)
    simp only [prd, List.length_cons] at this ⊢
    omega
theorem MeasureOne_pure {l : List S50} {lev : Int} (hw : RunsWf l) (hl : l.length ≤ 140737488351232) : ∃ k, signalbenchlaw48_MeasureOne.f k l lev = some true := by
  refine Ev.rounds (g := fun k => signalbenchlaw48_MeasureOne.f k l lev) (Ev.bind lives_ev ?_)
  simp only [if_true]
  by_cases c : (l.length : Int) > 1000
  · exact Ev.congr (fun k => if_pos c) (Ev.now _)
  · refine Ev.congr (fun k => if_neg c) ?_
    refine Ev.bind (measure_Duty_ev hw hl) (Ev.bind (ref_Duty_ev hw hl) (Ev.bind (measure_Periods_ev hw hl) (Ev.bind (ref_Periods_ev hw hl) (Ev.bind (law_same_ev _ ?_) ?_))))
    · have h1 := prd_len (risesV l true)
      have h2 := risesV_len l true
      omega
    · simp only [if_true]
      refine Ev.bind (measure_Pulses_ev hw hl) (Ev.bind (ref_Pulses_ev hw hl) (Ev.bind (law_same_ev _ ?_) ?_))
      · have h1 := pls_len lev (chsV l)
        have h2 := chsV_len2 l
        omega
      · simp only [if_true, beq_self_eq_true, Bool.and_self]
        exact Ev.now _
end Go.Proofs.Ytdbbmjfiglcfhaa
