/- The law MeasurePulses as a plain statement on numbers and lists: with enough rounds it answers true; conditions: each number is one of its kind, no list or string is longer than its memory allows. -/
import Derived.Laws.BitsAllLaws
import Derived.WalkKit
import Derived.Test.YtdbbmjfiglcfhaaWMore
import Derived.Test.YtdbbmjfiglcfhaaQx0
import Derived.Test.YtdbbmjfiglcfhaaQx3
import Derived.Test.YtdbbmjfiglcfhaaQx4
import Derived.Test.YtdbbmjfiglcfhaaQx5
import Derived.Test.YtdbbmjfiglcfhaaQx6
import Derived.Test.YtdbbmjfiglcfhaaQx7
import Derived.Test.YtdbbmjfiglcfhaaQx8
import Derived.Test.YtdbbmjfiglcfhaaQx14
import Derived.Test.YtdbbmjfiglcfhaaQx16
import Derived.Test.YtdbbmjfiglcfhaaQx28
import Derived.Test.YtdbbmjfiglcfhaaQx29
namespace Go.Proofs.Ytdbbmjfiglcfhaa
open Go Go.RowKit Go.Proofs.YtdbbmjfiglcfhaaW.PrintWords Go.Proofs.YtdbbmjfiglcfhaaW.PrintLast Go.Proofs.Ytdbbmjfiglcfhaa.Q
set_option linter.unusedVariables false
theorem w64 {x : Int} (h0 : -9223372036854775808 ≤ x) (h1 : x ≤ 9223372036854775807) : wrap64 x = x := by
  unfold wrap64
  omega
theorem wf64 {x : Int} (h : (Lit.int .i64 x).wf = true) : -9223372036854775808 ≤ x ∧ x ≤ 9223372036854775807 := by
  simp [Lit.wf, IntKind.min, IntKind.max, IntKind.bits, IntKind.signed] at h
  omega
theorem andNot1 {a : Int} (h : (Lit.int .i64 a).wf = true) : Go.bits .andNot .i64 a 1 = 0 ↔ a = 0 ∨ a = 1 := by
  have hw := wf64 h
  have e1 : Go.bits .andNot .i64 a 1 = IntKind.i64.wrap (((BitVec.ofInt 64 a &&& ~~~BitVec.ofInt 64 1).toNat : Nat) : Int) := rfl
  have e2 : (BitVec.ofInt 64 a &&& ~~~BitVec.ofInt 64 1).toNat = (BitVec.ofInt 64 a).toNat &&& 18446744073709551614 := by
    rw [BitVec.toNat_and]
    rfl
  have e3 : ((BitVec.ofInt 64 a).toNat : Int) = a % 18446744073709551616 := by
    rw [BitVec.toNat_ofInt]
    omega
  rw [e1, e2, nat_hi64_1, IntKind.wrap_i64]
  omega
theorem succ_mid {α : Type} (pre : List α) (x : α) (h : pre.length ≤ 9223372036854775806) : wrap64 ((pre.length : Int) + 1) = ((pre ++ [x]).length : Int) := by
  rw [w64 (by omega) (by omega)]
  simp
theorem wrap01 : wrap64 (0 + 1) = 1 := by
  unfold wrap64
  rfl
theorem mid_snoc {α : Type} (pre post : List α) (x : α) : pre ++ x :: post = (pre ++ [x]) ++ post := by simp
def sm : List S50 → Int
  | [] => 0
  | x :: l => x.f1 + sm l
def vldF (left : Int) : List S50 → Bool
  | [] => true
  | x :: l => if (x.f0 = 0 ∨ x.f0 = 1) ∧ 1 ≤ x.f1 ∧ x.f1 ≤ left then vldF (left - x.f1) l else false
def vld (l : List S50) : Bool := if l.length ≤ 262144 then vldF 1099511627776 l else false
def RunWf (x : S50) : Prop := (Lit.int .i64 x.f0).wf = true ∧ (Lit.int .i64 x.f1).wf = true
def RunsWf (l : List S50) : Prop := ∀ x ∈ l, RunWf x
def RunsOk (l : List S50) : Prop := ∀ x ∈ l, (x.f0 = 0 ∨ x.f0 = 1) ∧ 1 ≤ x.f1
theorem rd_mid (pre post : List S50) (x : S50) : rd_T50 (pre ++ x :: post) (pre.length : Int) = x := by simp [rd_T50, List.getD]
theorem mid_lt (pre post : List S50) (x : S50) : (pre.length : Int) < ((pre ++ x :: post).length : Int) := by
  simp only [List.length_append, List.length_cons]
  omega
theorem sm_nonneg : ∀ {l : List S50}, RunsOk l → 0 ≤ sm l
  | [], _ => Int.le_refl _
  | x :: l, h => by
    have h1 := h x (by simp)
    have h2 := sm_nonneg (l := l) (fun y hy => h y (by simp [hy]))
    simp only [sm]
    omega
theorem vldF_iff : ∀ {l : List S50} {left : Int}, 0 ≤ left → (vldF left l = true ↔ RunsOk l ∧ sm l ≤ left)
  | [], left, h => by simp [vldF, RunsOk, sm, h]
  | x :: l, left, h => by
    unfold vldF
    by_cases c : (x.f0 = 0 ∨ x.f0 = 1) ∧ 1 ≤ x.f1 ∧ x.f1 ≤ left
    · rw [if_pos c, vldF_iff (l := l) (by omega)]
      simp only [RunsOk, sm, List.mem_cons, forall_eq_or_imp]
      constructor
      · rintro ⟨h1, h2⟩
        exact ⟨⟨⟨c.1, c.2.1⟩, h1⟩, by omega⟩
      · rintro ⟨⟨h1, h2⟩, h3⟩
        exact ⟨h2, by omega⟩
    · rw [if_neg c]
      simp only [Bool.false_eq_true, false_iff]
      rintro ⟨h1, h2⟩
      have h3 := h1 x (by simp)
      have h4 := sm_nonneg (l := l) (fun y hy => h1 y (by simp [hy]))
      simp only [sm] at h2
      exact c ⟨h3.1, h3.2, by omega⟩
theorem vld_iff {l : List S50} : vld l = true ↔ l.length ≤ 262144 ∧ RunsOk l ∧ sm l ≤ 1099511627776 := by
  unfold vld
  by_cases c : l.length ≤ 262144
  · rw [if_pos c, vldF_iff (by omega)]
    simp [c]
  · rw [if_neg c]
    simp [c]
theorem RunsOk.cons {x : S50} {l : List S50} (h : RunsOk (x :: l)) : ((x.f0 = 0 ∨ x.f0 = 1) ∧ 1 ≤ x.f1) ∧ RunsOk l := ⟨h x (by simp), fun y hy => h y (by simp [hy])⟩
theorem RunsOk.left {a b : List S50} (h : RunsOk (a ++ b)) : RunsOk a := fun x hx => h x (List.mem_append_left _ hx)
theorem wave_Valid_l0 : ∀ (post pre : List S50) (left : Int), 0 ≤ left → left ≤ 1099511627776 → RunsWf post → (pre ++ post).length ≤ 140737488351232 →
    Ev (fun k => wave_Valid.l0 k left (pre ++ post) ((pre ++ post).length : Int) (pre.length : Int)) (vldF left post)
  | [], pre, left, h0, h1, hw, hl => by
    refine Ev.step (f := fun _ => some true) (fun k => ?_) (Ev.now _)
    simp only [wave_Valid.l0]
    rw [if_neg (by simp)]
  | x :: post, pre, left, h0, h1, hw, hl => by
    have hx := hw x (by simp)
    have hlt := mid_lt pre post x
    have hn : pre.length ≤ 9223372036854775806 := by
      simp only [List.length_append, List.length_cons] at hl
      omega
    by_cases c : (x.f0 = 0 ∨ x.f0 = 1) ∧ 1 ≤ x.f1 ∧ x.f1 ≤ left
    · have ih := wave_Valid_l0 post (pre ++ [x]) (left - x.f1) (by omega) (by omega) (fun y hy => hw y (by simp [hy])) (by simpa using hl)
      rw [← mid_snoc] at ih
      rw [vldF, if_pos c]
      refine Ev.step (fun k => ?_) ih
      simp only [wave_Valid.l0]
      rw [rd_mid, if_pos hlt, if_pos (by omega), if_pos hlt, if_pos ((andNot1 hx.1).2 c.1), if_neg (by omega), if_neg (by omega), w64 (by omega) (by omega), succ_mid _ _ hn]
    · rw [vldF, if_neg c]
      refine Ev.step (f := fun _ => some false) (fun k => ?_) (Ev.now _)
      simp only [wave_Valid.l0]
      rw [rd_mid, if_pos hlt, if_pos (by omega), if_pos hlt]
      by_cases c1 : x.f0 = 0 ∨ x.f0 = 1
      · rw [if_pos ((andNot1 hx.1).2 c1)]
        by_cases c2 : x.f1 < 1
        · rw [if_pos c2]
        · rw [if_neg c2, if_pos (by
            have : ¬ (1 ≤ x.f1 ∧ x.f1 ≤ left) := fun h => c ⟨c1, h⟩
            omega)]
      · rw [if_neg (fun h => c1 ((andNot1 hx.1).1 h))]
theorem wave_Valid_ev {l : List S50} (hw : RunsWf l) (hl : l.length ≤ 140737488351232) : Ev (fun k => wave_Valid.f k l) (vld l) := by
  unfold vld
  by_cases c : l.length ≤ 262144
  · rw [if_pos c]
    refine Ev.congr (fun k => ?_) (wave_Valid_l0 l [] 1099511627776 (by omega) (by omega) hw (by simpa using hl))
    unfold wave_Valid.f
    rw [if_neg (by omega)]
    rfl
  · rw [if_neg c]
    refine Ev.congr (fun k => ?_) (Ev.now _)
    unfold wave_Valid.f
    rw [if_pos (by omega)]
def jnc (x : S50) : List S50 → List S50
  | [] => [x]
  | y :: l => if x.f0 = y.f0 then jnc ⟨x.f0, x.f1 + y.f1⟩ l else x :: jnc y l
def jn : List S50 → List S50
  | [] => []
  | x :: l => jnc x l
theorem last_at (o : List S50) (x : S50) (h : o.length ≤ 9223372036854775806) : wrap64 (((o ++ [x]).length : Int) - 1) = (o.length : Int) := by
  rw [w64 (by simp only [List.length_append, List.length_cons, List.length_nil]; omega) (by simp only [List.length_append, List.length_cons, List.length_nil]; omega)]
  simp
theorem rd_last (o : List S50) (x : S50) : rd_T50 (o ++ [x]) (o.length : Int) = x := rd_mid o [] x
theorem set_last (o : List S50) (x y : S50) : (o ++ [x]).set ((o.length : Int)).toNat y = o ++ [y] := by
  rw [Int.toNat_natCast, List.set_append_right _ _ (Nat.le_refl _), Nat.sub_self]
  rfl
theorem snoc_pos (o : List S50) (x : S50) : ((o ++ [x]).length : Int) > 0 := by
  simp only [List.length_append, List.length_cons, List.length_nil]
  omega
theorem last_lt (o : List S50) (x : S50) : (o.length : Int) < ((o ++ [x]).length : Int) := mid_lt o [] x
theorem wave_joined_l0 : ∀ (post pre o : List S50) (x : S50), 0 ≤ x.f1 → x.f1 + sm post ≤ 4611686018427387904 → RunsOk post → (pre ++ post).length ≤ 140737488351232 → o.length + post.length ≤ 4398046511104 →
    Ev (fun k => wave_joined.l0 k (o ++ [x]) (pre ++ post) ((pre ++ post).length : Int) (pre.length : Int)) (o ++ jnc x post)
  | [], pre, o, x, h0, h1, hw, hl, ho => by
    refine Ev.step (f := fun _ => some (o ++ [x])) (fun k => ?_) (Ev.now _)
    simp only [wave_joined.l0]
    rw [if_neg (by simp)]
  | y :: post, pre, o, x, h0, h1, hw, hl, ho => by
    have hy := hw.cons
    have hs := sm_nonneg hy.2
    simp only [sm] at h1
    simp only [List.length_cons] at ho
    have hlt := mid_lt pre post y
    have hn : pre.length ≤ 9223372036854775806 := by
      simp only [List.length_append, List.length_cons] at hl
      omega
    by_cases c : x.f0 = y.f0
    · have ih := wave_joined_l0 post (pre ++ [y]) o ⟨x.f0, x.f1 + y.f1⟩ (by simp only; omega) (by simp only; omega) hy.2 (by simpa using hl) (by omega)
      rw [← mid_snoc pre post y] at ih
      rw [jnc, if_pos c]
      refine Ev.step (fun k => ?_) ih
      simp only [wave_joined.l0]
      rw [rd_mid, if_pos hlt, if_pos (by omega), if_pos hlt, if_pos (snoc_pos o x), last_at o x (by omega), if_pos (by omega), if_pos (last_lt o x), rd_last, if_pos c, set_last, w64 (x := x.f1 + y.f1) (by omega) (by omega), succ_mid pre y hn]
    · have ih := wave_joined_l0 post (pre ++ [y]) (o ++ [x]) y (by omega) (by omega) hy.2 (by simpa using hl) (by simp only [List.length_append, List.length_cons, List.length_nil]; omega)
      rw [← mid_snoc pre post y] at ih
      rw [jnc, if_neg c, show o ++ x :: jnc y post = (o ++ [x]) ++ jnc y post by simp]
      refine Ev.step (fun k => ?_) ih
      simp only [wave_joined.l0]
      rw [rd_mid, if_pos hlt, if_pos (by omega), if_pos hlt, if_pos (snoc_pos o x), last_at o x (by omega), if_pos (by omega), if_pos (last_lt o x), rd_last, if_neg c, if_pos (by simp only [List.length_append, List.length_cons, List.length_nil]; omega), succ_mid pre y hn]
theorem wave_joined_ev {l : List S50} (hw : RunsOk l) (hs : sm l ≤ 4611686018427387904) (hl : l.length ≤ 4398046511104) : Ev (fun k => wave_joined.f k l) (jn l) := by
  refine Ev.congr (f := fun k => wave_joined.l0 k [] l (l.length : Int) 0) (fun k => rfl) ?_
  cases l with
  | nil =>
    refine Ev.step (f := fun _ => some []) (fun k => ?_) (Ev.now _)
    simp only [wave_joined.l0]
    rw [if_neg (by simp)]
  | cons x l =>
    have hx := hw.cons
    simp only [sm] at hs
    simp only [List.length_cons] at hl
    have h := wave_joined_l0 l [x] [] x (by omega) (by omega) hx.2 (by simp; omega) (by simp; omega)
    refine Ev.step (fun k => ?_) h
    simp only [wave_joined.l0]
    have e := rd_mid [] l x
    simp only [List.nil_append, List.length_nil] at e
    have e' : rd_T50 (x :: l) 0 = x := e
    rw [e', if_pos (by simp only [List.length_cons]; omega), if_pos (by omega), if_pos (by simp only [List.length_cons]; omega), if_neg (by simp), if_pos (by simp), wrap01]
    rfl
/-- The clean wave. -/
def cleanV (l : List S50) : List S50 := if vld l = true then jn l else []
theorem wave_Clean_ev {l : List S50} (hw : RunsWf l) (hl : l.length ≤ 140737488351232) : Ev (fun k => wave_Clean.f k l) (cleanV l) := by
  unfold cleanV
  refine Ev.bind (wave_Valid_ev hw hl) ?_
  by_cases v : vld l = true
  · simp only [if_pos v]
    have hv := vld_iff.1 v
    exact Ev.bind (wave_joined_ev hv.2.1 (by omega) (by omega)) (Ev.now _)
  · simp only [if_neg v]
    exact Ev.now _
theorem jnc_sm : ∀ (l : List S50) (x : S50), sm (jnc x l) = x.f1 + sm l
  | [], x => rfl
  | y :: l, x => by
    unfold jnc
    split
    · rw [jnc_sm l]
      simp only [sm]
      omega
    · simp only [sm]
      rw [jnc_sm l y]
theorem jn_sm (l : List S50) : sm (jn l) = sm l := by
  cases l with
  | nil => rfl
  | cons x l => exact jnc_sm l x
theorem jnc_len : ∀ (l : List S50) (x : S50), (jnc x l).length ≤ l.length + 1
  | [], x => Nat.le_refl _
  | y :: l, x => by
    unfold jnc
    split
    · have := jnc_len l ⟨x.f0, x.f1 + y.f1⟩
      simp only [List.length_cons]
      omega
    · have := jnc_len l y
      simp only [List.length_cons]
      omega
theorem jn_len (l : List S50) : (jn l).length ≤ l.length := by
  cases l with
  | nil => exact Nat.le_refl _
  | cons x l => exact jnc_len l x
theorem jnc_ok : ∀ (l : List S50) (x : S50), RunsOk (x :: l) → RunsOk (jnc x l)
  | [], x, h => h
  | y :: l, x, h => by
    have hx := h.cons
    have hy := hx.2.cons
    unfold jnc
    split
    · refine jnc_ok l _ (fun z hz => ?_)
      rcases List.mem_cons.1 hz with rfl | hz
      · exact ⟨hx.1.1, by simp only; omega⟩
      · exact hy.2 z hz
    · intro z hz
      rcases List.mem_cons.1 hz with rfl | hz
      · exact hx.1
      · exact jnc_ok l y hx.2 z hz
theorem jn_ok {l : List S50} (h : RunsOk l) : RunsOk (jn l) := by
  cases l with
  | nil => exact h
  | cons x l => exact jnc_ok l x h
theorem jn_vld {l : List S50} (h : vld l = true) : vld (jn l) = true := by
  have hv := vld_iff.1 h
  have h1 := jn_len l
  exact vld_iff.2 ⟨by omega, jn_ok hv.2.1, by rw [jn_sm]; exact hv.2.2⟩
theorem jnc_head : ∀ (l : List S50) (x : S50), ∃ t m, jnc x l = ⟨x.f0, t⟩ :: m
  | [], x => ⟨x.f1, [], rfl⟩
  | y :: l, x => by
    unfold jnc
    split
    · exact jnc_head l ⟨x.f0, x.f1 + y.f1⟩
    · exact ⟨x.f1, _, rfl⟩
theorem rd_zero (x : S50) (l : List S50) : rd_T50 (x :: l) 0 = x := by
  have e := rd_mid [] l x
  simp only [List.nil_append, List.length_nil] at e
  exact e
theorem rdi_mid (pre post : List Int) (x : Int) : rd (pre ++ x :: post) (pre.length : Int) = x := by simp [rd, List.getD]
def chF (p at_ : Int) : List S50 → List (Int × Int)
  | [] => []
  | x :: l => if p = x.f0 then chF x.f0 (at_ + x.f1) l else (at_, x.f0) :: chF x.f0 (at_ + x.f1) l
def chs : List S50 → List (Int × Int)
  | [] => []
  | x :: l => chF x.f0 x.f1 l
def chsV (l : List S50) : List (Int × Int) := if vld l = true then chs l else []
def chL (at_ : Int) : List S50 → List (Int × Int)
  | [] => []
  | x :: l => (at_, x.f0) :: chL (at_ + x.f1) l
def chT : List S50 → List (Int × Int)
  | [] => []
  | x :: l => chL x.f1 l
def toP (p : Int × Int) : S68 := ⟨p.1, p.2 == 1⟩
theorem chL_jnc : ∀ (l : List S50) (x : S50) (at_ : Int), (match jnc x l with | [] => [] | y :: m => chL (at_ + y.f1) m) = chF x.f0 (at_ + x.f1) l
  | [], x, at_ => rfl
  | y :: l, x, at_ => by
    unfold jnc chF
    by_cases c : x.f0 = y.f0
    · rw [if_pos c, if_pos c, chL_jnc l ⟨x.f0, x.f1 + y.f1⟩ at_]
      simp only
      rw [Int.add_assoc, c]
    · rw [if_neg c, if_neg c]
      have h := chL_jnc l y (at_ + x.f1)
      obtain ⟨t, m, e⟩ := jnc_head l y
      rw [e] at h ⊢
      simp only at h ⊢
      rw [chL, h]
theorem chT_jn (l : List S50) : chT (jn l) = chs l := by
  cases l with
  | nil => rfl
  | cons x l =>
    have h := chL_jnc l x 0
    simp only [Int.zero_add] at h
    exact h
theorem chT_clean (l : List S50) : chT (cleanV l) = chsV l := by
  unfold cleanV chsV
  split
  · exact chT_jn l
  · rfl
theorem chF_bound : ∀ {l : List S50} {p at_ : Int}, RunsOk l → ∀ c ∈ chF p at_ l, at_ ≤ c.1 ∧ c.1 ≤ at_ + sm l ∧ (c.2 = 0 ∨ c.2 = 1)
  | [], p, at_, h, c, hc => by simp [chF] at hc
  | x :: l, p, at_, h, c, hc => by
    have hx := h.cons
    have hs := sm_nonneg hx.2
    simp only [sm]
    unfold chF at hc
    split at hc
    · have := chF_bound hx.2 c hc
      omega
    · rcases List.mem_cons.1 hc with rfl | hc
      · exact ⟨Int.le_refl _, by simp only; omega, hx.1.1⟩
      · have := chF_bound hx.2 c hc
        omega
theorem chsV_bound {l : List S50} : ∀ c ∈ chsV l, 0 ≤ c.1 ∧ c.1 ≤ 1099511627776 ∧ (c.2 = 0 ∨ c.2 = 1) := by
  intro c hc
  unfold chsV at hc
  split at hc
  · rename_i v
    have hv := vld_iff.1 v
    cases l with
    | nil => simp [chs] at hc
    | cons x l =>
      have hx := hv.2.1.cons
      have h2 := hv.2.2
      simp only [sm] at h2
      have := chF_bound hx.2 c hc
      omega
  · simp at hc
theorem chF_len : ∀ (l : List S50) (p at_ : Int), (chF p at_ l).length ≤ l.length
  | [], p, at_ => Nat.le_refl _
  | x :: l, p, at_ => by
    have := chF_len l x.f0 (at_ + x.f1)
    unfold chF
    split <;> simp only [List.length_cons] <;> omega
theorem chsV_len2 (l : List S50) : (chsV l).length ≤ 262144 := by
  unfold chsV
  split
  · rename_i v
    have hv := vld_iff.1 v
    cases l with
    | nil => simp [chs]
    | cons x l =>
      have := chF_len l x.f0 x.f1
      have h1 := hv.1
      simp only [List.length_cons] at h1
      simp only [chs]
      omega
  · simp
theorem measure_changes_l0 : ∀ (post pre : List S50) (out : List S68) (at_ : Int), 0 < pre.length → 0 ≤ at_ → at_ + sm post ≤ 1099511627776 → RunsOk post → (pre ++ post).length ≤ 262144 → out.length + post.length ≤ 262144 →
    Ev (fun k => measure_changes.l0 k out at_ (pre ++ post) ((pre ++ post).length : Int) (pre.length : Int)) (out ++ (chL at_ post).map toP)
  | [], pre, out, at_, hp, h0, h1, hw, hl, ho => by
    refine Ev.step (f := fun _ => some out) (fun k => ?_) (by rw [chL, List.map_nil, List.append_nil]; exact Ev.now _)
    simp only [measure_changes.l0]
    rw [if_neg (by simp)]
  | x :: post, pre, out, at_, hp, h0, h1, hw, hl, ho => by
    have hx := hw.cons
    have hs := sm_nonneg hx.2
    simp only [sm] at h1
    simp only [List.length_cons] at ho
    have hlt := mid_lt pre post x
    have hn : pre.length ≤ 9223372036854775806 := by
      simp only [List.length_append, List.length_cons] at hl
      omega
    have ih := measure_changes_l0 post (pre ++ [x]) (out ++ [toP (at_, x.f0)]) (at_ + x.f1) (by simp) (by omega) (by omega) hx.2 (by simpa using hl) (by simp only [List.length_append, List.length_cons, List.length_nil]; omega)
    rw [← mid_snoc pre post x] at ih
    rw [chL, List.map_cons, mid_snoc out _ (toP (at_, x.f0))]
    refine Ev.step (fun k => ?_) ih
    simp only [measure_changes.l0]
    rw [rd_mid, if_pos hlt, if_pos (by omega), if_pos hlt, if_pos (by omega), if_pos (by omega), w64 (x := at_ + x.f1) (by omega) (by omega), succ_mid pre x hn]
    rfl
theorem measure_changes_ev {l : List S50} (hw : RunsWf l) (hl : l.length ≤ 140737488351232) : Ev (fun k => measure_changes.f k l) ((chsV l).map toP) := by
  refine Ev.bind (wave_Clean_ev hw hl) ?_
  rw [← chT_clean]
  have hc : ∀ c, cleanV l = c → RunsOk c ∧ sm c ≤ 1099511627776 ∧ c.length ≤ 262144 := by
    intro c e
    subst e
    unfold cleanV
    split
    · rename_i v
      have := vld_iff.1 (jn_vld v)
      exact ⟨this.2.1, this.2.2, this.1⟩
    · exact ⟨fun x hx => by simp at hx, by simp [sm], by simp⟩
  generalize cleanV l = c at hc
  have hc := hc c rfl
  cases c with
  | nil =>
    refine Ev.step (f := fun _ => some []) (fun k => ?_) (Ev.now _)
    simp only [measure_changes.l0]
    rw [if_neg (by simp)]
  | cons x c =>
    have hx := hc.1.cons
    have hs := sm_nonneg hx.2
    have h2 := hc.2.1
    have h3 := hc.2.2
    simp only [sm] at h2
    simp only [List.length_cons] at h3
    have h := measure_changes_l0 c [x] [] x.f1 (by simp) (by omega) (by omega) hx.2 (by simp only [List.length_append, List.length_cons, List.length_nil]; omega) (by simp only [List.length_nil]; omega)
    refine Ev.step (fun k => ?_) h
    simp only [measure_changes.l0]
    rw [rd_zero, if_pos (by simp only [List.length_cons]; omega), if_pos (by omega), if_pos (by simp only [List.length_cons]; omega), if_neg (by omega), w64 (x := 0 + x.f1) (by omega) (by omega), Int.zero_add, wrap01]
    rfl
theorem rdP_mid (pre post : List S68) (x : S68) : rd_T68 (pre ++ x :: post) (pre.length : Int) = x := by simp [rd_T68, List.getD]
theorem rdG_mid (pre post : List S36) (x : S36) : rd_T36 (pre ++ x :: post) (pre.length : Int) = x := by simp [rd_T36, List.getD]
theorem midg_lt {α : Type} (pre post : List α) (x : α) : (pre.length : Int) < ((pre ++ x :: post).length : Int) := by
  simp only [List.length_append, List.length_cons]
  omega
def risesV (l : List S50) (b : Bool) : List Int := ((chsV l).filter (fun p => (p.2 == 1) == b)).map (·.1)
theorem measure_rises_l0 (b : Bool) : ∀ (post : List (Int × Int)) (pre : List S68) (out : List Int), (pre ++ post.map toP).length ≤ 262144 → out.length + post.length ≤ 262144 →
    Ev (fun k => measure_rises.l0 k b out (pre ++ post.map toP) ((pre ++ post.map toP).length : Int) (pre.length : Int)) (out ++ (post.filter (fun p => (p.2 == 1) == b)).map (·.1))
  | [], pre, out, hl, ho => by
    refine Ev.step (f := fun _ => some out) (fun k => ?_) (by rw [List.filter_nil, List.map_nil, List.append_nil]; exact Ev.now _)
    simp only [measure_rises.l0]
    rw [if_neg (by simp)]
  | x :: post, pre, out, hl, ho => by
    rw [List.map_cons] at hl ⊢
    simp only [List.length_cons] at ho
    have hlt := midg_lt pre (post.map toP) (toP x)
    have hn : pre.length ≤ 9223372036854775806 := by
      simp only [List.length_append, List.length_cons] at hl
      omega
    by_cases c : ((x.2 == 1) == b) = true
    · have ih := measure_rises_l0 b post (pre ++ [toP x]) (out ++ [x.1]) (by simpa using hl) (by simp only [List.length_append, List.length_cons, List.length_nil]; omega)
      rw [← mid_snoc pre (post.map toP) (toP x)] at ih
      rw [List.filter_cons_of_pos (by simpa using c), List.map_cons, mid_snoc out _ x.1]
      refine Ev.step (fun k => ?_) ih
      simp only [measure_rises.l0]
      have c' : ((toP x).f1 == b) = true := c
      rw [rdP_mid, if_pos hlt, if_pos (by omega), if_pos hlt, if_pos c', if_pos (by omega), succ_mid pre (toP x) hn]
      rfl
    · have ih := measure_rises_l0 b post (pre ++ [toP x]) out (by simpa using hl) (by omega)
      rw [← mid_snoc pre (post.map toP) (toP x)] at ih
      rw [List.filter_cons_of_neg (by simpa using c)]
      refine Ev.step (fun k => ?_) ih
      simp only [measure_rises.l0]
      have c' : ¬ ((toP x).f1 == b) = true := c
      rw [rdP_mid, if_pos hlt, if_pos (by omega), if_pos hlt, if_neg c', succ_mid pre (toP x) hn]
theorem measure_rises_ev {l : List S50} {b : Bool} (hw : RunsWf l) (hl : l.length ≤ 140737488351232) : Ev (fun k => measure_rises.f k l b) (risesV l b) := by
  refine Ev.bind (measure_changes_ev hw hl) ?_
  have h2 := chsV_len2 l
  exact measure_rises_l0 b (chsV l) [] [] (by simpa using h2) (by simpa using h2)
def prd : List Int → List S36
  | a :: b :: r => ⟨a, b - a⟩ :: prd (b :: r)
  | _ => []
theorem prd_one (a : Int) : prd [a] = [] := rfl
theorem measure_Periods_l0 : ∀ (post q : List Int) (a : Int) (out : List S36), (∀ e ∈ a :: post, 0 ≤ e ∧ e ≤ 1099511627776) → ((q ++ [a]) ++ post).length ≤ 262144 → out.length + post.length ≤ 262144 →
    Ev (fun k => measure_Periods.l0 k out ((q ++ [a]) ++ post) ((q ++ [a]).length : Int)) (out ++ prd (a :: post))
  | [], q, a, out, hb, hl, ho => by
    refine Ev.step (f := fun _ => some out) (fun k => ?_) (by rw [prd_one, List.append_nil]; exact Ev.now _)
    simp only [measure_Periods.l0]
    rw [if_neg (by simp)]
  | b :: post, q, a, out, hb, hl, ho => by
    simp only [List.length_cons] at ho
    have h1 := hb a (by simp)
    have h2 := hb b (by simp)
    have hlt := midg_lt (q ++ [a]) post b
    have hn : (q ++ [a]).length ≤ 9223372036854775806 := by
      simp only [List.length_append, List.length_cons] at hl ⊢
      omega
    have hq : q.length ≤ 9223372036854775806 := by
      simp only [List.length_append, List.length_cons] at hn
      omega
    have e1 : wrap64 (((q ++ [a]).length : Int) - 1) = (q.length : Int) := by
      rw [w64 (by simp only [List.length_append, List.length_cons, List.length_nil]; omega) (by omega)]
      simp
    have e2 : rd ((q ++ [a]) ++ b :: post) (q.length : Int) = a := by
      rw [← mid_snoc]
      exact rdi_mid q _ a
    have e3 : (q.length : Int) < (((q ++ [a]) ++ b :: post).length : Int) := by
      rw [← mid_snoc]
      exact midg_lt q _ a
    have ih := measure_Periods_l0 post (q ++ [a]) b (out ++ [⟨a, b - a⟩]) (fun e he => hb e (List.mem_cons_of_mem _ he)) (by simpa using hl) (by simp only [List.length_append, List.length_cons, List.length_nil]; omega)
    rw [← mid_snoc (q ++ [a]) post b] at ih
    rw [prd, mid_snoc out _ (⟨a, b - a⟩ : S36)]
    refine Ev.step (fun k => ?_) ih
    simp only [measure_Periods.l0]
    rw [if_pos hlt, e1, if_pos (by omega), if_pos e3, if_pos (by omega), if_pos (by omega), e2, rdi_mid, w64 (x := b - a) (by omega) (by omega), succ_mid (q ++ [a]) b hn]
theorem risesV_bound {l : List S50} {b : Bool} : ∀ e ∈ risesV l b, 0 ≤ e ∧ e ≤ 1099511627776 := by
  intro e he
  obtain ⟨c, hc, rfl⟩ := List.mem_map.1 he
  have := chsV_bound c (List.mem_filter.1 hc).1
  omega
theorem risesV_len (l : List S50) (b : Bool) : (risesV l b).length ≤ 262144 := by
  unfold risesV
  rw [List.length_map]
  exact Nat.le_trans (List.length_filter_le _ _) (chsV_len2 l)
theorem measure_Periods_ev {l : List S50} (hw : RunsWf l) (hl : l.length ≤ 140737488351232) : Ev (fun k => measure_Periods.f k l) (prd (risesV l true)) := by
  refine Ev.bind (measure_rises_ev hw hl) ?_
  have h1 := risesV_bound (l := l) (b := true)
  have h2 := risesV_len l true
  generalize risesV l true = r at h1 h2
  cases r with
  | nil =>
    refine Ev.step (f := fun _ => some []) (fun k => ?_) (Ev.now _)
    simp only [measure_Periods.l0]
    rw [if_neg (by simp)]
  | cons a r =>
    simp only [List.length_cons] at h2
    exact measure_Periods_l0 r [] a [] h1 (by simp only [List.length_append, List.length_cons, List.length_nil]; omega) (by simp only [List.length_nil]; omega)
theorem filter_one (cs : List (Int × Int)) : cs.filter (fun p => (p.2 == 1) == true) = cs.filter (fun p => p.2 == 1) := by
  congr 1
  funext p
  cases (p.2 == 1) <;> rfl
def pls (lev : Int) : List (Int × Int) → List S36
  | a :: b :: r => if a.2 = lev then ⟨a.1, b.1 - a.1⟩ :: pls lev (b :: r) else pls lev (b :: r)
  | _ => []
theorem pls_nil (lev : Int) : pls lev [] = [] := rfl
theorem measure_Pulses_l0 (lev : Int) (c : List S50) : ∀ (post pre : List S50) (out : List S36) (at_ : Int), c = pre ++ post → 0 < pre.length → 0 ≤ at_ → at_ + sm post ≤ 1099511627776 → RunsOk post → c.length ≤ 262144 → out.length + post.length ≤ 262144 →
    Ev (fun k => measure_Pulses.l0 k lev out c at_ c (c.length : Int) (pre.length : Int)) (out ++ pls lev (chL at_ post))
  | [], pre, out, at_, hc, hp, h0, h1, hw, hl, ho => by
    refine Ev.step (f := fun _ => some out) (fun k => ?_) (by rw [chL, pls_nil, List.append_nil]; exact Ev.now _)
    simp only [measure_Pulses.l0]
    rw [if_neg (by rw [hc]; simp)]
  | x :: post, pre, out, at_, hc, hp, h0, h1, hw, hl, ho => by
    have hx := hw.cons
    have hs := sm_nonneg hx.2
    simp only [sm] at h1
    simp only [List.length_cons] at ho
    have hlt : (pre.length : Int) < (c.length : Int) := by
      rw [hc]
      exact mid_lt pre post x
    have hr : rd_T50 c (pre.length : Int) = x := by
      rw [hc]
      exact rd_mid pre post x
    have hlen : c.length = pre.length + post.length + 1 := by
      rw [hc]
      simp only [List.length_append, List.length_cons]
      omega
    have hn : pre.length ≤ 9223372036854775806 := by omega
    have e1 : wrap64 ((c.length : Int) - 1) = (c.length : Int) - 1 := w64 (by omega) (by omega)
    have es : wrap64 ((pre.length : Int) + 1) = ((pre ++ [x]).length : Int) := succ_mid pre x hn
    cases post with
    | nil =>
      have ih := measure_Pulses_l0 lev c [] (pre ++ [x]) out (at_ + x.f1) (by rw [hc]; simp) (by simp) (by omega) (by omega) hx.2 hl (by simp only [List.length_nil]; omega)
      have e2 : pls lev (chL at_ [x]) = pls lev (chL (at_ + x.f1) []) := rfl
      rw [e2]
      refine Ev.step (fun k => ?_) ih
      simp only [measure_Pulses.l0]
      simp only [List.length_nil] at hlen
      rw [hr, if_pos hlt, if_pos (by omega), if_pos hlt, if_pos (by omega), e1, if_neg (by omega), w64 (x := at_ + x.f1) (by omega) (by omega), es]
    | cons y post =>
      simp only [List.length_cons] at hlen ho
      by_cases c1 : x.f0 = lev
      · have ih := measure_Pulses_l0 lev c (y :: post) (pre ++ [x]) (out ++ [⟨at_, x.f1⟩]) (at_ + x.f1) (by rw [hc]; simp) (by simp) (by omega) (by omega) hx.2 hl (by simp only [List.length_append, List.length_cons, List.length_nil]; omega)
        have e2 : pls lev (chL at_ (x :: y :: post)) = (⟨at_, x.f1⟩ : S36) :: pls lev (chL (at_ + x.f1) (y :: post)) := by
          simp only [chL, pls]
          rw [if_pos c1, show at_ + x.f1 - at_ = x.f1 by omega]
        rw [e2, mid_snoc out _ (⟨at_, x.f1⟩ : S36)]
        refine Ev.step (fun k => ?_) ih
        simp only [measure_Pulses.l0]
        rw [hr, if_pos hlt, if_pos (by omega), if_pos hlt, if_pos (by omega), e1, if_pos (by omega), if_pos c1, if_pos (by omega), w64 (x := at_ + x.f1) (by omega) (by omega), es]
      · have ih := measure_Pulses_l0 lev c (y :: post) (pre ++ [x]) out (at_ + x.f1) (by rw [hc]; simp) (by simp) (by omega) (by omega) hx.2 hl (by simp only [List.length_cons]; omega)
        have e2 : pls lev (chL at_ (x :: y :: post)) = pls lev (chL (at_ + x.f1) (y :: post)) := by
          simp only [chL, pls]
          rw [if_neg c1]
        rw [e2]
        refine Ev.step (fun k => ?_) ih
        simp only [measure_Pulses.l0]
        rw [hr, if_pos hlt, if_pos (by omega), if_pos hlt, if_pos (by omega), e1, if_pos (by omega), if_neg c1, w64 (x := at_ + x.f1) (by omega) (by omega), es]
theorem clean_facts (l : List S50) : RunsOk (cleanV l) ∧ sm (cleanV l) ≤ 1099511627776 ∧ (cleanV l).length ≤ 262144 := by
  unfold cleanV
  split
  · rename_i v
    have := vld_iff.1 (jn_vld v)
    exact ⟨this.2.1, this.2.2, this.1⟩
  · exact ⟨fun x hx => by simp at hx, by simp [sm], by simp⟩
theorem measure_Pulses_ev {l : List S50} {lev : Int} (hw : RunsWf l) (hl : l.length ≤ 140737488351232) : Ev (fun k => measure_Pulses.f k l lev) (pls lev (chsV l)) := by
  refine Ev.bind (wave_Clean_ev hw hl) ?_
  rw [← chT_clean]
  have hc := clean_facts l
  generalize cleanV l = c at hc
  cases c with
  | nil =>
    refine Ev.step (f := fun _ => some []) (fun k => ?_) (Ev.now _)
    simp only [measure_Pulses.l0]
    rw [if_neg (by simp)]
  | cons x c =>
    have hx := hc.1.cons
    have hs := sm_nonneg hx.2
    have h2 := hc.2.1
    have h3 := hc.2.2
    simp only [sm] at h2
    simp only [List.length_cons] at h3
    have h := measure_Pulses_l0 lev (x :: c) c [x] [] x.f1 rfl (by simp) (by omega) (by omega) hx.2 hc.2.2 (by simp only [List.length_nil]; omega)
    refine Ev.step (fun k => ?_) h
    simp only [measure_Pulses.l0]
    rw [rd_zero, if_pos (by simp only [List.length_cons]; omega), if_pos (by omega), if_pos (by simp only [List.length_cons]; omega), if_neg (by omega), w64 (x := 0 + x.f1) (by omega) (by omega), Int.zero_add, wrap01]
    rfl
theorem pls_len (lev : Int) : ∀ (cs : List (Int × Int)), (pls lev cs).length ≤ cs.length
  | [] => by simp [pls]
  | [a] => by simp [pls]
  | a :: b :: r => by
    have := pls_len lev (b :: r)
    rw [pls]
    split <;> simp only [List.length_cons] at this ⊢ <;> omega
theorem chF_sorted : ∀ {l : List S50} {p at_ : Int}, RunsOk l → (chF p at_ l).Pairwise (fun a b => a.1 < b.1)
  | [], p, at_, h => List.Pairwise.nil
  | x :: l, p, at_, h => by
    have hx := h.cons
    have ih := chF_sorted (l := l) (p := x.f0) (at_ := at_ + x.f1) hx.2
    unfold chF
    split
    · exact ih
    · refine List.Pairwise.cons (fun c hc => ?_) ih
      have := chF_bound hx.2 c hc
      simp only
      omega
theorem chsV_sorted (l : List S50) : (chsV l).Pairwise (fun a b => a.1 < b.1) := by
  unfold chsV
  split
  · rename_i v
    cases l with
    | nil => exact List.Pairwise.nil
    | cons x l => exact chF_sorted (vld_iff.1 v).2.1.cons.2
  · exact List.Pairwise.nil
def altF : Int → List (Int × Int) → Prop
  | _, [] => True
  | p, c :: cs => p ≠ c.2 ∧ altF c.2 cs
theorem chF_alt : ∀ (l : List S50) (p at_ : Int), altF p (chF p at_ l)
  | [], p, at_ => trivial
  | x :: l, p, at_ => by
    unfold chF
    split
    · rename_i c
      have := chF_alt l x.f0 (at_ + x.f1)
      rw [← c] at this ⊢
      exact this
    · rename_i c
      exact ⟨c, chF_alt l x.f0 (at_ + x.f1)⟩
def alt : List (Int × Int) → Prop
  | [] => True
  | c :: cs => altF c.2 cs
theorem chsV_alt (l : List S50) : alt (chsV l) := by
  unfold chsV
  split
  · cases l with
    | nil => trivial
    | cons x l =>
      have h := chF_alt l x.f0 x.f1
      show alt (chF x.f0 x.f1 l)
      generalize chF x.f0 x.f1 l = cs at h
      cases cs with
      | nil => trivial
      | cons c cs => exact h.2
  · trivial
theorem pls_bound {lev : Int} : ∀ {cs : List (Int × Int)}, cs.Pairwise (fun a b => a.1 < b.1) → (∀ c ∈ cs, 0 ≤ c.1 ∧ c.1 ≤ 1099511627776) → ∀ g ∈ pls lev cs, (0 ≤ g.f0 ∧ g.f0 ≤ 1099511627776) ∧ 0 ≤ g.f1 ∧ g.f1 ≤ 1099511627776
  | [], _, _, g, hg => by simp [pls] at hg
  | [a], _, _, g, hg => by simp [pls] at hg
  | a :: b :: r, hs, hb, g, hg => by
    have hs' := List.pairwise_cons.1 hs
    have hab := hs'.1 b (by simp)
    have ha := hb a (by simp)
    have hb1 := hb b (by simp)
    have ih := pls_bound (lev := lev) hs'.2 (fun c hc => hb c (List.mem_cons_of_mem _ hc))
    rw [pls] at hg
    split at hg
    · rcases List.mem_cons.1 hg with rfl | hg
      · simp only
        omega
      · exact ih g hg
    · exact ih g hg
theorem lives_ev : Ev (fun k => signalbenchlaw48_lives.f k) true := Ev.of (k := 40) (fun k => signalbenchlaw48_lives.mono k) (by decide +kernel)
theorem prd_len : ∀ (r : List Int), (prd r : List S36).length ≤ r.length
  | [] => by simp [prd]
  | [a] => by simp [prd]
  | a :: b :: r => by
    have := prd_len (b :: r)
    simp only [prd, List.length_cons] at this ⊢
    omega
theorem law_find_l0 (at_ : Int) : ∀ (post pre : List S36), (pre ++ post).length ≤ 262144 → (∃ g ∈ post, g.f0 = at_) →
    ∃ q g r, pre ++ post = q ++ g :: r ∧ g.f0 = at_ ∧ Ev (fun k => signalbenchlaw48_find.l0 k (pre ++ post) at_ (pre.length : Int)) (q.length : Int)
  | [], pre, hl, ⟨g, hg, _⟩ => by simp at hg
  | x :: post, pre, hl, h => by
    have hlt := midg_lt pre post x
    have hn : pre.length ≤ 9223372036854775806 := by
      simp only [List.length_append, List.length_cons] at hl
      omega
    by_cases c : x.f0 = at_
    · refine ⟨pre, x, post, rfl, c, Ev.step (f := fun _ => some (pre.length : Int)) (fun k => ?_) (Ev.now _)⟩
      simp only [signalbenchlaw48_find.l0]
      rw [rdG_mid, if_pos hlt, if_pos (by omega), if_pos c]
    · have h' : ∃ g ∈ post, g.f0 = at_ := by
        obtain ⟨g, hg, e⟩ := h
        rcases List.mem_cons.1 hg with rfl | hg
        · exact absurd e c
        · exact ⟨g, hg, e⟩
      obtain ⟨q, g, r, e1, e2, ih⟩ := law_find_l0 at_ post (pre ++ [x]) (by simpa using hl) h'
      rw [← mid_snoc pre post x] at e1 ih
      refine ⟨q, g, r, e1, e2, Ev.step (fun k => ?_) ih⟩
      simp only [signalbenchlaw48_find.l0]
      rw [rdG_mid, if_pos hlt, if_pos (by omega), if_neg c, succ_mid pre x hn]
theorem pls_sorted {lev : Int} : ∀ {cs : List (Int × Int)}, cs.Pairwise (fun a b => a.1 < b.1) → (pls lev cs).Pairwise (fun a b => a.f0 < b.f0) ∧ ∀ g ∈ pls lev cs, ∃ c ∈ cs, c.1 = g.f0
  | [], _ => by simp [pls]
  | [a], _ => by simp [pls]
  | a :: b :: r, h => by
    have h' := List.pairwise_cons.1 h
    have ih := pls_sorted (lev := lev) h'.2
    rw [pls]
    split
    · refine ⟨List.Pairwise.cons (fun g hg => ?_) ih.1, fun g hg => ?_⟩
      · obtain ⟨c, hc, e⟩ := ih.2 g hg
        have := h'.1 c hc
        simp only
        omega
      · rcases List.mem_cons.1 hg with rfl | hg
        · exact ⟨a, by simp, rfl⟩
        · obtain ⟨c, hc, e⟩ := ih.2 g hg
          exact ⟨c, List.mem_cons_of_mem _ hc, e⟩
    · refine ⟨ih.1, fun g hg => ?_⟩
      obtain ⟨c, hc, e⟩ := ih.2 g hg
      exact ⟨c, List.mem_cons_of_mem _ hc, e⟩
theorem sorted_unique : ∀ {gs : List S36}, gs.Pairwise (fun a b => a.f0 < b.f0) → ∀ {g h : S36}, g ∈ gs → h ∈ gs → g.f0 = h.f0 → g = h
  | [], _, g, h, hg, _, _ => by simp at hg
  | x :: gs, hp, g, h, hg, hh, e => by
    have hp' := List.pairwise_cons.1 hp
    rcases List.mem_cons.1 hg with hg2 | hg2
    · rcases List.mem_cons.1 hh with hh2 | hh2
      · rw [hg2, hh2]
      · have := hp'.1 h hh2
        rw [hg2] at e
        omega
    · rcases List.mem_cons.1 hh with hh2 | hh2
      · have := hp'.1 g hg2
        rw [hh2] at e
        omega
      · exact sorted_unique hp'.2 hg2 hh2 e
/-- The pulse at a tick is found. -/
theorem find_at {gs : List S36} (hs : gs.Pairwise (fun a b => a.f0 < b.f0)) (hl : gs.length ≤ 262144) {g : S36} (hg : g ∈ gs) :
    ∃ i : Nat, i < gs.length ∧ rd_T36 gs (i : Int) = g ∧ Ev (fun k => signalbenchlaw48_find.f k gs g.f0) (i : Int) := by
  obtain ⟨q, h, r, e1, e2, hev⟩ := law_find_l0 g.f0 gs [] (by simpa using hl) ⟨g, hg, rfl⟩
  rw [List.nil_append] at e1 hev
  have hh : h ∈ gs := by
    rw [e1]
    simp
  have : h = g := sorted_unique hs hh hg e2
  subst this
  refine ⟨q.length, ?_, ?_, Ev.congr (fun k => rfl) hev⟩
  · rw [e1]
    simp only [List.length_append, List.length_cons]
    omega
  · rw [e1]
    exact rdG_mid q r h
def ris (cs : List (Int × Int)) : List Int := (cs.filter (fun p => p.2 == 1)).map (·.1)
theorem ris_one {c : Int × Int} {cs : List (Int × Int)} (h : c.2 = 1) : ris (c :: cs) = c.1 :: ris cs := by
  unfold ris
  rw [List.filter_cons_of_pos (by simpa using h), List.map_cons]
theorem ris_zero {c : Int × Int} {cs : List (Int × Int)} (h : c.2 ≠ 1) : ris (c :: cs) = ris cs := by
  unfold ris
  rw [List.filter_cons_of_neg (by simpa using h)]
theorem pls_more {lev : Int} {c : Int × Int} {cs : List (Int × Int)} {g : S36} (h : g ∈ pls lev cs) : g ∈ pls lev (c :: cs) := by
  cases cs with
  | nil => simp [pls] at h
  | cons b r =>
    rw [pls]
    split
    · exact List.mem_cons_of_mem _ h
    · exact h
theorem alt_tail {c : Int × Int} : ∀ {cs : List (Int × Int)}, alt (c :: cs) → alt cs
  | [], _ => trivial
  | d :: cs, h => h.2
/-- Between two rises that follow one another lies one fall. -/
theorem between_rises : ∀ (cs : List (Int × Int)), alt cs → (∀ c ∈ cs, c.2 = 0 ∨ c.2 = 1) → ∀ (q : List Int) (a b : Int) (post : List Int), ris cs = q ++ a :: b :: post →
    ∃ m, (⟨a, m - a⟩ : S36) ∈ pls 1 cs ∧ (⟨m, b - m⟩ : S36) ∈ pls 0 cs
  | [], _, _, q, a, b, post, h => by
    have := congrArg List.length h
    simp [ris] at this
  | c :: cs, ha, hv, q, a, b, post, h => by
    by_cases c1 : c.2 = 1
    · rw [ris_one c1] at h
      cases q with
      | cons x q =>
        simp only [List.cons_append, List.cons.injEq] at h
        obtain ⟨m, h1, h2⟩ := between_rises cs (alt_tail ha) (fun d hd => hv d (List.mem_cons_of_mem _ hd)) q a b post h.2
        exact ⟨m, pls_more h1, pls_more h2⟩
      | nil =>
        simp only [List.nil_append, List.cons.injEq] at h
        obtain ⟨ea, h⟩ := h
        cases cs with
        | nil =>
          have := congrArg List.length h
          simp [ris] at this
        | cons d cs =>
          have hd0 : d.2 = 0 := by
            have h1 := hv d (by simp)
            have h2 := ha.1
            omega
          rw [ris_zero (by omega)] at h
          cases cs with
          | nil =>
            have := congrArg List.length h
            simp [ris] at this
          | cons e cs =>
            have he1 : e.2 = 1 := by
              have h1 := hv e (by simp)
              have h2 := ha.2.1
              omega
            rw [ris_one he1] at h
            simp only [List.cons.injEq] at h
            refine ⟨d.1, ?_, ?_⟩
            · rw [pls, if_pos c1, ea]
              simp
            · refine pls_more ?_
              rw [pls, if_pos hd0, h.1]
              simp
    · rw [ris_zero c1] at h
      obtain ⟨m, h1, h2⟩ := between_rises cs (alt_tail ha) (fun d hd => hv d (List.mem_cons_of_mem _ hd)) q a b post h
      exact ⟨m, pls_more h1, pls_more h2⟩
theorem MeasurePulses_l0 {high low : List S36} (hh : high.Pairwise (fun a b => a.f0 < b.f0)) (hlo : low.Pairwise (fun a b => a.f0 < b.f0)) (hhl : high.length ≤ 262144) (hll : low.length ≤ 262144)
    (p : List S36) (hpl : p.length ≤ 262144) (r : List Int) (hp : p = prd r) (hb : ∀ e ∈ r, 0 ≤ e ∧ e ≤ 1099511627776)
    (hbt : ∀ (q : List Int) (a b : Int) (post : List Int), r = q ++ a :: b :: post → ∃ m, 0 ≤ m ∧ m ≤ 1099511627776 ∧ (⟨a, m - a⟩ : S36) ∈ high ∧ (⟨m, b - m⟩ : S36) ∈ low) :
    ∀ (post q : List Int) (a : Int) (pre : List S36), r = q ++ a :: post → p = pre ++ prd (a :: post) → (∀ g, pre.getLast? = some g → g.f0 + g.f1 = a ∧ 0 ≤ g.f0 ∧ g.f0 ≤ 1099511627776) → Ev (fun k => signalbenchlaw48_MeasurePulses.l0 k p high low (pre.length : Int)) true
  | [], q, a, pre, hr, hpre, hla => by
    refine Ev.step (f := fun _ => some true) (fun k => ?_) (Ev.now _)
    simp only [signalbenchlaw48_MeasurePulses.l0]
    rw [prd_one, List.append_nil] at hpre
    rw [if_neg (by rw [hpre]; omega)]
  | b :: post, q, a, pre, hr, hpre, hla => by
    rw [prd] at hpre
    have ih := MeasurePulses_l0 hh hlo hhl hll p hpl r hp hb hbt post (q ++ [a]) b (pre ++ [⟨a, b - a⟩]) (by rw [hr]; simp) (by rw [hpre]; simp) (fun g hg => by
      have hga : (⟨a, b - a⟩ : S36) = g := by simpa using hg
      subst hga
      have h1 := hb a (by rw [hr]; simp)
      simp only
      omega)
    have ha1 := hb a (by rw [hr]; simp)
    have hb1 := hb b (by rw [hr]; simp)
    have hlt : (pre.length : Int) < (p.length : Int) := by
      rw [hpre]
      exact midg_lt _ _ _
    have hn : pre.length ≤ 9223372036854775806 := by omega
    have hrd : rd_T36 p (pre.length : Int) = ⟨a, b - a⟩ := by
      rw [hpre]
      exact rdG_mid _ _ _
    obtain ⟨m, hm0, hm1, hmh, hml⟩ := hbt q a b post hr
    obtain ⟨i, hi, hri, hei⟩ := find_at hh hhl hmh
    obtain ⟨j, hj, hrj, hej⟩ := find_at hlo hll hml
    have hj2 : Ev (fun k => signalbenchlaw48_MeasurePulses.j2 k p high low (pre.length : Int) false) true := by
      refine Ev.step (f := fun k => (signalbenchlaw48_find.f k high a).bind fun t310 => (if t310 < 0 then (some false) else (if 0 ≤ t310 then (if t310 < (high.length : Int) then ((signalbenchlaw48_find.f k low (wrap64 (a + ((rd_T36 high t310).f1)))).bind fun t313 => (if t313 < 0 then (some false) else (if 0 ≤ t313 then (if t313 < (low.length : Int) then (if (wrap64 (((rd_T36 high t310).f1) + ((rd_T36 low t313).f1))) = b - a then (signalbenchlaw48_MeasurePulses.l0 k p high low (wrap64 ((pre.length : Int) + 1))) else (some false)) else (none)) else (none)))) else (none)) else (none)))) (fun k => ?_) (Ev.bind hei ?_)
      · simp only [signalbenchlaw48_MeasurePulses.j2]
        rw [if_neg (by simp), if_pos (by omega), if_pos hlt, hrd]
      · refine Ev.congr (f := fun k => (signalbenchlaw48_find.f k low m).bind fun t313 => (if t313 < 0 then (some false) else (if 0 ≤ t313 then (if t313 < (low.length : Int) then (if (wrap64 ((m - a) + ((rd_T36 low t313).f1))) = b - a then (signalbenchlaw48_MeasurePulses.l0 k p high low (wrap64 ((pre.length : Int) + 1))) else (some false)) else (none)) else (none)))) (fun k => ?_) (Ev.bind hej ?_)
        · rw [if_neg (by omega), if_pos (by omega), if_pos (by omega), hri]
          simp only
          rw [w64 (x := a + (m - a)) (by omega) (by omega), show a + (m - a) = m by omega]
        · refine Ev.congr (fun k => ?_) ih
          rw [if_neg (by omega), if_pos (by omega), if_pos (by omega), hrj]
          simp only
          rw [w64 (x := m - a + (b - m)) (by omega) (by omega), if_pos (by omega), succ_mid pre (⟨a, b - a⟩ : S36) hn]
    refine Ev.step (fun k => ?_) hj2
    simp only [signalbenchlaw48_MeasurePulses.l0]
    rw [if_pos hlt]
    rcases List.eq_nil_or_concat pre with rfl | ⟨pre', g, rfl⟩
    · rw [if_neg (by simp)]
    · have hg := hla g (by simp)
      simp only [List.concat_eq_append] at *
      have e1 : wrap64 (((pre' ++ [g]).length : Int) - 1) = (pre'.length : Int) := by
        rw [w64 (by simp only [List.length_append, List.length_cons, List.length_nil]; omega) (by omega)]
        simp
      have e2 : rd_T36 p (pre'.length : Int) = g := by
        rw [hpre, ← mid_snoc]
        exact rdG_mid _ _ _
      have e3 : (pre'.length : Int) < (p.length : Int) := by
        simp only [List.length_append, List.length_cons, List.length_nil] at hlt
        omega
      rw [if_pos (by simp only [List.length_append, List.length_cons, List.length_nil]; omega), if_pos (by omega), e1, if_pos (by omega), if_pos e3, hrd, e2, hg.1, w64 (by omega) (by omega)]
      simp
theorem MeasurePulses_pure {l : List S50} (hw : RunsWf l) (hl : l.length ≤ 140737488351232) : ∃ k, signalbenchlaw48_MeasurePulses.f k l = some true := by
  refine Ev.rounds (g := fun k => signalbenchlaw48_MeasurePulses.f k l) (Ev.bind lives_ev ?_)
  simp only [if_true]
  have stop : Ev (fun k => signalbenchlaw48_MeasurePulses.j0 k l true) true := Ev.step (f := fun _ => some true) (fun k => by
    simp only [signalbenchlaw48_MeasurePulses.j0]
    rw [if_pos trivial]) (Ev.now _)
  by_cases c : (l.length : Int) > 1000
  · exact Ev.congr (fun k => if_pos c) stop
  · refine Ev.congr (fun k => if_neg c) (Ev.bind (wave_Valid_ev hw hl) ?_)
    by_cases v : vld l = true
    · rw [v]
      refine Ev.step (f := fun k => (measure_Periods.f k l).bind fun t297 => ((measure_Pulses.f k l 1).bind fun t300 => ((measure_Pulses.f k l 0).bind fun t303 => (signalbenchlaw48_MeasurePulses.l0 k t297 t300 t303 0)))) (fun k => ?_) ?_
      · simp only [signalbenchlaw48_MeasurePulses.j0]
        rw [if_neg (by simp)]
      · refine Ev.bind (measure_Periods_ev hw hl) (Ev.bind (measure_Pulses_ev hw hl) (Ev.bind (measure_Pulses_ev hw hl) ?_))
        have hs := chsV_sorted l
        have hcl := chsV_len2 l
        have hrl := risesV_len l true
        have hpl := prd_len (risesV l true)
        have hb := risesV_bound (l := l) (b := true)
        have hcb := chsV_bound (l := l)
        have er : risesV l true = ris (chsV l) := by
          unfold risesV ris
          rw [filter_one]
        have h1 := pls_len 1 (chsV l)
        have h0 := pls_len 0 (chsV l)
        have hpb := pls_bound (lev := 0) hs (fun c hc => by have := hcb c hc; omega)
        have main := MeasurePulses_l0 (pls_sorted (lev := 1) hs).1 (pls_sorted (lev := 0) hs).1 (by omega) (by omega) (prd (risesV l true)) (by omega) (risesV l true) rfl hb (fun q a b post e => by
          rw [er] at e
          obtain ⟨m, hm1, hm0⟩ := between_rises (chsV l) (chsV_alt l) (fun c hc => (hcb c hc).2.2) q a b post e
          have := hpb _ hm0
          exact ⟨m, this.1.1, this.1.2, hm1, hm0⟩)
        cases hr : risesV l true with
        | nil =>
          refine Ev.step (f := fun _ => some true) (fun k => ?_) (Ev.now _)
          simp only [signalbenchlaw48_MeasurePulses.l0]
          have e : (prd [] : List S36) = [] := rfl
          rw [e, if_neg (by simp)]
        | cons a r =>
          rw [hr] at main
          exact main r [] a [] rfl rfl (fun g hg => by simp at hg)
    · rw [Bool.eq_false_iff.2 v]
      exact stop
end Go.Proofs.Ytdbbmjfiglcfhaa
