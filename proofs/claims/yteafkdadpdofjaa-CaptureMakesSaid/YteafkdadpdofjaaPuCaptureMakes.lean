/- The law CaptureMakes as a plain statement on numbers and lists: with enough rounds it answers true; conditions: each number is one of its kind, no list or string is longer than its memory allows. -/
import Derived.Laws.BitsAllLaws
import Derived.WalkKit
import Derived.Test.YteafkdadpdofjaaWMore
import Derived.Laws.Strings
import Derived.Test.YteafkdadpdofjaaQx0
import Derived.Test.YteafkdadpdofjaaQx3
import Derived.Test.YteafkdadpdofjaaQx4
import Derived.Test.YteafkdadpdofjaaQx5
import Derived.Test.YteafkdadpdofjaaQx6
import Derived.Test.YteafkdadpdofjaaQx7
import Derived.Test.YteafkdadpdofjaaQx8
import Derived.Test.YteafkdadpdofjaaQx11
import Derived.Test.YteafkdadpdofjaaQx12
import Derived.Test.YteafkdadpdofjaaQx13
import Derived.Test.YteafkdadpdofjaaQx14
import Derived.Test.YteafkdadpdofjaaQx15
import Derived.Test.YteafkdadpdofjaaQx23
import Derived.Test.YteafkdadpdofjaaQx24
import Derived.Test.YteafkdadpdofjaaQx25
import Derived.Test.YteafkdadpdofjaaQx26
import Derived.Test.YteafkdadpdofjaaQx28
import Derived.Test.YteafkdadpdofjaaQx31
import Derived.Test.YteafkdadpdofjaaQx32
import Derived.Test.YteafkdadpdofjaaQx44
import Derived.Test.YteafkdadpdofjaaQx45
import Derived.Test.YteafkdadpdofjaaQx46
namespace Go.Proofs.Yteafkdadpdofjaa
open Go Go.RowKit Go.Proofs.YteafkdadpdofjaaW.PrintWords Go.Proofs.YteafkdadpdofjaaW.PrintLast Go.Proofs.Yteafkdadpdofjaa.Q
set_option linter.unusedVariables false
theorem w64 {x : Int} (h0 : -9223372036854775808 ≤ x) (h1 : x ≤ 9223372036854775807) : wrap64 x = x := by
  unfold wrap64
  omega
theorem wf64 {x : Int} (h : (Lit.int .i64 x).wf = true) : -9223372036854775808 ≤ x ∧ x ≤ 9223372036854775807 := by
  simp [Lit.wf, IntKind.min, IntKind.max, IntKind.bits, IntKind.signed] at h
  omega
theorem andNot1 {a : Int} (h : (Lit.int .i64 a).wf = true) : Go.bits .andNot .i64 a 1 = 0 ↔ a = 0 ∨ a = 1 := by
  have hw := wf64 h
  have e1 : Go.bits .andNot .i64 a 1 = IntKind.i64.wrap (((BitVec.ofInt 64 a &&& ~~~BitVec.ofInt 64 1).toNat : Nat) : Int) := rfl
  have e2 : (BitVec.ofInt 64 a &&& ~~~BitVec.ofInt 64 1).toNat = (BitVec.ofInt 64 a).toNat &&& 18446744073709551614 := by
    rw [BitVec.toNat_and]
    rfl
  have e3 : ((BitVec.ofInt 64 a).toNat : Int) = a % 18446744073709551616 := by
    rw [BitVec.toNat_ofInt]
    omega
  rw [e1, e2, nat_hi64_1, IntKind.wrap_i64]
  omega
theorem succ_mid {α : Type} (pre : List α) (x : α) (h : pre.length ≤ 9223372036854775806) : wrap64 ((pre.length : Int) + 1) = ((pre ++ [x]).length : Int) := by
  rw [w64 (by omega) (by omega)]
  simp
theorem mid_snoc {α : Type} (pre post : List α) (x : α) : pre ++ x :: post = (pre ++ [x]) ++ post := by simp
def sm : List S48 → Int
  | [] => 0
  | x :: l => x.f1 + sm l
def vldF (left : Int) : List S48 → Bool
  | [] => true
  | x :: l => if (x.f0 = 0 ∨ x.f0 = 1) ∧ 1 ≤ x.f1 ∧ x.f1 ≤ left then vldF (left - x.f1) l else false
def vld (l : List S48) : Bool := if l.length ≤ 262144 then vldF 1099511627776 l else false
def RunWf (x : S48) : Prop := (Lit.int .i64 x.f0).wf = true ∧ (Lit.int .i64 x.f1).wf = true
def RunsWf (l : List S48) : Prop := ∀ x ∈ l, RunWf x
def RunsOk (l : List S48) : Prop := ∀ x ∈ l, (x.f0 = 0 ∨ x.f0 = 1) ∧ 1 ≤ x.f1
theorem rd_mid (pre post : List S48) (x : S48) : rd_T48 (pre ++ x :: post) (pre.length : Int) = x := by simp [rd_T48, List.getD]
theorem mid_lt (pre post : List S48) (x : S48) : (pre.length : Int) < ((pre ++ x :: post).length : Int) := by
  simp only [List.length_append, List.length_cons]
  omega
theorem sm_nonneg : ∀ {l : List S48}, RunsOk l → 0 ≤ sm l
  | [], _ => Int.le_refl _
  | x :: l, h => by
    have h1 := h x (by simp)
    have h2 := sm_nonneg (l := l) (fun y hy => h y (by simp [hy]))
    simp only [sm]
    omega
theorem sm_append : ∀ (a b : List S48), sm (a ++ b) = sm a + sm b
  | [], b => by simp [sm]
  | x :: a, b => by
    have := sm_append a b
    simp only [List.cons_append, sm]
    omega
theorem vldF_iff : ∀ {l : List S48} {left : Int}, 0 ≤ left → (vldF left l = true ↔ RunsOk l ∧ sm l ≤ left)
  | [], left, h => by simp [vldF, RunsOk, sm, h]
  | x :: l, left, h => by
    unfold vldF
    by_cases c : (x.f0 = 0 ∨ x.f0 = 1) ∧ 1 ≤ x.f1 ∧ x.f1 ≤ left
    · rw [if_pos c, vldF_iff (l := l) (by omega)]
      simp only [RunsOk, sm, List.mem_cons, forall_eq_or_imp]
      constructor
      · rintro ⟨h1, h2⟩
        exact ⟨⟨⟨c.1, c.2.1⟩, h1⟩, by omega⟩
      · rintro ⟨⟨h1, h2⟩, h3⟩
        exact ⟨h2, by omega⟩
    · rw [if_neg c]
      simp only [Bool.false_eq_true, false_iff]
      rintro ⟨h1, h2⟩
      have h3 := h1 x (by simp)
      have h4 := sm_nonneg (l := l) (fun y hy => h1 y (by simp [hy]))
      simp only [sm] at h2
      exact c ⟨h3.1, h3.2, by omega⟩
theorem vld_iff {l : List S48} : vld l = true ↔ l.length ≤ 262144 ∧ RunsOk l ∧ sm l ≤ 1099511627776 := by
  unfold vld
  by_cases c : l.length ≤ 262144
  · rw [if_pos c, vldF_iff (by omega)]
    simp [c]
  · rw [if_neg c]
    simp [c]
theorem RunsOk.cons {x : S48} {l : List S48} (h : RunsOk (x :: l)) : ((x.f0 = 0 ∨ x.f0 = 1) ∧ 1 ≤ x.f1) ∧ RunsOk l := ⟨h x (by simp), fun y hy => h y (by simp [hy])⟩
theorem RunsOk.left {a b : List S48} (h : RunsOk (a ++ b)) : RunsOk a := fun x hx => h x (List.mem_append_left _ hx)
theorem wave_Valid_l0 : ∀ (post pre : List S48) (left : Int), 0 ≤ left → left ≤ 1099511627776 → RunsWf post → (pre ++ post).length ≤ 140737488351232 →
    Ev (fun k => wave_Valid.l0 k left (pre ++ post) ((pre ++ post).length : Int) (pre.length : Int)) (vldF left post)
  | [], pre, left, h0, h1, hw, hl => by
    refine Ev.step (f := fun _ => some true) (fun k => ?_) (Ev.now _)
    simp only [wave_Valid.l0]
    rw [if_neg (by simp)]
  | x :: post, pre, left, h0, h1, hw, hl => by
    have hx := hw x (by simp)
    have hlt := mid_lt pre post x
    have hn : pre.length ≤ 9223372036854775806 := by
      simp only [List.length_append, List.length_cons] at hl
      omega
    by_cases c : (x.f0 = 0 ∨ x.f0 = 1) ∧ 1 ≤ x.f1 ∧ x.f1 ≤ left
    · have ih := wave_Valid_l0 post (pre ++ [x]) (left - x.f1) (by omega) (by omega) (fun y hy => hw y (by simp [hy])) (by simpa using hl)
      rw [← mid_snoc] at ih
      rw [vldF, if_pos c]
      refine Ev.step (fun k => ?_) ih
      simp only [wave_Valid.l0]
      rw [rd_mid, if_pos hlt, if_pos (by omega), if_pos hlt, if_pos ((andNot1 hx.1).2 c.1), if_neg (by omega), if_neg (by omega), w64 (by omega) (by omega), succ_mid _ _ hn]
    · rw [vldF, if_neg c]
      refine Ev.step (f := fun _ => some false) (fun k => ?_) (Ev.now _)
      simp only [wave_Valid.l0]
      rw [rd_mid, if_pos hlt, if_pos (by omega), if_pos hlt]
      by_cases c1 : x.f0 = 0 ∨ x.f0 = 1
      · rw [if_pos ((andNot1 hx.1).2 c1)]
        by_cases c2 : x.f1 < 1
        · rw [if_pos c2]
        · rw [if_neg c2, if_pos (by
            have : ¬ (1 ≤ x.f1 ∧ x.f1 ≤ left) := fun h => c ⟨c1, h⟩
            omega)]
      · rw [if_neg (fun h => c1 ((andNot1 hx.1).1 h))]
theorem wave_Valid_ev {l : List S48} (hw : RunsWf l) (hl : l.length ≤ 140737488351232) : Ev (fun k => wave_Valid.f k l) (vld l) := by
  unfold vld
  by_cases c : l.length ≤ 262144
  · rw [if_pos c]
    refine Ev.congr (fun k => ?_) (wave_Valid_l0 l [] 1099511627776 (by omega) (by omega) hw (by simpa using hl))
    unfold wave_Valid.f
    rw [if_neg (by omega)]
    rfl
  · rw [if_neg c]
    refine Ev.congr (fun k => ?_) (Ev.now _)
    unfold wave_Valid.f
    rw [if_pos (by omega)]
def longV (l : List S48) : Int := if vld l = true then sm l else 0
theorem wave_sum_l0 : ∀ (post pre : List S48) (s : Int), 0 ≤ s → s + sm post ≤ 4611686018427387904 → RunsOk post → (pre ++ post).length ≤ 140737488351232 →
    Ev (fun k => wave_sum.l0 k s (pre ++ post) ((pre ++ post).length : Int) (pre.length : Int)) (s + sm post)
  | [], pre, s, h0, h1, hw, hl => by
    refine Ev.step (f := fun _ => some s) (fun k => ?_) ?_
    · simp only [wave_sum.l0]
      rw [if_neg (by simp)]
    · simp only [sm, Int.add_zero]
      exact Ev.now _
  | x :: post, pre, s, h0, h1, hw, hl => by
    have hx := hw.cons
    have hs := sm_nonneg hx.2
    simp only [sm] at h1
    have hlt := mid_lt pre post x
    have hn : pre.length ≤ 9223372036854775806 := by
      simp only [List.length_append, List.length_cons] at hl
      omega
    have ih := wave_sum_l0 post (pre ++ [x]) (s + x.f1) (by omega) (by omega) hx.2 (by simpa using hl)
    rw [← mid_snoc] at ih
    have e1 : s + sm (x :: post) = s + x.f1 + sm post := by
      simp only [sm]
      omega
    rw [e1]
    refine Ev.step (fun k => ?_) ih
    simp only [wave_sum.l0]
    rw [rd_mid, if_pos hlt, if_pos (by omega), if_pos hlt, w64 (x := s + x.f1) (by omega) (by omega), succ_mid _ _ hn]
theorem wave_sum_ev {l : List S48} (hw : RunsOk l) (hs : sm l ≤ 4611686018427387904) (hl : l.length ≤ 140737488351232) : Ev (fun k => wave_sum.f k l) (sm l) := by
  have h := wave_sum_l0 l [] 0 (by omega) (by omega) hw (by simpa using hl)
  rw [Int.zero_add] at h
  exact Ev.congr (fun k => rfl) h
theorem wave_Long_ev {l : List S48} (hw : RunsWf l) (hl : l.length ≤ 140737488351232) : Ev (fun k => wave_Long.f k l) (longV l) := by
  unfold longV
  refine Ev.bind (wave_Valid_ev hw hl) ?_
  by_cases v : vld l = true
  · simp only [if_pos v]
    have hv := vld_iff.1 v
    exact Ev.bind (wave_sum_ev hv.2.1 (by omega) hl) (Ev.now _)
  · simp only [if_neg v]
    exact Ev.now _
theorem last_at (o : List S48) (x : S48) (h : o.length ≤ 9223372036854775806) : wrap64 (((o ++ [x]).length : Int) - 1) = (o.length : Int) := by
  rw [w64 (by simp only [List.length_append, List.length_cons, List.length_nil]; omega) (by simp only [List.length_append, List.length_cons, List.length_nil]; omega)]
  simp
theorem rd_last (o : List S48) (x : S48) : rd_T48 (o ++ [x]) (o.length : Int) = x := rd_mid o [] x
theorem set_last (o : List S48) (x y : S48) : (o ++ [x]).set ((o.length : Int)).toNat y = o ++ [y] := by
  rw [Int.toNat_natCast, List.set_append_right _ _ (Nat.le_refl _), Nat.sub_self]
  rfl
theorem rdi_mid (pre post : List Int) (x : Int) : rd (pre ++ x :: post) (pre.length : Int) = x := by simp [rd, List.getD]
theorem midi_lt (pre post : List Int) (x : Int) : (pre.length : Int) < ((pre ++ x :: post).length : Int) := by
  simp only [List.length_append, List.length_cons]
  omega
theorem rdl_mid (pre post : List (List S48)) (x : List S48) : rd_L3 (pre ++ x :: post) (pre.length : Int) = x := by simp [rd_L3, List.getD]
theorem midl_lt (pre post : List (List S48)) (x : List S48) : (pre.length : Int) < ((pre ++ x :: post).length : Int) := by
  simp only [List.length_append, List.length_cons]
  omega
def wd (c : Int) : Bool := if 97 ≤ c ∧ c ≤ 122 then true else if 48 ≤ c ∧ c ≤ 57 then true else if c = 95 then true else false
def wAll (s : ByteArray) : Nat → Nat → Bool
  | 0, _ => true
  | m + 1, i => if wd (bt s (i : Int)) = true then wAll s m (i + 1) else false
def nmOk (s : ByteArray) : Bool := if s.size = 0 then false else if 16 < s.size then false else if 97 ≤ bt s 0 ∧ bt s 0 ≤ 122 then wAll s s.size 0 else false
theorem w32 {x : Int} (h0 : 0 ≤ x) (h1 : x ≤ 255) : wrap32 x = x := by
  unfold wrap32
  omega
theorem nil_iff (s : ByteArray) : s.toList = ([] : List UInt8) ↔ s.size = 0 := by
  rw [ByteArray.toList_eq, ← List.length_eq_zero_iff, data_length]
theorem wd_1 {c : Int} (h : 97 ≤ c ∧ c ≤ 122) : wd c = true := by
  unfold wd
  rw [if_pos h]
theorem wd_2 {c : Int} (h : 48 ≤ c ∧ c ≤ 57) : wd c = true := by
  unfold wd
  rw [if_neg (by omega), if_pos h]
theorem wd_3 {c : Int} (h : c = 95) : wd c = true := by
  unfold wd
  rw [if_neg (by omega), if_neg (by omega), if_pos h]
theorem wd_0 {c : Int} (h : ¬ (97 ≤ c ∧ c ≤ 122)) (h1 : ¬ (48 ≤ c ∧ c ≤ 57)) (h2 : ¬ c = 95) : wd c = false := by
  unfold wd
  rw [if_neg h, if_neg h1, if_neg h2]
theorem lex_letter_eq (c : Int) : lex_letter.f c = some (decide (97 ≤ c ∧ c ≤ 122)) := by
  unfold lex_letter.f
  by_cases h : 97 ≤ c <;> simp [h]
theorem lex_word_eq (c : Int) : lex_word.f c = some (wd c) := by
  unfold lex_word.f lex_digit.f wd
  rw [lex_letter_eq]
  by_cases h : 97 ≤ c ∧ c ≤ 122
  · simp [h]
  · by_cases h1 : 48 ≤ c
    · by_cases h2 : c ≤ 57
      · simp [h, h1, h2]
      · by_cases h3 : c = 95 <;> simp [h, h1, h2, h3]
    · by_cases h3 : c = 95 <;> simp [h, h1, h3]
theorem lex_Name_l0 (s : ByteArray) (hs : s.size ≤ 140737488351232) : ∀ (m i : Nat), i + m = s.size → Ev (fun k => lex_Name.l0 k s (s.size : Int) (i : Int)) (wAll s m i)
  | 0, i, h => by
    refine Ev.step (f := fun _ => some true) (fun k => ?_) (Ev.now _)
    simp only [lex_Name.l0]
    rw [if_neg (by omega)]
  | m + 1, i, h => by
    have hb := bt_range s (i : Int)
    have hst : ∀ k, lex_Name.l0 (k + 1) s (s.size : Int) (i : Int) = if wd (bt s (i : Int)) = true then lex_Name.l0 k s (s.size : Int) ((i + 1 : Nat) : Int) else some false := by
      intro k
      simp only [lex_Name.l0]
      rw [if_pos (by omega), if_pos (by omega), if_pos (by omega), lex_word_eq, w32 hb.1 hb.2, Option.bind_some, w64 (by omega) (by omega)]
      rfl
    unfold wAll
    by_cases c : wd (bt s (i : Int)) = true
    · rw [if_pos c]
      exact Ev.step (fun k => (hst k).trans (if_pos c)) (lex_Name_l0 s hs m (i + 1) (by omega))
    · rw [if_neg c]
      exact Ev.step (fun k => (hst k).trans (if_neg c)) (Ev.now _)
theorem lex_Name_ev (s : ByteArray) (hs : s.size ≤ 140737488351232) : Ev (fun k => lex_Name.f k s) (nmOk s) := by
  have hb := bt_range s 0
  have hj : Ev (fun k => lex_Name.j0 k s true) false := Ev.step (f := fun _ => some false) (fun k => by simp only [lex_Name.j0]; rfl) (Ev.now _)
  unfold nmOk
  by_cases h0 : s.size = 0
  · rw [if_pos h0]
    refine Ev.congr (fun k => ?_) hj
    unfold lex_Name.f
    rw [if_pos ((nil_iff s).2 h0)]
  · rw [if_neg h0]
    have hn : ¬ s.toList = [] := fun h => h0 ((nil_iff s).1 h)
    by_cases h1 : 16 < s.size
    · rw [if_pos h1]
      refine Ev.congr (fun k => ?_) hj
      unfold lex_Name.f
      rw [if_neg hn, if_pos (by omega)]
    · rw [if_neg h1]
      have e : ∀ k, lex_Name.f k s = lex_Name.j0 k s (!(decide (97 ≤ bt s 0 ∧ bt s 0 ≤ 122))) := by
        intro k
        unfold lex_Name.f
        rw [if_neg hn, if_neg (by omega), if_pos (by omega), lex_letter_eq, w32 hb.1 hb.2]
        rfl
      refine Ev.congr e ?_
      by_cases h2 : 97 ≤ bt s 0 ∧ bt s 0 ≤ 122
      · rw [if_pos h2, decide_eq_true h2]
        refine Ev.step (fun k => ?_) (lex_Name_l0 s hs s.size 0 (by omega))
        simp only [lex_Name.j0]
        rw [if_neg (by decide)]
        rfl
      · rw [if_neg h2, decide_eq_false h2]
        exact hj
theorem ref_name_step (s : ByteArray) (hs : s.size ≤ 140737488351232) (i : Nat) (h : i < s.size) (k : Nat) :
    signalbenchref09_name.l0 (k + 1) s (i : Int) = if wd (bt s (i : Int)) = true then signalbenchref09_name.l0 k s ((i + 1 : Nat) : Int) else some false := by
  have e : wrap64 ((i : Int) + 1) = ((i + 1 : Nat) : Int) := by
    rw [w64 (by omega) (by omega)]
    rfl
  simp only [signalbenchref09_name.l0]
  rw [if_pos (by omega), if_pos (by omega), e]
  generalize bt s (i : Int) = c
  by_cases h1 : c ≥ 97
  · by_cases h2 : c ≤ 122
    · rw [if_pos h1, if_pos (by omega), if_pos h2, wd_1 ⟨h1, h2⟩, if_pos rfl]
    · rw [if_pos h1, if_pos (by omega), if_neg h2, if_neg (by omega), if_neg (by omega), wd_0 (by omega) (by omega) (by omega), if_neg (by decide)]
  · rw [if_neg h1]
    by_cases h3 : c ≥ 48
    · rw [if_pos h3]
      by_cases h4 : c ≤ 57
      · rw [if_pos h4, wd_2 ⟨h3, h4⟩, if_pos rfl]
      · rw [if_neg h4]
        by_cases h5 : c = 95
        · rw [if_pos h5, wd_3 h5, if_pos rfl]
        · rw [if_neg h5, wd_0 (by omega) (by omega) h5, if_neg (by decide)]
    · rw [if_neg h3]
      by_cases h5 : c = 95
      · rw [if_pos h5, wd_3 h5, if_pos rfl]
      · rw [if_neg h5, wd_0 (by omega) (by omega) h5, if_neg (by decide)]
theorem ref_name_l0 (s : ByteArray) (hs : s.size ≤ 140737488351232) : ∀ (m i : Nat), i + m = s.size → Ev (fun k => signalbenchref09_name.l0 k s (i : Int)) (wAll s m i)
  | 0, i, h => by
    refine Ev.step (f := fun _ => some true) (fun k => ?_) (Ev.now _)
    simp only [signalbenchref09_name.l0]
    rw [if_neg (by omega)]
  | m + 1, i, h => by
    have hst := ref_name_step s hs i (by omega)
    unfold wAll
    by_cases c : wd (bt s (i : Int)) = true
    · rw [if_pos c]
      exact Ev.step (fun k => (hst k).trans (if_pos c)) (ref_name_l0 s hs m (i + 1) (by omega))
    · rw [if_neg c]
      exact Ev.step (fun k => (hst k).trans (if_neg c)) (Ev.now _)
theorem ref_name_ev (s : ByteArray) (hs : s.size ≤ 140737488351232) : Ev (fun k => signalbenchref09_name.f k s) (nmOk s) := by
  have hj : Ev (fun k => signalbenchref09_name.j0 k s true) false := Ev.step (f := fun _ => some false) (fun k => by simp only [signalbenchref09_name.j0]; rfl) (Ev.now _)
  unfold nmOk
  by_cases h0 : s.size = 0
  · rw [if_pos h0]
    refine Ev.congr (fun k => ?_) hj
    unfold signalbenchref09_name.f
    rw [if_pos ((nil_iff s).2 h0)]
  · rw [if_neg h0]
    have hn : ¬ s.toList = [] := fun h => h0 ((nil_iff s).1 h)
    by_cases h1 : 16 < s.size
    · rw [if_pos h1]
      refine Ev.congr (fun k => ?_) hj
      unfold signalbenchref09_name.f
      rw [if_neg hn, if_pos (by omega)]
    · rw [if_neg h1]
      by_cases h3 : bt s 0 < 97
      · rw [if_neg (by omega)]
        refine Ev.congr (fun k => ?_) hj
        unfold signalbenchref09_name.f
        rw [if_neg hn, if_neg (by omega), if_pos (by omega), if_pos h3]
      · have e : ∀ k, signalbenchref09_name.f k s = signalbenchref09_name.j0 k s (decide (bt s 0 > 122)) := by
          intro k
          unfold signalbenchref09_name.f
          rw [if_neg hn, if_neg (by omega), if_pos (by omega), if_neg h3]
        refine Ev.congr e ?_
        by_cases h2 : bt s 0 > 122
        · rw [if_neg (by omega), decide_eq_true h2]
          exact hj
        · rw [if_pos (by omega), decide_eq_false h2]
          refine Ev.step (fun k => ?_) (ref_name_l0 s hs s.size 0 (by omega))
          simp only [signalbenchref09_name.j0]
          rw [if_neg (by decide)]
          rfl
def StrsOk (l : List ByteArray) : Prop := ∀ s ∈ l, s.size ≤ 140737488351232
def nmA : List ByteArray → Bool
  | [] => true
  | s :: l => if nmOk s = true then nmA l else false
theorem rds_mid (pre post : List ByteArray) (x : ByteArray) : rdOf ByteArray.empty (pre ++ x :: post) (pre.length : Int) = x := by simp [rdOf, List.getD]
theorem mids_lt (pre post : List ByteArray) (x : ByteArray) : (pre.length : Int) < ((pre ++ x :: post).length : Int) := by
  simp only [List.length_append, List.length_cons]
  omega
/-- The first place of a name, or -1. -/
def ixS (s : ByteArray) : Nat → List ByteArray → Int
  | _, [] => -1
  | n, t :: l => if s.toList = t.toList then (n : Int) else ixS s (n + 1) l
theorem Index_l0 (s : ByteArray) : ∀ (post pre : List ByteArray), (pre ++ post).length ≤ 140737488351232 →
    Ev (fun k => slices_Index_string.l0 k (pre ++ post) s ((pre ++ post).length : Int) (pre.length : Int)) (ixS s pre.length post)
  | [], pre, hl => by
    refine Ev.step (f := fun _ => some (-1)) (fun k => ?_) (Ev.now _)
    simp only [slices_Index_string.l0]
    rw [if_neg (by simp)]
  | x :: post, pre, hl => by
    have hlt := mids_lt pre post x
    have hn : pre.length ≤ 9223372036854775806 := by
      simp only [List.length_append, List.length_cons] at hl
      omega
    have hst : ∀ k, slices_Index_string.l0 (k + 1) (pre ++ x :: post) s ((pre ++ x :: post).length : Int) (pre.length : Int) = if s.toList = x.toList then some (pre.length : Int) else slices_Index_string.l0 k (pre ++ x :: post) s ((pre ++ x :: post).length : Int) ((pre ++ [x]).length : Int) := by
      intro k
      simp only [slices_Index_string.l0]
      rw [rds_mid, if_pos hlt, if_pos (by omega), if_pos hlt, succ_mid _ _ hn]
    unfold ixS
    by_cases c : s.toList = x.toList
    · rw [if_pos c]
      exact Ev.step (fun k => (hst k).trans (if_pos c)) (Ev.now _)
    · rw [if_neg c]
      have ih := Index_l0 s post (pre ++ [x]) (by simpa using hl)
      rw [← mid_snoc] at ih
      have e : (pre ++ [x]).length = pre.length + 1 := by simp
      rw [e] at ih
      refine Ev.step (fun k => (hst k).trans (if_neg c)) ?_
      rw [e]
      exact ih
theorem Index_ev (l : List ByteArray) (s : ByteArray) (hl : l.length ≤ 140737488351232) : Ev (fun k => slices_Index_string.f k l s) (ixS s 0 l) := Ev.congr (fun k => rfl) (Index_l0 s l [] (by simpa using hl))
theorem Contains_ev (l : List ByteArray) (s : ByteArray) (hl : l.length ≤ 140737488351232) : Ev (fun k => slices_Contains_string.f k l s) (decide (ixS s 0 l ≥ 0)) := Ev.bind (Index_ev l s hl) (Ev.now _)
def dupS : List ByteArray → List ByteArray → Bool
  | _, [] => false
  | pre, x :: post => if ixS x 0 pre ≥ 0 then true else dupS (pre ++ [x]) post
def nmsV (l : List ByteArray) : Int := if 16 < l.length then 6 else if l.length = 0 then 1 else if nmA l = true then (if dupS [] l = true then 9 else 0) else 4
theorem checkNames_l1 : ∀ (post pre : List ByteArray), (pre ++ post).length ≤ 140737488351232 →
    Ev (fun k => capture_checkNames.l1 k (pre ++ post) (pre ++ post) ((pre ++ post).length : Int) (pre.length : Int)) (if dupS pre post = true then 9 else 0)
  | [], pre, hl => by
    refine Ev.step (f := fun _ => some 0) (fun k => ?_) ?_
    · simp only [capture_checkNames.l1]
      rw [if_neg (by simp)]
    · rw [show (if dupS pre [] = true then (9 : Int) else 0) = 0 from rfl]
      exact Ev.now _
  | x :: post, pre, hl => by
    have hlt := mids_lt pre post x
    have hn : pre.length ≤ 9223372036854775806 := by
      simp only [List.length_append, List.length_cons] at hl
      omega
    have hp : pre.length ≤ 140737488351232 := by
      simp only [List.length_append, List.length_cons] at hl
      omega
    have hst : ∀ k, capture_checkNames.l1 (k + 1) (pre ++ x :: post) (pre ++ x :: post) ((pre ++ x :: post).length : Int) (pre.length : Int) = (slices_Contains_string.f k pre x).bind fun t111 => (if t111 = true then (some 9) else (capture_checkNames.l1 k (pre ++ x :: post) (pre ++ x :: post) ((pre ++ x :: post).length : Int) ((pre ++ [x]).length : Int))) := by
      intro k
      simp only [capture_checkNames.l1]
      rw [rds_mid, if_pos hlt, if_pos (by omega), if_pos hlt, if_pos (by omega), succ_mid _ _ hn, Int.toNat_natCast, List.take_left' rfl]
    refine Ev.step hst (Ev.bind (Contains_ev pre x hp) ?_)
    unfold dupS
    by_cases c : ixS x 0 pre ≥ 0
    · rw [if_pos c, decide_eq_true c]
      exact Ev.congr (fun k => if_pos rfl) (Ev.now _)
    · rw [if_neg c, decide_eq_false c]
      have ih := checkNames_l1 post (pre ++ [x]) (by simpa using hl)
      rw [← mid_snoc] at ih
      exact Ev.congr (fun k => if_neg (by decide)) ih
theorem checkNames_l0 : ∀ (post pre : List ByteArray) (R : Int), StrsOk post → (pre ++ post).length ≤ 140737488351232 → Ev (fun k => capture_checkNames.l1 k (pre ++ post) (pre ++ post) ((pre ++ post).length : Int) 0) R →
    Ev (fun k => capture_checkNames.l0 k (pre ++ post) (pre ++ post) ((pre ++ post).length : Int) (pre.length : Int)) (if nmA post = true then R else 4)
  | [], pre, R, hs, hl, hR => by
    refine Ev.step (fun k => ?_) (Ev.congr (fun k => rfl) hR)
    simp only [capture_checkNames.l0]
    rw [if_neg (by simp)]
  | x :: post, pre, R, hs, hl, hR => by
    have hlt := mids_lt pre post x
    have hn : pre.length ≤ 9223372036854775806 := by
      simp only [List.length_append, List.length_cons] at hl
      omega
    have hst : ∀ k, capture_checkNames.l0 (k + 1) (pre ++ x :: post) (pre ++ x :: post) ((pre ++ x :: post).length : Int) (pre.length : Int) = (lex_Name.f k x).bind fun t108 => (if t108 = true then (capture_checkNames.l0 k (pre ++ x :: post) (pre ++ x :: post) ((pre ++ x :: post).length : Int) ((pre ++ [x]).length : Int)) else (some 4)) := by
      intro k
      simp only [capture_checkNames.l0]
      rw [rds_mid, if_pos hlt, if_pos (by omega), if_pos hlt, succ_mid _ _ hn]
    refine Ev.step hst (Ev.bind (lex_Name_ev x (hs x (by simp))) ?_)
    unfold nmA
    by_cases c : nmOk x = true
    · rw [if_pos c, c]
      have ih := checkNames_l0 post (pre ++ [x]) R (fun y hy => hs y (by simp [hy])) (by simpa using hl) (by rw [← mid_snoc]; exact hR)
      rw [← mid_snoc] at ih
      exact Ev.congr (fun k => if_pos rfl) ih
    · rw [if_neg c, Bool.eq_false_iff.2 c]
      exact Ev.congr (fun k => if_neg (by decide)) (Ev.now _)
theorem checkNames_ev {l : List ByteArray} (hs : StrsOk l) (hl : l.length ≤ 140737488351232) (h16 : l.length ≤ 16) : Ev (fun k => capture_checkNames.f k l) (nmsV l) := by
  unfold nmsV
  rw [if_neg (by omega)]
  by_cases c : l.length = 0
  · rw [if_pos c]
    refine Ev.congr (fun k => ?_) (Ev.now _)
    unfold capture_checkNames.f
    rw [if_pos (by omega)]
  · rw [if_neg c]
    refine Ev.congr (fun k => ?_) (checkNames_l0 l [] _ hs (by simpa using hl) (checkNames_l1 l [] (by simpa using hl)))
    unfold capture_checkNames.f
    rw [if_neg (by omega)]
    rfl
theorem refnames_l2 (x : ByteArray) (post pre : List ByteArray) (R : Int) (hl : (pre ++ x :: post).length ≤ 140737488351232) (hR : Ev (fun k => signalbenchref09_names.l1 k (pre ++ x :: post) ((pre ++ [x]).length : Int)) R) :
    ∀ (p q : List ByteArray), pre = q ++ p → Ev (fun k => signalbenchref09_names.l2 k (pre ++ x :: post) (pre.length : Int) (q.length : Int)) (if ixS x q.length p ≥ 0 then 9 else R)
  | [], q, e => by
    have e1 : pre.length = q.length := by rw [e]; simp
    have hn : pre.length ≤ 9223372036854775806 := by
      simp only [List.length_append, List.length_cons] at hl
      omega
    rw [show (if ixS x q.length [] ≥ 0 then (9 : Int) else R) = R from if_neg (by show ¬ ((-1 : Int) ≥ 0); omega)]
    refine Ev.step (fun k => ?_) hR
    simp only [signalbenchref09_names.l2]
    rw [if_neg (by omega), succ_mid _ _ hn]
  | t :: p, q, e => by
    have e1 : pre.length = q.length + (p.length + 1) := by rw [e]; simp
    have hlt := mids_lt pre post x
    have e2 : rdOf ByteArray.empty (pre ++ x :: post) (q.length : Int) = t := by
      rw [e, List.append_assoc]
      exact rds_mid q (p ++ x :: post) t
    have hn : q.length ≤ 9223372036854775806 := by
      simp only [List.length_append, List.length_cons] at hl
      omega
    have hst : ∀ k, signalbenchref09_names.l2 (k + 1) (pre ++ x :: post) (pre.length : Int) (q.length : Int) = if x.toList = t.toList then some 9 else signalbenchref09_names.l2 k (pre ++ x :: post) (pre.length : Int) ((q ++ [t]).length : Int) := by
      intro k
      simp only [signalbenchref09_names.l2]
      rw [rds_mid, e2, if_pos (by omega), if_pos (by omega), if_pos hlt, if_pos (by omega), if_pos (by omega), succ_mid _ _ hn]
    unfold ixS
    by_cases c : x.toList = t.toList
    · rw [if_pos c, if_pos (by omega)]
      exact Ev.step (fun k => (hst k).trans (if_pos c)) (Ev.now _)
    · rw [if_neg c]
      have ih := refnames_l2 x post pre R hl hR p (q ++ [t]) (by rw [e, mid_snoc])
      have e3 : (q ++ [t]).length = q.length + 1 := by simp
      rw [e3] at ih
      refine Ev.step (fun k => (hst k).trans (if_neg c)) ?_
      rw [e3]
      exact ih
theorem refnames_l1 : ∀ (post pre : List ByteArray), (pre ++ post).length ≤ 140737488351232 →
    Ev (fun k => signalbenchref09_names.l1 k (pre ++ post) (pre.length : Int)) (if dupS pre post = true then 9 else 0)
  | [], pre, hl => by
    refine Ev.step (f := fun _ => some 0) (fun k => ?_) ?_
    · simp only [signalbenchref09_names.l1]
      rw [if_neg (by simp)]
    · rw [show (if dupS pre [] = true then (9 : Int) else 0) = 0 from rfl]
      exact Ev.now _
  | x :: post, pre, hl => by
    have hlt := mids_lt pre post x
    have ih := refnames_l1 post (pre ++ [x]) (by simpa using hl)
    rw [← mid_snoc] at ih
    have h2 := refnames_l2 x post pre _ hl ih pre [] rfl
    have e : (if dupS pre (x :: post) = true then (9 : Int) else 0) = if ixS x ([] : List ByteArray).length pre ≥ 0 then 9 else if dupS (pre ++ [x]) post = true then 9 else 0 := by
      show (if (if ixS x 0 pre ≥ 0 then true else dupS (pre ++ [x]) post) = true then (9 : Int) else 0) = if ixS x 0 pre ≥ 0 then 9 else _
      by_cases c : ixS x 0 pre ≥ 0
      · rw [if_pos c, if_pos c, if_pos rfl]
      · rw [if_neg c, if_neg c]
    rw [e]
    refine Ev.step (fun k => ?_) h2
    simp only [signalbenchref09_names.l1]
    rw [if_pos hlt]
    rfl
theorem refnames_l0 : ∀ (post pre : List ByteArray) (R : Int), StrsOk post → (pre ++ post).length ≤ 140737488351232 → Ev (fun k => signalbenchref09_names.l1 k (pre ++ post) 0) R →
    Ev (fun k => signalbenchref09_names.l0 k (pre ++ post) (pre.length : Int)) (if nmA post = true then R else 4)
  | [], pre, R, hs, hl, hR => by
    refine Ev.step (fun k => ?_) (Ev.congr (fun k => rfl) hR)
    simp only [signalbenchref09_names.l0]
    rw [if_neg (by simp)]
  | x :: post, pre, R, hs, hl, hR => by
    have hlt := mids_lt pre post x
    have hn : pre.length ≤ 9223372036854775806 := by
      simp only [List.length_append, List.length_cons] at hl
      omega
    have hst : ∀ k, signalbenchref09_names.l0 (k + 1) (pre ++ x :: post) (pre.length : Int) = (signalbenchref09_name.f k x).bind fun t108 => (if t108 = true then (signalbenchref09_names.l0 k (pre ++ x :: post) ((pre ++ [x]).length : Int)) else (some 4)) := by
      intro k
      simp only [signalbenchref09_names.l0]
      rw [rds_mid, if_pos hlt, if_pos (by omega), succ_mid _ _ hn]
    refine Ev.step hst (Ev.bind (ref_name_ev x (hs x (by simp))) ?_)
    unfold nmA
    by_cases c : nmOk x = true
    · rw [if_pos c, c]
      have ih := refnames_l0 post (pre ++ [x]) R (fun y hy => hs y (by simp [hy])) (by simpa using hl) (by rw [← mid_snoc]; exact hR)
      rw [← mid_snoc] at ih
      exact Ev.congr (fun k => if_pos rfl) ih
    · rw [if_neg c, Bool.eq_false_iff.2 c]
      exact Ev.congr (fun k => if_neg (by decide)) (Ev.now _)
theorem refnames_ev {l : List ByteArray} (hs : StrsOk l) (hl : l.length ≤ 140737488351232) : Ev (fun k => signalbenchref09_names.f k l) (nmsV l) := by
  unfold nmsV
  by_cases h : 16 < l.length
  · rw [if_pos h]
    refine Ev.congr (fun k => ?_) (Ev.now _)
    unfold signalbenchref09_names.f
    rw [if_pos (by omega)]
  · rw [if_neg h]
    by_cases c : l.length = 0
    · rw [if_pos c]
      refine Ev.congr (fun k => ?_) (Ev.now _)
      unfold signalbenchref09_names.f
      rw [if_neg (by omega), if_pos (by omega)]
    · rw [if_neg c]
      refine Ev.congr (fun k => ?_) (refnames_l0 l [] _ hs (by simpa using hl) (refnames_l1 l [] (by simpa using hl)))
      unfold signalbenchref09_names.f
      rw [if_neg (by omega), if_neg (by omega)]
      rfl
/-- Levels from 0 to m, and at least one tick each. -/
def RunsM (m : Int) (l : List S48) : Prop := ∀ x ∈ l, 0 ≤ x.f0 ∧ x.f0 ≤ m ∧ 1 ≤ x.f1
def rOk (m : Int) : Int → List S48 → Bool
  | left, [] => true
  | left, x :: l => if 0 ≤ x.f0 ∧ x.f0 ≤ m ∧ 1 ≤ x.f1 ∧ x.f1 ≤ left then rOk m (left - x.f1) l else false
theorem RunsM.cons {m : Int} {x : S48} {l : List S48} (h : RunsM m (x :: l)) : (0 ≤ x.f0 ∧ x.f0 ≤ m ∧ 1 ≤ x.f1) ∧ RunsM m l := ⟨h x (by simp), fun y hy => h y (by simp [hy])⟩
theorem smM_nonneg {m : Int} : ∀ {l : List S48}, RunsM m l → 0 ≤ sm l
  | [], _ => Int.le_refl _
  | x :: l, h => by
    have h1 := h.cons
    have h2 := smM_nonneg h1.2
    simp only [sm]
    omega
theorem refruns_l0 (m : Int) : ∀ (post pre : List S48) (left : Int), 0 ≤ left → left ≤ 1099511627776 → (pre ++ post).length ≤ 140737488351232 →
    Ev (fun k => signalbenchref09_runs.l0 k (pre ++ post) m left (pre.length : Int)) (rOk m left post)
  | [], pre, left, h0, h1, hl => by
    refine Ev.step (f := fun _ => some true) (fun k => ?_) (Ev.now _)
    simp only [signalbenchref09_runs.l0]
    rw [if_neg (by simp)]
  | x :: post, pre, left, h0, h1, hl => by
    have hlt := mid_lt pre post x
    have hn : pre.length ≤ 9223372036854775806 := by
      simp only [List.length_append, List.length_cons] at hl
      omega
    unfold rOk
    by_cases c : 0 ≤ x.f0 ∧ x.f0 ≤ m ∧ 1 ≤ x.f1 ∧ x.f1 ≤ left
    · have ih := refruns_l0 m post (pre ++ [x]) (left - x.f1) (by omega) (by omega) (by simpa using hl)
      rw [← mid_snoc] at ih
      rw [if_pos c]
      refine Ev.step (fun k => ?_) ih
      simp only [signalbenchref09_runs.l0]
      rw [rd_mid, if_pos hlt, if_pos (by omega), if_neg (by omega), if_neg (by omega), if_neg (by omega), if_neg (by omega), w64 (by omega) (by omega), succ_mid _ _ hn]
    · rw [if_neg c]
      refine Ev.step (f := fun _ => some false) (fun k => ?_) (Ev.now _)
      simp only [signalbenchref09_runs.l0]
      rw [rd_mid, if_pos hlt, if_pos (by omega)]
      by_cases c1 : x.f0 < 0
      · rw [if_pos c1]
      · rw [if_neg c1]
        by_cases c2 : x.f0 > m
        · rw [if_pos c2]
        · rw [if_neg c2]
          by_cases c3 : x.f1 < 1
          · rw [if_pos c3]
          · rw [if_neg c3, if_pos (by omega)]
theorem refruns_ev (m : Int) {r : List S48} (hr : r.length ≤ 140737488351232) : Ev (fun k => signalbenchref09_runs.f k r m) (rOk m 1099511627776 r) :=
  Ev.congr (fun k => rfl) (refruns_l0 m r [] 1099511627776 (by omega) (by omega) (by simpa using hr))
theorem total_l0 {m : Int} : ∀ (post pre : List S48) (s : Int), 0 ≤ s → s + sm post ≤ 4611686018427387904 → RunsM m post → (pre ++ post).length ≤ 140737488351232 →
    Ev (fun k => signalbenchref09_total.l0 k (pre ++ post) s (pre.length : Int)) (s + sm post)
  | [], pre, s, h0, h1, hw, hl => by
    refine Ev.step (f := fun _ => some s) (fun k => ?_) ?_
    · simp only [signalbenchref09_total.l0]
      rw [if_neg (by simp)]
    · simp only [sm, Int.add_zero]
      exact Ev.now _
  | x :: post, pre, s, h0, h1, hw, hl => by
    have hx := hw.cons
    have hs := smM_nonneg hx.2
    simp only [sm] at h1
    have hlt := mid_lt pre post x
    have hn : pre.length ≤ 9223372036854775806 := by
      simp only [List.length_append, List.length_cons] at hl
      omega
    have ih := total_l0 post (pre ++ [x]) (s + x.f1) (by omega) (by omega) hx.2 (by simpa using hl)
    rw [← mid_snoc] at ih
    have e1 : s + sm (x :: post) = s + x.f1 + sm post := by
      simp only [sm]
      omega
    rw [e1]
    refine Ev.step (fun k => ?_) ih
    simp only [signalbenchref09_total.l0]
    rw [rd_mid, if_pos hlt, if_pos (by omega), w64 (x := s + x.f1) (by omega) (by omega), succ_mid _ _ hn]
theorem total_ev {m : Int} {r : List S48} (h : RunsM m r) (hs : sm r ≤ 1099511627776) (hr : r.length ≤ 140737488351232) : Ev (fun k => signalbenchref09_total.f k r) (sm r) := by
  have h := total_l0 r [] 0 (by omega) (by omega) h (by simpa using hr)
  rw [Int.zero_add] at h
  exact Ev.congr (fun k => rfl) h
theorem lives09_ev : Ev (fun k => signalbenchlaw09_lives.f k) true := Ev.of (k := 60) (fun k => signalbenchlaw09_lives.mono k) (by decide +kernel)
/-- A run put behind runs. -/
def putR (o : List S48) (v t : Int) : List S48 :=
  match o.getLast? with
  | some y => if y.f0 = v then o.dropLast ++ [(⟨y.f0, y.f1 + t⟩ : S48)] else o ++ [(⟨v, t⟩ : S48)]
  | none => [(⟨v, t⟩ : S48)]
theorem putR_nil (v t : Int) : putR [] v t = [⟨v, t⟩] := rfl
theorem putR_same (o : List S48) (y : S48) (t : Int) : putR (o ++ [y]) y.f0 t = o ++ [⟨y.f0, y.f1 + t⟩] := by
  simp [putR]
theorem putR_new (o : List S48) (y : S48) {v t : Int} (h : ¬ y.f0 = v) : putR (o ++ [y]) v t = o ++ [y] ++ [⟨v, t⟩] := by
  simp [putR, h]
theorem snoc_cases {α : Type} (o : List α) : o = [] ∨ ∃ q y, o = q ++ [y] := by
  rcases List.eq_nil_or_concat o with h | ⟨q, y, h⟩
  · exact .inl h
  · exact .inr ⟨q, y, by simpa using h⟩
theorem join_eq {o : List S48} {v t : Int} (ho : o.length < 8796093022208) (h0 : 0 ≤ t) (hs : ∀ y ∈ o, 0 ≤ y.f1 ∧ y.f1 + t ≤ 9223372036854775807) : capture_join.f o v t = some (putR o v t) := by
  rcases snoc_cases o with rfl | ⟨q, y, rfl⟩
  · unfold capture_join.f
    rw [if_neg (by simp), if_pos (by simp)]
    rfl
  · have hy := hs y (by simp)
    have hq : q.length ≤ 9223372036854775806 := by
      simp only [List.length_append, List.length_cons, List.length_nil] at ho
      omega
    have hlt : (q.length : Int) < ((q ++ [y]).length : Int) := mid_lt q [] y
    unfold capture_join.f
    rw [last_at q y hq, rd_last, if_pos (by omega), if_pos (by omega), if_pos hlt]
    by_cases c : y.f0 = v
    · rw [if_pos c, set_last, w64 (by omega) (by omega), ← c, putR_same]
    · rw [if_neg c, if_pos ho, putR_new q y c]
theorem refput_eq {o : List S48} {v t : Int} (ho : o.length < 8796093022208) (h0 : 1 ≤ t) (hs : ∀ y ∈ o, 0 ≤ y.f1 ∧ y.f1 + t ≤ 9223372036854775807) : signalbenchref09_put.f o v t = some (putR o v t) := by
  rcases snoc_cases o with rfl | ⟨q, y, rfl⟩
  · unfold signalbenchref09_put.f
    rw [if_neg (by omega), if_neg (by simp), if_pos (by simp)]
    rfl
  · have hy := hs y (by simp)
    have hq : q.length ≤ 9223372036854775806 := by
      simp only [List.length_append, List.length_cons, List.length_nil] at ho
      omega
    have hlt : (q.length : Int) < ((q ++ [y]).length : Int) := mid_lt q [] y
    unfold signalbenchref09_put.f
    rw [last_at q y hq, rd_last, if_neg (by omega), if_pos (by omega), if_pos (by omega), if_pos hlt]
    by_cases c : y.f0 = v
    · rw [if_pos c, set_last, w64 (by omega) (by omega), ← c, putR_same]
    · rw [if_neg c, if_pos ho, putR_new q y c]
theorem putR_sm (o : List S48) (v t : Int) : sm (putR o v t) = sm o + t := by
  rcases snoc_cases o with rfl | ⟨q, y, rfl⟩
  · simp [putR_nil, sm]
  · by_cases c : y.f0 = v
    · rw [← c, putR_same]
      simp only [sm_append, sm]
      omega
    · rw [putR_new q y c]
      simp only [sm_append, sm]
      omega
theorem putR_len (o : List S48) (v t : Int) : (putR o v t).length ≤ o.length + 1 := by
  rcases snoc_cases o with rfl | ⟨q, y, rfl⟩
  · simp [putR_nil]
  · by_cases c : y.f0 = v
    · rw [← c, putR_same]
      simp
    · rw [putR_new q y c]
      simp
theorem mn_le (a b : Int) : mn a b ≤ a ∧ mn a b ≤ b ∧ (mn a b = a ∨ mn a b = b) := by
  unfold mn
  by_cases c : b < a
  · rw [if_pos c]
    omega
  · rw [if_neg c]
    omega
def Tk (l : List S48) : Prop := ∀ y ∈ l, 1 ≤ y.f1
theorem Tk.cons {x : S48} {l : List S48} (h : Tk (x :: l)) : 1 ≤ x.f1 ∧ Tk l := ⟨h x (by simp), fun y hy => h y (by simp [hy])⟩
theorem smT_nonneg : ∀ {l : List S48}, Tk l → 0 ≤ sm l
  | [], _ => Int.le_refl _
  | x :: l, h => by
    have h1 := h.cons
    have h2 := smT_nonneg h1.2
    simp only [sm]
    omega
theorem leT_sm : ∀ {l : List S48}, Tk l → ∀ y ∈ l, 0 ≤ y.f1 ∧ y.f1 ≤ sm l
  | [], h, y, hy => by simp at hy
  | x :: l, h, y, hy => by
    have hx := h.cons
    have h0 := smT_nonneg hx.2
    simp only [sm]
    rcases List.mem_cons.1 hy with rfl | hy
    · omega
    · have := leT_sm hx.2 y hy
      omega
theorem putR_tk {o : List S48} {v t : Int} (h : Tk o) (ht : 1 ≤ t) : Tk (putR o v t) := by
  rcases snoc_cases o with rfl | ⟨q, y, rfl⟩
  · intro x hx
    rw [putR_nil, List.mem_singleton] at hx
    subst hx
    exact ht
  · have hy := h y (by simp)
    by_cases c : y.f0 = v
    · rw [← c, putR_same]
      intro x hx
      rcases List.mem_append.1 hx with hx | hx
      · exact h x (by simp [hx])
      · rw [List.mem_singleton] at hx
        subst hx
        show 1 ≤ y.f1 + t
        omega
    · rw [putR_new q y c]
      intro x hx
      rcases List.mem_append.1 hx with hx | hx
      · exact h x hx
      · rw [List.mem_singleton] at hx
        subst hx
        exact ht
theorem sameRuns_l0 : ∀ (post pre : List S48), (pre ++ post).length ≤ 140737488351232 → Ev (fun k => signalbenchlaw09_sameRuns.l0 k (pre ++ post) (pre ++ post) (pre.length : Int)) true
  | [], pre, hl => by
    refine Ev.step (f := fun _ => some true) (fun k => ?_) (Ev.now _)
    simp only [signalbenchlaw09_sameRuns.l0]
    rw [if_neg (by simp)]
  | x :: post, pre, hl => by
    have hlt := mid_lt pre post x
    have hn : pre.length ≤ 9223372036854775806 := by
      simp only [List.length_append, List.length_cons] at hl
      omega
    have ih := sameRuns_l0 post (pre ++ [x]) (by simpa using hl)
    rw [← mid_snoc] at ih
    refine Ev.step (fun k => ?_) ih
    simp only [signalbenchlaw09_sameRuns.l0]
    rw [rd_mid, if_pos hlt, if_pos (by omega), if_pos hlt, if_neg (by simp), succ_mid _ _ hn]
theorem sameRuns_ev (l : List S48) (hl : l.length ≤ 140737488351232) : Ev (fun k => signalbenchlaw09_sameRuns.f k l l) true := by
  refine Ev.congr (fun k => ?_) (sameRuns_l0 l [] (by simpa using hl))
  unfold signalbenchlaw09_sameRuns.f
  rw [if_pos rfl]
  rfl
theorem equal_l0 (r : List S48) : ∀ (post pre : List ByteArray), (pre ++ post).length ≤ 140737488351232 → Ev (fun k => signalbenchlaw09_equal.l0 k (pre.length : Int) (pre ++ post) r (pre ++ post) r) true
  | [], pre, hl => by
    refine Ev.step (f := fun _ => some true) (fun k => ?_) (Ev.now _)
    simp only [signalbenchlaw09_equal.l0]
    rw [if_neg (by simp)]
  | x :: post, pre, hl => by
    have hlt := mids_lt pre post x
    have hn : pre.length ≤ 9223372036854775806 := by
      simp only [List.length_append, List.length_cons] at hl
      omega
    have ih := equal_l0 r post (pre ++ [x]) (by simpa using hl)
    rw [← mid_snoc] at ih
    refine Ev.step (fun k => ?_) ih
    simp only [signalbenchlaw09_equal.l0]
    rw [if_pos hlt, if_pos (by omega), if_pos hlt, if_pos trivial, succ_mid _ _ hn]
theorem equal_ev (l : List ByteArray) (r : List S48) (hl : l.length ≤ 140737488351232) (hr : r.length ≤ 140737488351232) : Ev (fun k => signalbenchlaw09_equal.f k l r l r) true := by
  refine Ev.congr (f := fun k => (signalbenchlaw09_sameRuns.f k r r).bind fun t307 => (signalbenchlaw09_equal.j0 k (!t307) l r l r)) (fun k => ?_) (Ev.bind (sameRuns_ev r hr) ?_)
  · unfold signalbenchlaw09_equal.f
    rw [if_pos rfl]
  · refine Ev.step (fun k => ?_) (equal_l0 r l [] (by simpa using hl))
    simp only [signalbenchlaw09_equal.j0]
    rw [if_neg (by decide)]
    rfl
def hd (w : List S48) : S48 := w.headD (⟨0, 0⟩ : S48)
def lvl : Int → Nat → List (List S48) → Int
  | v, _, [] => v
  | v, i, w :: ws => lvl (Go.bits .or .i64 v (shl .i64 (hd w).f0 (i : Int))) (i + 1) ws
def stp : Int → List (List S48) → Int
  | s, [] => s
  | s, w :: ws => stp (mn s (hd w).f1) ws
def cutR (s : Int) : List S48 → List S48
  | [] => []
  | x :: l => if x.f1 = s then l else (⟨x.f0, x.f1 - s⟩ : S48) :: l
theorem cutR_cons (s : Int) (x : S48) (l : List S48) : cutR s (x :: l) = if x.f1 = s then l else (⟨x.f0, x.f1 - s⟩ : S48) :: l := rfl
def mrg : Nat → List S48 → List (List S48) → List S48
  | 0, o, _ => o
  | n + 1, o, ws => if ws.headD [] = [] then o else mrg n (putR o (lvl 0 0 ws) (stp 1099511627776 ws)) (ws.map (cutR (stp 1099511627776 ws)))
/-- Waves that all have T ticks. -/
def Rem (T : Int) (ws : List (List S48)) : Prop := ∀ w ∈ ws, Tk w ∧ sm w = T
theorem Rem.cons {T : Int} {w : List S48} {ws : List (List S48)} (h : Rem T (w :: ws)) : (Tk w ∧ sm w = T) ∧ Rem T ws := ⟨h w (by simp), fun y hy => h y (by simp [hy])⟩
theorem hd_cons (x : S48) (l : List S48) : hd (x :: l) = x := rfl
theorem nonempty_of {w : List S48} (h : 0 < sm w) : ∃ x l, w = x :: l := by
  cases w with
  | nil => simp [sm] at h
  | cons x l => exact ⟨x, l, rfl⟩
theorem empty_of {w : List S48} (ht : Tk w) (h : sm w ≤ 0) : w = [] := by
  cases w with
  | nil => rfl
  | cons x l =>
    have h1 := ht.cons
    have h2 := smT_nonneg h1.2
    simp only [sm] at h
    omega
theorem hd_ok {T : Int} {w : List S48} (h : Tk w ∧ sm w = T) (hT : 0 < T) : 1 ≤ (hd w).f1 ∧ (hd w).f1 ≤ T := by
  obtain ⟨x, l, rfl⟩ := nonempty_of (w := w) (by omega)
  have h1 := h.1.cons
  have h2 := smT_nonneg h1.2
  have h3 := h.2
  simp only [sm] at h3
  rw [hd_cons]
  omega
theorem le_mn {a b c : Int} (h : c ≤ a) (h' : c ≤ b) : c ≤ mn a b := by
  unfold mn
  split <;> omega
theorem stp_le : ∀ (ws : List (List S48)) (s : Int), stp s ws ≤ s ∧ ∀ w ∈ ws, stp s ws ≤ (hd w).f1
  | [], s => ⟨Int.le_refl _, fun w hw => by simp at hw⟩
  | w :: ws, s => by
    have h := stp_le ws (mn s (hd w).f1)
    have h' := mn_le s (hd w).f1
    unfold stp
    refine ⟨by omega, fun y hy => ?_⟩
    rcases List.mem_cons.1 hy with rfl | hy
    · omega
    · exact h.2 y hy
theorem le_stp {b : Int} : ∀ (ws : List (List S48)) (s : Int), b ≤ s → (∀ w ∈ ws, b ≤ (hd w).f1) → b ≤ stp s ws
  | [], s, h, _ => h
  | w :: ws, s, h, hw => by
    unfold stp
    have := hw w (by simp)
    exact le_stp ws _ (le_mn h this) (fun y hy => hw y (by simp [hy]))
theorem stp_ok {T : Int} {ws : List (List S48)} (h : Rem T ws) (hT : 0 < T) : 1 ≤ stp 1099511627776 ws :=
  le_stp ws _ (by omega) (fun w hw => (hd_ok (h w hw) hT).1)
theorem cut_ok {T s : Int} {w : List S48} (h : Tk w ∧ sm w = T) (hT : 0 < T) (h1 : 1 ≤ s) (hs : s ≤ (hd w).f1) : Tk (cutR s w) ∧ sm (cutR s w) = T - s := by
  obtain ⟨x, l, rfl⟩ := nonempty_of (w := w) (by omega)
  have h2 := h.1.cons
  have h3 := h.2
  rw [hd_cons] at hs
  simp only [sm] at h3
  rw [cutR_cons]
  by_cases c : x.f1 = s
  · rw [if_pos c]
    exact ⟨h2.2, by omega⟩
  · rw [if_neg c]
    refine ⟨fun y hy => ?_, by simp only [sm]; omega⟩
    rcases List.mem_cons.1 hy with rfl | hy
    · show 1 ≤ x.f1 - s
      omega
    · exact h2.2 y hy
theorem Rem.cut {T : Int} {ws : List (List S48)} (h : Rem T ws) (hT : 0 < T) : Rem (T - stp 1099511627776 ws) (ws.map (cutR (stp 1099511627776 ws))) := by
  intro w hw
  obtain ⟨v, hv, rfl⟩ := List.mem_map.1 hw
  exact cut_ok (h v hv) hT (stp_ok h hT) ((stp_le ws _).2 v hv)
def cA (c : List S48 × List S48 × Int) : Int := (c.1.length : Int)
def cU (c : List S48 × List S48 × Int) : Int := c.2.2
def cW (c : List S48 × List S48 × Int) : List S48 := c.1 ++ c.2.1
def shr1 (u : Int) : List S48 → List S48
  | [] => []
  | x :: l => (⟨x.f0, x.f1 - u⟩ : S48) :: l
def cR (c : List S48 × List S48 × Int) : List S48 := shr1 c.2.2 c.2.1
def cOk (c : List S48 × List S48 × Int) : Prop := match c.2.1 with
  | [] => c.2.2 = 0
  | x :: _ => 0 ≤ c.2.2 ∧ c.2.2 < x.f1 ∧ x.f1 ≤ 1099511627776
def cAdv (s : Int) (c : List S48 × List S48 × Int) : List S48 × List S48 × Int := match c with
  | (p, [], u) => (p, [], u)
  | (p, x :: q, u) => if u + s = x.f1 then (p ++ [x], q, 0) else (p, x :: q, u + s)
def cLen (c : List S48 × List S48 × Int) : Prop := (cW c).length ≤ 262144
theorem cAdv_W (s : Int) (c : List S48 × List S48 × Int) : cW (cAdv s c) = cW c := by
  obtain ⟨p, q, u⟩ := c
  cases q with
  | nil => rfl
  | cons x q =>
    by_cases e : u + s = x.f1
    · simp [cAdv, e, cW]
    · simp [cAdv, e, cW]
theorem shr1_zero (l : List S48) : shr1 0 l = l := by
  cases l with
  | nil => rfl
  | cons x l => simp [shr1]
theorem cAdv_R (s : Int) (c : List S48 × List S48 × Int) : cR (cAdv s c) = cutR s (cR c) := by
  obtain ⟨p, q, u⟩ := c
  cases q with
  | nil => rfl
  | cons x q =>
    by_cases e : u + s = x.f1
    · have e' : x.f1 - u = s := by omega
      have e3 : cAdv s (p, x :: q, u) = (p ++ [x], q, 0) := by simp [cAdv, e]
      rw [e3]
      show shr1 0 q = cutR s ((⟨x.f0, x.f1 - u⟩ : S48) :: q)
      rw [shr1_zero, cutR_cons]
      exact (if_pos e').symm
    · have e' : ¬ x.f1 - u = s := by omega
      have e2 : x.f1 - u - s = x.f1 - (u + s) := by omega
      simp [cAdv, e, cR, shr1, cutR, e', e2]
theorem cAdv_ok {s : Int} {c : List S48 × List S48 × Int} (h : cOk c) (ht : Tk (cR c)) (hs : sm (cW c) ≤ 1099511627776) (hp : Tk (cW c)) (h1 : 1 ≤ s) (h2 : s ≤ (hd (cR c)).f1 ∨ c.2.1 = []) : cOk (cAdv s c) := by
  obtain ⟨p, q, u⟩ := c
  cases q with
  | nil => exact h
  | cons x q =>
    have h0 : 0 ≤ u ∧ u < x.f1 ∧ x.f1 ≤ 1099511627776 := h
    have h3 : s ≤ x.f1 - u := by
      rcases h2 with h2 | h2
      · exact h2
      · cases h2
    by_cases e : u + s = x.f1
    · simp only [cAdv, if_pos e]
      cases q with
      | nil => rfl
      | cons y q =>
        have hy : y ∈ cW (p, x :: y :: q, u) := by simp [cW]
        have := leT_sm hp y hy
        have := hp y hy
        show 0 ≤ (0 : Int) ∧ 0 < y.f1 ∧ y.f1 ≤ 1099511627776
        omega
    · simp only [cAdv, if_neg e]
      show 0 ≤ u + s ∧ u + s < x.f1 ∧ x.f1 ≤ 1099511627776
      omega
theorem merge_l1 (W : List (List S48)) (A U : List Int) (o : List S48) (R : List S48) : ∀ (t s : List (List S48 × List S48 × Int)) (pa pu : List Int) (v st : Int),
    (∀ c ∈ t, cOk c ∧ c.2.1 ≠ []) → W = (s ++ t).map cW → A = (s ++ t).map cA ++ pa → U = (s ++ t).map cU ++ pu → W.length ≤ 262144 →
    Ev (fun k => (capture_join.f o (lvl v s.length (t.map cR)) (stp st (t.map cR))).bind fun o' => capture_merge.l2 k W A U o' (stp st (t.map cR)) W (W.length : Int) 0) R →
    Ev (fun k => capture_merge.l1 k W A U o v st W (W.length : Int) (s.length : Int)) R
  | [], s, pa, pu, v, st, hc, hW, hA, hU, hl, h => by
    have e : (s.length : Int) = (W.length : Int) := by simp [hW]
    refine Ev.step (fun k => ?_) h
    simp only [capture_merge.l1]
    rw [if_neg (by omega)]
    rfl
  | (p, [], u) :: t, s, pa, pu, v, st, hc, hW, hA, hU, hl, h => absurd rfl (hc _ List.mem_cons_self).2
  | (p, x :: q, u) :: t, s, pa, pu, v, st, hc, hW, hA, hU, hl, h => by
    have h0 : 0 ≤ u ∧ u < x.f1 ∧ x.f1 ≤ 1099511627776 := (hc _ List.mem_cons_self).1
    have eW : W = s.map cW ++ (p ++ x :: q) :: t.map cW := by simp [hW, cW]
    have eA : A = s.map cA ++ (p.length : Int) :: (t.map cA ++ pa) := by simp [hA, cA]
    have eU : U = s.map cU ++ u :: (t.map cU ++ pu) := by simp [hU, cU]
    have nW : ((s.map cW).length : Int) = (s.length : Int) := by simp
    have nA : ((s.map cA).length : Int) = (s.length : Int) := by simp
    have nU : ((s.map cU).length : Int) = (s.length : Int) := by simp
    have rW : rd_L3 W (s.length : Int) = p ++ x :: q := by
      rw [eW, ← nW]
      exact rdl_mid _ _ _
    have rA : rd A (s.length : Int) = (p.length : Int) := by
      rw [eA, ← nA]
      exact rdi_mid _ _ _
    have rU : rd U (s.length : Int) = u := by
      rw [eU, ← nU]
      exact rdi_mid _ _ _
    have lW : (s.length : Int) < (W.length : Int) := by
      rw [eW, ← nW]
      exact midl_lt _ _ _
    have lA : (s.length : Int) < (A.length : Int) := by
      rw [eA, ← nA]
      exact midi_lt _ _ _
    have lU : (s.length : Int) < (U.length : Int) := by
      rw [eU, ← nU]
      exact midi_lt _ _ _
    have e1 : (s ++ [(p, x :: q, u)]).length = s.length + 1 := by simp
    have ih := merge_l1 W A U o R t (s ++ [(p, x :: q, u)]) pa pu (Go.bits .or .i64 v (shl .i64 x.f0 (s.length : Int))) (mn st (x.f1 - u)) (fun c hc' => hc c (by simp [hc'])) (by simpa using hW) (by simpa using hA) (by simpa using hU) hl (by rw [e1]; exact h)
    refine Ev.step (fun k => ?_) ih
    simp only [capture_merge.l1]
    rw [rW, rA, rU, rd_mid, if_pos lW, if_pos (by omega), if_pos lW, if_pos lA, if_pos (by omega), if_pos (mid_lt p q x), if_pos lU, w64 (x := x.f1 - u) (by omega) (by omega), w64 (x := (s.length : Int) + 1) (by omega) (by omega), e1]
    norm_cast
theorem seti_mid (pre post : List Int) (x y : Int) (i : Int) (h : i = (pre.length : Int)) : (pre ++ x :: post).set i.toNat y = pre ++ y :: post := by
  subst h
  rw [Int.toNat_natCast]
  simp
theorem merge_l2 (W : List (List S48)) (o : List S48) (d : Int) (R : List S48) (pa pu : List Int) : ∀ (t s : List (List S48 × List S48 × Int)),
    1 ≤ d → (∀ c ∈ t, cOk c ∧ c.2.1 ≠ [] ∧ d ≤ (hd (cR c)).f1 ∧ cLen c) → W = (s ++ t).map cW → W.length ≤ 262144 →
    Ev (fun k => capture_merge.l0 k W ((s ++ t.map (cAdv d)).map cA ++ pa) ((s ++ t.map (cAdv d)).map cU ++ pu) o) R →
    Ev (fun k => capture_merge.l2 k W ((s ++ t).map cA ++ pa) ((s ++ t).map cU ++ pu) o d W (W.length : Int) (s.length : Int)) R
  | [], s, hd1, hc, hW, hl, h => by
    have e : (s.length : Int) = (W.length : Int) := by simp [hW]
    refine Ev.step (fun k => ?_) h
    simp only [capture_merge.l2]
    rw [if_neg (by omega)]
    rfl
  | (p, [], u) :: t, s, hd1, hc, hW, hl, h => absurd rfl (hc _ List.mem_cons_self).2.1
  | (p, x :: q, u) :: t, s, hd1, hc, hW, hl, h => by
    have hcc := hc _ (List.mem_cons_self)
    have h0 : 0 ≤ u ∧ u < x.f1 ∧ x.f1 ≤ 1099511627776 := hcc.1
    have hdx : d ≤ x.f1 - u := hcc.2.2.1
    have hpl : p.length ≤ 262144 := by
      have : (p ++ x :: q).length ≤ 262144 := hcc.2.2.2
      simp only [List.length_append] at this
      omega
    have eW : W = s.map cW ++ (p ++ x :: q) :: t.map cW := by simp [hW, cW]
    have eA : (s ++ (p, x :: q, u) :: t).map cA ++ pa = s.map cA ++ (p.length : Int) :: (t.map cA ++ pa) := by simp [cA]
    have eU : (s ++ (p, x :: q, u) :: t).map cU ++ pu = s.map cU ++ u :: (t.map cU ++ pu) := by simp [cU]
    have nW : ((s.map cW).length : Int) = (s.length : Int) := by simp
    have nA : ((s.map cA).length : Int) = (s.length : Int) := by simp
    have nU : ((s.map cU).length : Int) = (s.length : Int) := by simp
    have rW : rd_L3 W (s.length : Int) = p ++ x :: q := by
      rw [eW, ← nW]
      exact rdl_mid _ _ _
    have lW : (s.length : Int) < (W.length : Int) := by
      rw [eW, ← nW]
      exact midl_lt _ _ _
    have rA : rd (s.map cA ++ (p.length : Int) :: (t.map cA ++ pa)) (s.length : Int) = (p.length : Int) := by
      rw [← nA]
      exact rdi_mid _ _ _
    have rU : ∀ z, rd (s.map cU ++ z :: (t.map cU ++ pu)) (s.length : Int) = z := by
      intro z
      rw [← nU]
      exact rdi_mid _ _ _
    have lA : (s.length : Int) < ((s.map cA ++ (p.length : Int) :: (t.map cA ++ pa)).length : Int) := by
      have := midi_lt (s.map cA) (t.map cA ++ pa) (p.length : Int)
      omega
    have lU : (s.length : Int) < ((s.map cU ++ u :: (t.map cU ++ pu)).length : Int) := by
      have := midi_lt (s.map cU) (t.map cU ++ pu) u
      omega
    have sU : ∀ z y, (s.map cU ++ z :: (t.map cU ++ pu)).set ((s.length : Int)).toNat y = s.map cU ++ y :: (t.map cU ++ pu) := fun z y => seti_mid _ _ _ _ _ nU.symm
    have sA : ∀ y, (s.map cA ++ (p.length : Int) :: (t.map cA ++ pa)).set ((s.length : Int)).toNat y = s.map cA ++ y :: (t.map cA ++ pa) := fun y => seti_mid _ _ _ _ _ nA.symm
    have e1 : (((s ++ [cAdv d (p, x :: q, u)]).length : Nat) : Int) = (s.length : Int) + 1 := by simp
    have ih := merge_l2 W o d R pa pu t (s ++ [cAdv d (p, x :: q, u)]) hd1 (fun c hc' => hc c (by simp [hc'])) (by rw [hW]; simp [cAdv_W]) hl (by simpa using h)
    rw [e1] at ih
    rw [eA, eU]
    by_cases e : u + d = x.f1
    · have e2 : cAdv d (p, x :: q, u) = (p ++ [x], q, 0) := by simp [cAdv, e]
      rw [e2] at ih
      have eA' : ((s ++ [(p ++ [x], q, (0 : Int))]) ++ t).map cA ++ pa = s.map cA ++ ((p.length : Int) + 1) :: (t.map cA ++ pa) := by simp [cA]
      have eU' : ((s ++ [(p ++ [x], q, (0 : Int))]) ++ t).map cU ++ pu = s.map cU ++ 0 :: (t.map cU ++ pu) := by simp [cU]
      rw [eA', eU'] at ih
      refine Ev.step (fun k => ?_) ih
      simp only [capture_merge.l2]
      rw [if_pos lW, if_pos (by omega), if_pos lW, if_pos lU, Option.bind_some, if_pos lA, rA, if_pos (by omega), rW, if_pos (mid_lt p q x), sU, rU, rU, rd_mid, w64 (x := u + d) (by omega) (by omega), if_pos e, sA, sU, w64 (x := (s.length : Int) + 1) (by omega) (by omega), w64 (x := (p.length : Int) + 1) (by omega) (by omega)]
    · have e2 : cAdv d (p, x :: q, u) = (p, x :: q, u + d) := by simp [cAdv, e]
      rw [e2] at ih
      have eA' : ((s ++ [(p, x :: q, u + d)]) ++ t).map cA ++ pa = s.map cA ++ (p.length : Int) :: (t.map cA ++ pa) := by simp [cA]
      have eU' : ((s ++ [(p, x :: q, u + d)]) ++ t).map cU ++ pu = s.map cU ++ (u + d) :: (t.map cU ++ pu) := by simp [cU]
      rw [eA', eU'] at ih
      refine Ev.step (fun k => ?_) ih
      simp only [capture_merge.l2]
      rw [if_pos lW, if_pos (by omega), if_pos lW, if_pos lU, Option.bind_some, if_pos lA, rA, if_pos (by omega), rW, if_pos (mid_lt p q x), sU, rU, rU, rd_mid, w64 (x := u + d) (by omega) (by omega), if_neg e, w64 (x := (s.length : Int) + 1) (by omega) (by omega)]
theorem cR_nonempty {T : Int} {c : List S48 × List S48 × Int} (h : Tk (cR c) ∧ sm (cR c) = T) (hT : 0 < T) : c.2.1 ≠ [] := by
  obtain ⟨p, q, u⟩ := c
  cases q with
  | nil =>
    have := h.2
    simp [cR, shr1, sm] at this
    omega
  | cons x q => simp
theorem merge_l0 (W : List (List S48)) (hl : W.length ≤ 262144) (pa pu : List Int) : ∀ (n : Nat) (σ : List (List S48 × List S48 × Int)) (o : List S48) (T : Int), T ≤ n → 0 ≤ T →
    W = σ.map cW → σ ≠ [] → Rem T (σ.map cR) → (∀ c ∈ σ, cOk c ∧ cLen c ∧ Tk (cW c) ∧ sm (cW c) ≤ 1099511627776) → Tk o → sm o + T ≤ 1099511627776 → o.length + T ≤ 8796093022207 →
    Ev (fun k => capture_merge.l0 k W (σ.map cA ++ pa) (σ.map cU ++ pu) o) (mrg n o (σ.map cR))
  | n, [], o, T, hn, hT, hW, hne, hR, hc, ho, hs, hlo => absurd rfl hne
  | n, c :: σ, o, T, hn, hT, hW, hne, hR, hc, ho, hs, hlo => by
    have hR0 := hR.cons
    have hcc := hc c (by simp)
    have rA : rd ((c :: σ).map cA ++ pa) 0 = cA c := by simp [rd, List.getD]
    have rW : rd_L3 W 0 = cW c := by simp [rd_L3, hW, List.getD]
    have lA : (0 : Int) < (((c :: σ).map cA ++ pa).length : Int) := by
      simp only [List.map_cons, List.cons_append, List.length_cons]
      omega
    have lW : (0 : Int) < (W.length : Int) := by
      rw [hW]
      simp only [List.map_cons, List.length_cons]
      omega
    by_cases hT0 : T = 0
    · have e : c.2.1 = [] := by
        have h1 := empty_of hR0.1.1 (by omega)
        obtain ⟨p, q, u⟩ := c
        cases q with
        | nil => rfl
        | cons x q => simp [cR, shr1] at h1
      have er : cR c = [] := by
        obtain ⟨p, q, u⟩ := c
        have : q = [] := e
        subst this
        rfl
      have em : mrg n o ((c :: σ).map cR) = o := by
        cases n with
        | zero => rfl
        | succ n =>
          unfold mrg
          rw [if_pos (by simp [er])]
      rw [em]
      refine Ev.step (f := fun _ => some o) (fun k => ?_) (Ev.now _)
      simp only [capture_merge.l0]
      rw [if_pos lA, if_pos lW, rA, rW, if_neg (by simp [cA, cW, e])]
    · have hTp : 0 < T := by omega
      obtain ⟨n, rfl⟩ : ∃ m, n = m + 1 := ⟨n - 1, by omega⟩
      have hq := cR_nonempty hR0.1 hTp
      have hnr : ¬ (((c :: σ).map cR).headD [] = []) := by
        obtain ⟨p, q, u⟩ := c
        cases q with
        | nil => exact absurd rfl hq
        | cons x q => simp [cR, shr1]
      have h1 := stp_ok hR hTp
      have hle := (stp_le ((c :: σ).map cR) 1099511627776).2
      have hTs : stp 1099511627776 ((c :: σ).map cR) ≤ T := by
        have := hle (cR c) (by simp)
        have := hd_ok hR0.1 hTp
        omega
      have hall : ∀ y ∈ c :: σ, cOk y ∧ y.2.1 ≠ [] ∧ stp 1099511627776 ((c :: σ).map cR) ≤ (hd (cR y)).f1 ∧ cLen y := fun y hy =>
        ⟨(hc y hy).1, cR_nonempty (hR _ (List.mem_map_of_mem hy)) hTp, hle _ (List.mem_map_of_mem hy), (hc y hy).2.1⟩
      have hj : capture_join.f o (lvl 0 0 ((c :: σ).map cR)) (stp 1099511627776 ((c :: σ).map cR)) = some (putR o (lvl 0 0 ((c :: σ).map cR)) (stp 1099511627776 ((c :: σ).map cR))) :=
        join_eq (by omega) (by omega) (fun y hy => by have := leT_sm ho y hy; omega)
      have eR : ((c :: σ).map (cAdv (stp 1099511627776 ((c :: σ).map cR)))).map cR = ((c :: σ).map cR).map (cutR (stp 1099511627776 ((c :: σ).map cR))) := by
        rw [List.map_map, List.map_map]
        exact List.map_congr_left (fun y _ => cAdv_R _ y)
      have eW : ((c :: σ).map (cAdv (stp 1099511627776 ((c :: σ).map cR)))).map cW = (c :: σ).map cW := by
        rw [List.map_map]
        exact List.map_congr_left (fun y _ => cAdv_W _ y)
      have ih := merge_l0 W hl pa pu n ((c :: σ).map (cAdv (stp 1099511627776 ((c :: σ).map cR)))) (putR o (lvl 0 0 ((c :: σ).map cR)) (stp 1099511627776 ((c :: σ).map cR))) (T - stp 1099511627776 ((c :: σ).map cR)) (by omega) (by omega) (by rw [eW]; exact hW) (by simp) (by rw [eR]; exact hR.cut hTp) (fun y hy => by
          obtain ⟨z, hz, rfl⟩ := List.mem_map.1 hy
          have h := hc z hz
          exact ⟨cAdv_ok h.1 (hR _ (List.mem_map_of_mem hz)).1 h.2.2.2 h.2.2.1 h1 (.inl (hall z hz).2.2.1), by unfold cLen; rw [cAdv_W]; exact h.2.1, by rw [cAdv_W]; exact h.2.2.1, by rw [cAdv_W]; exact h.2.2.2⟩) (putR_tk ho h1) (by rw [putR_sm]; omega) (by have := putR_len o (lvl 0 0 ((c :: σ).map cR)) (stp 1099511627776 ((c :: σ).map cR)); omega)
      have e : mrg (n + 1) o ((c :: σ).map cR) = mrg n (putR o (lvl 0 0 ((c :: σ).map cR)) (stp 1099511627776 ((c :: σ).map cR))) (((c :: σ).map cR).map (cutR (stp 1099511627776 ((c :: σ).map cR)))) := by
        rw [mrg, if_neg hnr]
      rw [e, ← eR]
      have h2 := merge_l2 W (putR o (lvl 0 0 ((c :: σ).map cR)) (stp 1099511627776 ((c :: σ).map cR))) (stp 1099511627776 ((c :: σ).map cR)) _ pa pu (c :: σ) [] h1 hall (by simpa using hW) hl ih
      have h3 := merge_l1 W ((c :: σ).map cA ++ pa) ((c :: σ).map cU ++ pu) o _ (c :: σ) [] pa pu 0 1099511627776 (fun y hy => ⟨(hall y hy).1, (hall y hy).2.1⟩) (by simpa using hW) rfl rfl hl (Ev.congr (fun k => by rw [show ([] : List (List S48 × List S48 × Int)).length = 0 from rfl, hj, Option.bind_some]; rfl) h2)
      refine Ev.step (fun k => ?_) h3
      simp only [capture_merge.l0]
      rw [if_pos lA, if_pos lW, rA, rW, if_pos (by
        obtain ⟨p, q, u⟩ := c
        cases q with
        | nil => exact absurd rfl hq
        | cons x q =>
          simp only [cA, cW, List.length_append, List.length_cons]
          omega)]
      rfl
def ini (w : List S48) : List S48 × List S48 × Int := ([], w, 0)
theorem map_iniR (ws : List (List S48)) : (ws.map ini).map cR = ws := by
  rw [List.map_map, List.map_congr_left (g := id) (fun y _ => by show shr1 0 y = y; exact shr1_zero y), List.map_id]
theorem map_iniW (ws : List (List S48)) : (ws.map ini).map cW = ws := by
  rw [List.map_map, List.map_congr_left (g := id) (fun y _ => by show cW (ini y) = y; rfl), List.map_id]
theorem pad16 {α : Type} (ws : List α) (h : ws.length ≤ 16) : List.replicate 16 (0 : Int) = ws.map (fun _ => 0) ++ List.replicate (16 - ws.length) 0 := by
  rw [List.map_const', List.replicate_append_replicate, show ws.length + (16 - ws.length) = 16 by omega]
def WavesOk (T : Int) (ws : List (List S48)) : Prop := ∀ w ∈ ws, w.length ≤ 262144 ∧ Tk w ∧ sm w = T
theorem merge_ev {ws : List (List S48)} {T : Int} (h16 : ws.length ≤ 16) (hne : ws ≠ []) (hT : 0 ≤ T ∧ T ≤ 1099511627776) (h : WavesOk T ws) : Ev (fun k => capture_merge.f k ws) (mrg T.toNat [] ws) := by
  have h0 := merge_l0 ws (by omega) (List.replicate (16 - ws.length) 0) (List.replicate (16 - ws.length) 0) T.toNat (ws.map ini) [] T (by omega) hT.1 (map_iniW ws).symm (by simpa using hne) (by rw [map_iniR]; exact fun w hw => ⟨(h w hw).2.1, (h w hw).2.2⟩) (fun c hc => by
      obtain ⟨w, hw, rfl⟩ := List.mem_map.1 hc
      have hh := h w hw
      refine ⟨?_, hh.1, hh.2.1, by show sm w ≤ _; omega⟩
      cases w with
      | nil => rfl
      | cons x l =>
        have h1 := hh.2.1.cons
        have h2 := leT_sm hh.2.1 x (by simp)
        show 0 ≤ (0 : Int) ∧ 0 < x.f1 ∧ x.f1 ≤ 1099511627776
        omega) (fun y hy => by simp at hy) (by simp only [sm]; omega) (by simp only [List.length_nil]; omega)
  rw [map_iniR] at h0
  refine Ev.congr (fun k => ?_) h0
  unfold capture_merge.f
  rw [if_pos (by omega), pad16 ws h16, List.map_map, List.map_map]
  rfl
def lft (u : Int) : List S48 → List S48
  | [] => []
  | x :: l => if u = 0 then [] else (⟨x.f0, u⟩ : S48) :: l
def dR (c : List S48 × List S48 × Int) : List S48 := lft c.2.2 c.2.1
def dOk (c : List S48 × List S48 × Int) : Prop := match c.2.1 with
  | [] => c.2.2 = 0
  | x :: _ => 0 ≤ c.2.2 ∧ c.2.2 ≤ 1099511627776
def dAdv (s : Int) (c : List S48 × List S48 × Int) : List S48 × List S48 × Int := match c with
  | (p, [], u) => (p, [], u)
  | (p, [x], u) => (p, [x], u - s)
  | (p, x :: y :: q, u) => if u - s = 0 then (p ++ [x], y :: q, y.f1) else (p, x :: y :: q, u - s)
theorem dAdv_W (s : Int) (c : List S48 × List S48 × Int) : cW (dAdv s c) = cW c := by
  obtain ⟨p, q, u⟩ := c
  match q with
  | [] => rfl
  | [x] => rfl
  | x :: y :: q =>
    by_cases e : u - s = 0
    · simp [dAdv, e, cW]
    · simp [dAdv, e, cW]
theorem dAdv_R {s : Int} {c : List S48 × List S48 × Int} (hp : Tk (cW c)) (hne : dR c ≠ []) : dR (dAdv s c) = cutR s (dR c) := by
  obtain ⟨p, q, u⟩ := c
  match q with
  | [] => exact absurd rfl hne
  | [x] =>
    have hu : ¬ u = 0 := fun e => hne (by show lft u [x] = []; exact if_pos e)
    show lft (u - s) [x] = cutR s (lft u [x])
    have e1 : lft u [x] = [(⟨x.f0, u⟩ : S48)] := if_neg hu
    rw [e1, cutR_cons]
    by_cases e : u = s
    · rw [if_pos e]
      exact if_pos (by omega)
    · rw [if_neg e]
      exact if_neg (by omega)
  | x :: y :: q =>
    have hu : ¬ u = 0 := fun e => hne (by show lft u (x :: y :: q) = []; exact if_pos e)
    have e1 : lft u (x :: y :: q) = (⟨x.f0, u⟩ : S48) :: y :: q := if_neg hu
    show dR (dAdv s (p, x :: y :: q, u)) = cutR s (lft u (x :: y :: q))
    rw [e1, cutR_cons]
    by_cases e : u - s = 0
    · have e2 : dAdv s (p, x :: y :: q, u) = (p ++ [x], y :: q, y.f1) := if_pos e
      have hy := hp y (by simp [cW])
      rw [e2, if_pos (by show u = s; omega)]
      show lft y.f1 (y :: q) = _
      exact if_neg (by omega)
    · have e2 : dAdv s (p, x :: y :: q, u) = (p, x :: y :: q, u - s) := if_neg e
      rw [e2, if_neg (by show ¬ u = s; omega)]
      exact if_neg e
theorem dAdv_ok {s : Int} {c : List S48 × List S48 × Int} (h : dOk c) (hs : sm (cW c) ≤ 1099511627776) (hp : Tk (cW c)) (h1 : 1 ≤ s) (hne : dR c ≠ []) (h2 : s ≤ (hd (dR c)).f1) : dOk (dAdv s c) := by
  obtain ⟨p, q, u⟩ := c
  match q with
  | [] => exact h
  | [x] =>
    have hu : ¬ u = 0 := fun e => hne (by show lft u [x] = []; exact if_pos e)
    have h0 : 0 ≤ u ∧ u ≤ 1099511627776 := h
    have e1 : dR (p, [x], u) = [(⟨x.f0, u⟩ : S48)] := if_neg hu
    rw [e1, hd_cons] at h2
    have h3 : s ≤ u := h2
    show 0 ≤ u - s ∧ u - s ≤ 1099511627776
    omega
  | x :: y :: q =>
    have hu : ¬ u = 0 := fun e => hne (by show lft u (x :: y :: q) = []; exact if_pos e)
    have h0 : 0 ≤ u ∧ u ≤ 1099511627776 := h
    have e1 : dR (p, x :: y :: q, u) = (⟨x.f0, u⟩ : S48) :: y :: q := if_neg hu
    rw [e1, hd_cons] at h2
    have h3 : s ≤ u := h2
    by_cases e : u - s = 0
    · have e2 : dAdv s (p, x :: y :: q, u) = (p ++ [x], y :: q, y.f1) := if_pos e
      have hy := leT_sm hp y (by simp [cW])
      rw [e2]
      show 0 ≤ y.f1 ∧ y.f1 ≤ 1099511627776
      omega
    · have e2 : dAdv s (p, x :: y :: q, u) = (p, x :: y :: q, u - s) := if_neg e
      rw [e2]
      show 0 ≤ u - s ∧ u - s ≤ 1099511627776
      omega
theorem tog_l0 (A : List Int) (R : List S48) : ∀ (t s : List (List S48)), (s ++ t).length ≤ 262144 →
    Ev (fun k => signalbenchref09_together.l1 k (s ++ t) A ((s ++ t).map (fun w => (hd w).f1)) []) R →
    Ev (fun k => signalbenchref09_together.l0 k (s ++ t) A (s.map (fun w => (hd w).f1) ++ t.map (fun _ => 0)) (s.length : Int)) R
  | [], s, hl, h => by
    rw [List.append_nil] at h ⊢
    rw [List.map_nil, List.append_nil]
    refine Ev.step (fun k => ?_) h
    simp only [signalbenchref09_together.l0]
    rw [if_neg (by omega)]
  | w :: t, s, hl, h => by
    have hsl : s.length ≤ 262144 := by
      simp only [List.length_append] at hl
      omega
    have lW := midl_lt s t w
    have rW := rdl_mid s t w
    have e1 : (((s ++ [w]).length : Nat) : Int) = (s.length : Int) + 1 := by simp
    have ih := tog_l0 A R t (s ++ [w]) (by simpa using hl) (by simpa using h)
    rw [e1, ← mid_snoc] at ih
    have e2 : (s ++ [w]).map (fun w => (hd w).f1) ++ t.map (fun _ => (0 : Int)) = s.map (fun w => (hd w).f1) ++ (hd w).f1 :: t.map (fun _ => (0 : Int)) := by simp
    rw [e2] at ih
    have lU : (s.length : Int) < (((s.map (fun w => (hd w).f1)) ++ (w :: t).map (fun _ => (0 : Int))).length : Int) := by
      simp only [List.length_append, List.length_map, List.length_cons]
      omega
    refine Ev.step (fun k => ?_) ih
    simp only [signalbenchref09_together.l0]
    rw [if_pos lW, if_pos (by omega), rW, w64 (x := (s.length : Int) + 1) (by omega) (by omega)]
    cases w with
    | nil =>
      rw [if_neg (by simp)]
      rfl
    | cons x l =>
      rw [if_pos (by simp only [List.length_cons]; omega), if_pos (by simp only [List.length_cons]; omega), if_pos lU, List.map_cons, seti_mid _ _ _ _ _ (by simp)]
      have : rd_T48 (x :: l) 0 = x := by simp [rd_T48, List.getD]
      rw [this]
      rfl
theorem tog_l2 (W : List (List S48)) (A U : List Int) (o : List S48) (R : List S48) : ∀ (t s : List (List S48 × List S48 × Int)) (v st : Int),
    (∀ c ∈ t, dR c ≠ []) → W = (s ++ t).map cW → A = (s ++ t).map cA → U = (s ++ t).map cU → W.length ≤ 262144 →
    Ev (fun k => (signalbenchref09_put.f o (lvl v s.length (t.map dR)) (stp st (t.map dR))).bind fun o' => signalbenchref09_together.l3 k W A U o' (stp st (t.map dR)) 0) R →
    Ev (fun k => signalbenchref09_together.l2 k W A U o v st (s.length : Int)) R
  | [], s, v, st, hc, hW, hA, hU, hl, h => by
    have e : (s.length : Int) = (W.length : Int) := by simp [hW]
    refine Ev.step (fun k => ?_) h
    simp only [signalbenchref09_together.l2]
    rw [if_neg (by omega)]
    rfl
  | (p, [], u) :: t, s, v, st, hc, hW, hA, hU, hl, h => absurd rfl (hc _ List.mem_cons_self)
  | (p, x :: q, u) :: t, s, v, st, hc, hW, hA, hU, hl, h => by
    have hne := hc _ List.mem_cons_self
    have hu : ¬ u = 0 := fun e => hne (by show lft u (x :: q) = []; exact if_pos e)
    have er : dR (p, x :: q, u) = (⟨x.f0, u⟩ : S48) :: q := if_neg hu
    have eW : W = s.map cW ++ (p ++ x :: q) :: t.map cW := by simp [hW, cW]
    have eA : A = s.map cA ++ (p.length : Int) :: t.map cA := by simp [hA, cA]
    have eU : U = s.map cU ++ u :: t.map cU := by simp [hU, cU]
    have nW : ((s.map cW).length : Int) = (s.length : Int) := by simp
    have nA : ((s.map cA).length : Int) = (s.length : Int) := by simp
    have nU : ((s.map cU).length : Int) = (s.length : Int) := by simp
    have rW : rd_L3 W (s.length : Int) = p ++ x :: q := by
      rw [eW, ← nW]
      exact rdl_mid _ _ _
    have rA : rd A (s.length : Int) = (p.length : Int) := by
      rw [eA, ← nA]
      exact rdi_mid _ _ _
    have rU : rd U (s.length : Int) = u := by
      rw [eU, ← nU]
      exact rdi_mid _ _ _
    have lW : (s.length : Int) < (W.length : Int) := by
      rw [eW, ← nW]
      exact midl_lt _ _ _
    have lA : (s.length : Int) < (A.length : Int) := by
      rw [eA, ← nA]
      exact midi_lt _ _ _
    have lU : (s.length : Int) < (U.length : Int) := by
      rw [eU, ← nU]
      exact midi_lt _ _ _
    have e1 : (s ++ [(p, x :: q, u)]).length = s.length + 1 := by simp
    rw [List.map_cons, er] at h
    have ih := tog_l2 W A U o R t (s ++ [(p, x :: q, u)]) (Go.bits .or .i64 v (shl .i64 x.f0 (s.length : Int))) (mn st u) (fun c hc' => hc c (by simp [hc'])) (by simpa using hW) (by simpa using hA) (by simpa using hU) hl (by rw [e1]; exact h)
    rw [e1] at ih
    have e3 : ((s.length + 1 : Nat) : Int) = (s.length : Int) + 1 := by simp
    rw [e3] at ih
    refine Ev.step (fun k => ?_) ih
    simp only [signalbenchref09_together.l2]
    rw [rW, rA, rU, rd_mid, if_pos lW, if_pos (by omega), if_pos lA, if_pos (by omega), if_pos (mid_lt p q x), if_pos lU, w64 (x := (s.length : Int) + 1) (by omega) (by omega)]
    unfold mn
    by_cases c : u < st
    · rw [if_pos c, if_pos c]
    · rw [if_neg c, if_neg c]
theorem tog_l3 (W : List (List S48)) (o : List S48) (d : Int) (R : List S48) : ∀ (t s : List (List S48 × List S48 × Int)),
    1 ≤ d → (∀ c ∈ t, dOk c ∧ dR c ≠ [] ∧ d ≤ (hd (dR c)).f1 ∧ cLen c) → W = (s ++ t).map cW → W.length ≤ 262144 →
    Ev (fun k => signalbenchref09_together.l1 k W ((s ++ t.map (dAdv d)).map cA) ((s ++ t.map (dAdv d)).map cU) o) R →
    Ev (fun k => signalbenchref09_together.l3 k W ((s ++ t).map cA) ((s ++ t).map cU) o d (s.length : Int)) R
  | [], s, hd1, hc, hW, hl, h => by
    have e : (s.length : Int) = (W.length : Int) := by simp [hW]
    refine Ev.step (fun k => ?_) h
    simp only [signalbenchref09_together.l3]
    rw [if_neg (by omega)]
    rfl
  | (p, [], u) :: t, s, hd1, hc, hW, hl, h => absurd rfl (hc _ List.mem_cons_self).2.1
  | (p, x :: q, u) :: t, s, hd1, hc, hW, hl, h => by
    have hcc := hc _ List.mem_cons_self
    have h0 : 0 ≤ u ∧ u ≤ 1099511627776 := hcc.1
    have hu : ¬ u = 0 := fun e => hcc.2.1 (by show lft u (x :: q) = []; exact if_pos e)
    have er : dR (p, x :: q, u) = (⟨x.f0, u⟩ : S48) :: q := if_neg hu
    have hdx : d ≤ u := by
      have h5 := hcc.2.2.1
      rw [er] at h5
      exact h5
    have hpl : (p ++ x :: q).length ≤ 262144 := hcc.2.2.2
    have hpl2 : p.length ≤ 262144 := by
      simp only [List.length_append] at hpl
      omega
    have eW : W = s.map cW ++ (p ++ x :: q) :: t.map cW := by simp [hW, cW]
    have eA : (s ++ (p, x :: q, u) :: t).map cA = s.map cA ++ (p.length : Int) :: t.map cA := by simp [cA]
    have eU : (s ++ (p, x :: q, u) :: t).map cU = s.map cU ++ u :: t.map cU := by simp [cU]
    have nW : ((s.map cW).length : Int) = (s.length : Int) := by simp
    have nA : ((s.map cA).length : Int) = (s.length : Int) := by simp
    have nU : ((s.map cU).length : Int) = (s.length : Int) := by simp
    have rW : rd_L3 W (s.length : Int) = p ++ x :: q := by
      rw [eW, ← nW]
      exact rdl_mid _ _ _
    have lW : (s.length : Int) < (W.length : Int) := by
      rw [eW, ← nW]
      exact midl_lt _ _ _
    have rA : ∀ z, rd (s.map cA ++ z :: t.map cA) (s.length : Int) = z := by
      intro z
      rw [← nA]
      exact rdi_mid _ _ _
    have rU : ∀ z, rd (s.map cU ++ z :: t.map cU) (s.length : Int) = z := by
      intro z
      rw [← nU]
      exact rdi_mid _ _ _
    have lA : (s.length : Int) < ((s.map cA ++ (p.length : Int) :: t.map cA).length : Int) := by
      have := midi_lt (s.map cA) (t.map cA) (p.length : Int)
      omega
    have lU : (s.length : Int) < ((s.map cU ++ u :: t.map cU).length : Int) := by
      have := midi_lt (s.map cU) (t.map cU) u
      omega
    have sU : ∀ z y, (s.map cU ++ z :: t.map cU).set ((s.length : Int)).toNat y = s.map cU ++ y :: t.map cU := fun z y => seti_mid _ _ _ _ _ nU.symm
    have sA : ∀ z y, (s.map cA ++ z :: t.map cA).set ((s.length : Int)).toNat y = s.map cA ++ y :: t.map cA := fun z y => seti_mid _ _ _ _ _ nA.symm
    have e1 : (((s ++ [dAdv d (p, x :: q, u)]).length : Nat) : Int) = (s.length : Int) + 1 := by simp
    have ih := tog_l3 W o d R t (s ++ [dAdv d (p, x :: q, u)]) hd1 (fun c hc' => hc c (by simp [hc'])) (by rw [hW]; simp [dAdv_W]) hl (by simpa using h)
    rw [e1] at ih
    rw [eA, eU]
    have i0 : (0 : Int) ≤ (s.length : Int) := Int.natCast_nonneg _
    have p0 : (0 : Int) ≤ (p.length : Int) + 1 := by omega
    clear hcc hc h
    have nx : wrap64 ((s.length : Int) + 1) = (s.length : Int) + 1 := w64 (by omega) (by omega)
    have px : wrap64 ((p.length : Int) + 1) = (p.length : Int) + 1 := w64 (by omega) (by omega)
    have ux : wrap64 (u - d) = u - d := w64 (by omega) (by omega)
    match q with
    | [] =>
      have eA' : ((s ++ [dAdv d (p, [x], u)]) ++ t).map cA = s.map cA ++ (p.length : Int) :: t.map cA := by simp [cA, dAdv]
      have eU' : ((s ++ [dAdv d (p, [x], u)]) ++ t).map cU = s.map cU ++ (u - d) :: t.map cU := by simp [cU, dAdv]
      rw [eA', eU'] at ih
      refine Ev.step (fun k => ?_) ih
      simp only [signalbenchref09_together.l3]
      rw [if_pos lW, if_pos i0, if_pos lU, Option.bind_some, rU u, ux, sU u (u - d), rU (u - d), nx, if_pos lA, rA (p.length : Int), rW, px]
      by_cases e : u - d = 0
      · rw [if_pos e, if_neg (by simp)]
      · rw [if_neg e]
    | y :: q =>
      have l2 : (p.length : Int) + 1 < ((p ++ x :: y :: q).length : Int) := by
        simp only [List.length_append, List.length_cons]
        omega
      have r2 : rd_T48 (p ++ x :: y :: q) ((p.length : Int) + 1) = y := by
        have := rd_mid (p ++ [x]) q y
        rw [← mid_snoc, show (((p ++ [x]).length : Nat) : Int) = (p.length : Int) + 1 by simp] at this
        exact this
      by_cases e : u - d = 0
      · have e2 : dAdv d (p, x :: y :: q, u) = (p ++ [x], y :: q, y.f1) := if_pos e
        rw [e2] at ih
        have eA' : ((s ++ [(p ++ [x], y :: q, y.f1)]) ++ t).map cA = s.map cA ++ ((p.length : Int) + 1) :: t.map cA := by simp [cA]
        have eU' : ((s ++ [(p ++ [x], y :: q, y.f1)]) ++ t).map cU = s.map cU ++ y.f1 :: t.map cU := by simp [cU]
        rw [eA', eU'] at ih
        refine Ev.step (fun k => ?_) ih
        simp only [signalbenchref09_together.l3]
        rw [if_pos lW, if_pos i0, if_pos lU, Option.bind_some, rU u, ux, sU u (u - d), rU (u - d), nx, if_pos e, if_pos lA, rA (p.length : Int), rW, px, if_pos l2, Option.bind_some, sA (p.length : Int) ((p.length : Int) + 1), rA ((p.length : Int) + 1), if_pos p0, if_pos l2, r2, sU (u - d) y.f1]
      · have e2 : dAdv d (p, x :: y :: q, u) = (p, x :: y :: q, u - d) := if_neg e
        rw [e2] at ih
        have eA' : ((s ++ [(p, x :: y :: q, u - d)]) ++ t).map cA = s.map cA ++ (p.length : Int) :: t.map cA := by simp [cA]
        have eU' : ((s ++ [(p, x :: y :: q, u - d)]) ++ t).map cU = s.map cU ++ (u - d) :: t.map cU := by simp [cU]
        rw [eA', eU'] at ih
        refine Ev.step (fun k => ?_) ih
        simp only [signalbenchref09_together.l3]
        rw [if_pos lW, if_pos i0, if_pos lU, Option.bind_some, rU u, ux, sU u (u - d), rU (u - d), nx, if_neg e]
theorem dR_nonempty {T : Int} {c : List S48 × List S48 × Int} (h : Tk (dR c) ∧ sm (dR c) = T) (hT : 0 < T) : dR c ≠ [] := by
  intro e
  have := h.2
  rw [e] at this
  simp only [sm] at this
  omega
theorem stp_first {ws : List (List S48)} {w : List S48} (h : (hd w).f1 ≤ 1099511627776) : stp (hd w).f1 (w :: ws) = stp 1099511627776 (w :: ws) := by
  show stp (mn (hd w).f1 (hd w).f1) ws = stp (mn 1099511627776 (hd w).f1) ws
  have e1 : mn (hd w).f1 (hd w).f1 = (hd w).f1 := by unfold mn; split <;> omega
  have e2 : mn 1099511627776 (hd w).f1 = (hd w).f1 := by unfold mn; split <;> omega
  rw [e1, e2]
theorem tog_l1 (W : List (List S48)) (hl : W.length ≤ 262144) : ∀ (n : Nat) (σ : List (List S48 × List S48 × Int)) (o : List S48) (T : Int), T ≤ n → 0 ≤ T → T ≤ 1099511627776 →
    W = σ.map cW → σ ≠ [] → Rem T (σ.map dR) → (∀ c ∈ σ, dOk c ∧ cLen c ∧ Tk (cW c) ∧ sm (cW c) ≤ 1099511627776) → Tk o → sm o + T ≤ 1099511627776 → o.length + T ≤ 8796093022207 →
    Ev (fun k => signalbenchref09_together.l1 k W (σ.map cA) (σ.map cU) o) (mrg n o (σ.map dR))
  | n, [], o, T, hn, hT, hM, hW, hne, hR, hc, ho, hs, hlo => absurd rfl hne
  | n, c :: σ, o, T, hn, hT, hM, hW, hne, hR, hc, ho, hs, hlo => by
    have hR0 := hR.cons
    have hcc := hc c (by simp)
    have rU : rd ((c :: σ).map cU) 0 = cU c := by simp [rd, List.getD]
    have lU : (0 : Int) < (((c :: σ).map cU).length : Int) := by
      simp only [List.map_cons, List.length_cons]
      omega
    by_cases hT0 : T = 0
    · have er : dR c = [] := empty_of hR0.1.1 (by omega)
      have e : cU c = 0 := by
        obtain ⟨p, q, u⟩ := c
        cases q with
        | nil => exact hcc.1
        | cons x q =>
          apply Classical.byContradiction
          intro hu
          rw [show dR (p, x :: q, u) = (⟨x.f0, u⟩ : S48) :: q from if_neg hu] at er
          cases er
      have em : mrg n o ((c :: σ).map dR) = o := by
        cases n with
        | zero => rfl
        | succ n =>
          unfold mrg
          rw [if_pos (by simp [er])]
      rw [em]
      refine Ev.step (f := fun _ => some o) (fun k => ?_) (Ev.now _)
      simp only [signalbenchref09_together.l1]
      rw [if_pos lU, rU, if_neg (by omega)]
    · have hTp : 0 < T := by omega
      obtain ⟨n, rfl⟩ : ∃ m, n = m + 1 := ⟨n - 1, by omega⟩
      have hq := dR_nonempty hR0.1 hTp
      have hnr : ¬ (((c :: σ).map dR).headD [] = []) := by simpa using hq
      have h1 := stp_ok hR hTp
      have hle := (stp_le ((c :: σ).map dR) 1099511627776).2
      have hd0 := hd_ok hR0.1 hTp
      have hTs : stp 1099511627776 ((c :: σ).map dR) ≤ T := by
        have := hle (dR c) (by simp)
        omega
      have hall : ∀ y ∈ c :: σ, dOk y ∧ dR y ≠ [] ∧ stp 1099511627776 ((c :: σ).map dR) ≤ (hd (dR y)).f1 ∧ cLen y := fun y hy =>
        ⟨(hc y hy).1, dR_nonempty (hR _ (List.mem_map_of_mem hy)) hTp, hle _ (List.mem_map_of_mem hy), (hc y hy).2.1⟩
      have hj : signalbenchref09_put.f o (lvl 0 0 ((c :: σ).map dR)) (stp 1099511627776 ((c :: σ).map dR)) = some (putR o (lvl 0 0 ((c :: σ).map dR)) (stp 1099511627776 ((c :: σ).map dR))) :=
        refput_eq (by omega) (by omega) (fun y hy => by have := leT_sm ho y hy; omega)
      have eU : cU c = (hd (dR c)).f1 := by
        obtain ⟨p, q, u⟩ := c
        cases q with
        | nil => exact absurd rfl hq
        | cons x q =>
          have hu : ¬ u = 0 := fun e => hq (by show lft u (x :: q) = []; exact if_pos e)
          rw [show dR (p, x :: q, u) = (⟨x.f0, u⟩ : S48) :: q from if_neg hu]
          rfl
      have eR : ((c :: σ).map (dAdv (stp 1099511627776 ((c :: σ).map dR)))).map dR = ((c :: σ).map dR).map (cutR (stp 1099511627776 ((c :: σ).map dR))) := by
        rw [List.map_map, List.map_map]
        exact List.map_congr_left (fun y hy => dAdv_R (hc y hy).2.2.1 (hall y hy).2.1)
      have eW : ((c :: σ).map (dAdv (stp 1099511627776 ((c :: σ).map dR)))).map cW = (c :: σ).map cW := by
        rw [List.map_map]
        exact List.map_congr_left (fun y _ => dAdv_W _ y)
      have ih := tog_l1 W hl n ((c :: σ).map (dAdv (stp 1099511627776 ((c :: σ).map dR)))) (putR o (lvl 0 0 ((c :: σ).map dR)) (stp 1099511627776 ((c :: σ).map dR))) (T - stp 1099511627776 ((c :: σ).map dR)) (by omega) (by omega) (by omega) (by rw [eW]; exact hW) (by simp) (by rw [eR]; exact hR.cut hTp) (fun y hy => by
          obtain ⟨z, hz, rfl⟩ := List.mem_map.1 hy
          have h := hc z hz
          exact ⟨dAdv_ok h.1 h.2.2.2 h.2.2.1 h1 (hall z hz).2.1 (hall z hz).2.2.1, by unfold cLen; rw [dAdv_W]; exact h.2.1, by rw [dAdv_W]; exact h.2.2.1, by rw [dAdv_W]; exact h.2.2.2⟩) (putR_tk ho h1) (by rw [putR_sm]; omega) (by have := putR_len o (lvl 0 0 ((c :: σ).map dR)) (stp 1099511627776 ((c :: σ).map dR)); omega)
      have e : mrg (n + 1) o ((c :: σ).map dR) = mrg n (putR o (lvl 0 0 ((c :: σ).map dR)) (stp 1099511627776 ((c :: σ).map dR))) (((c :: σ).map dR).map (cutR (stp 1099511627776 ((c :: σ).map dR)))) := by
        rw [mrg, if_neg hnr]
      rw [e, ← eR]
      have h2 := tog_l3 W (putR o (lvl 0 0 ((c :: σ).map dR)) (stp 1099511627776 ((c :: σ).map dR))) (stp 1099511627776 ((c :: σ).map dR)) _ (c :: σ) [] h1 hall (by simpa using hW) hl ih
      have e4 : stp (cU c) ((c :: σ).map dR) = stp 1099511627776 ((c :: σ).map dR) := by
        rw [eU, List.map_cons]
        exact stp_first (by omega)
      have h3 := tog_l2 W ((c :: σ).map cA) ((c :: σ).map cU) o _ (c :: σ) [] 0 (cU c) (fun y hy => (hall y hy).2.1) (by simpa using hW) rfl rfl hl (Ev.congr (fun k => by rw [show ([] : List (List S48 × List S48 × Int)).length = 0 from rfl, e4, hj, Option.bind_some]; rfl) h2)
      refine Ev.step (fun k => ?_) h3
      simp only [signalbenchref09_together.l1]
      rw [if_pos lU, rU, if_pos (by omega)]
      rfl
def ini2 (w : List S48) : List S48 × List S48 × Int := ([], w, (hd w).f1)
theorem ini2_R {w : List S48} (h : Tk w) : dR (ini2 w) = w := by
  cases w with
  | nil => rfl
  | cons x l =>
    have := h.cons.1
    show lft x.f1 (x :: l) = _
    exact if_neg (by omega)
theorem together_ev {ws : List (List S48)} {T : Int} (h16 : ws.length ≤ 16) (hne : ws ≠ []) (hT : 0 ≤ T ∧ T ≤ 1099511627776) (h : WavesOk T ws) : Ev (fun k => signalbenchref09_together.f k ws) (mrg T.toNat [] ws) := by
  have eR : (ws.map ini2).map dR = ws := by
    rw [List.map_map, List.map_congr_left (g := id) (fun y hy => by show dR (ini2 y) = y; exact ini2_R (h y hy).2.1), List.map_id]
  have h0 := tog_l1 ws (by omega) T.toNat (ws.map ini2) [] T (by omega) hT.1 hT.2 (by rw [List.map_map, List.map_congr_left (g := id) (fun y _ => by show cW (ini2 y) = y; rfl), List.map_id]) (by simpa using hne) (by rw [eR]; exact fun w hw => ⟨(h w hw).2.1, (h w hw).2.2⟩) (fun c hc => by
      obtain ⟨w, hw, rfl⟩ := List.mem_map.1 hc
      have hh := h w hw
      refine ⟨?_, hh.1, hh.2.1, by show sm w ≤ _; omega⟩
      cases w with
      | nil => rfl
      | cons x l =>
        have h2 := leT_sm hh.2.1 x (by simp)
        show 0 ≤ x.f1 ∧ x.f1 ≤ 1099511627776
        omega) (fun y hy => by simp at hy) (by simp only [sm]; omega) (by simp only [List.length_nil]; omega)
  rw [eR] at h0
  have h1 := tog_l0 (ws.map (fun _ => 0)) (mrg T.toNat [] ws) ws [] (by simp only [List.nil_append]; omega) (by
    rw [List.map_map, List.map_map] at h0
    exact h0)
  refine Ev.congr (fun k => ?_) h1
  unfold signalbenchref09_together.f
  rw [if_pos (by omega), Int.toNat_natCast, if_pos (by omega), ← List.map_const']
  rfl
theorem vldF_rOk : ∀ (l : List S48) (left : Int), vldF left l = rOk 1 left l
  | [], left => rfl
  | x :: l, left => by
    unfold vldF rOk
    by_cases c : (x.f0 = 0 ∨ x.f0 = 1) ∧ 1 ≤ x.f1 ∧ x.f1 ≤ left
    · rw [if_pos c, if_pos (by omega)]
      exact vldF_rOk l _
    · rw [if_neg c, if_neg (by omega)]
def allV (ws : List (List S48)) : Bool := ws.all vld
def allS (t : Int) (ws : List (List S48)) : Bool := ws.all (fun w => decide (sm w = t))
def WWf (ws : List (List S48)) : Prop := ∀ w ∈ ws, RunsWf w ∧ w.length ≤ 140737488351232
theorem vld_ok {w : List S48} (h : vld w = true) : w.length ≤ 262144 ∧ Tk w ∧ 0 ≤ sm w ∧ sm w ≤ 1099511627776 := by
  have h1 := vld_iff.1 h
  have h2 : Tk w := fun y hy => (h1.2.1 y hy).2
  exact ⟨h1.1, h2, smT_nonneg h2, h1.2.2⟩
theorem checkWaves_l1 (w0 : List S48) (ws : List (List S48)) (h0 : vld w0 = true) (hw0 : RunsWf w0) (hWs : rd_L3 ws 0 = w0) (hpos : 0 < ws.length) : ∀ (post pre : List (List S48)), WWf post → allV post = true → (pre ++ post).length ≤ 262144 →
    Ev (fun k => capture_checkWaves.l1 k ws (pre ++ post) ((pre ++ post).length : Int) (pre.length : Int)) (if allS (sm w0) post = true then 0 else 17)
  | [], pre, hw, hv, hl => by
    refine Ev.step (f := fun _ => some 0) (fun k => ?_) (Ev.now _)
    simp only [capture_checkWaves.l1]
    rw [if_neg (by simp)]
  | x :: post, pre, hw, hv, hl => by
    have hx := hw x (by simp)
    have hvx : vld x = true ∧ allV post = true := by
      unfold allV at hv
      rw [List.all_cons, Bool.and_eq_true] at hv
      exact hv
    have hlt := midl_lt pre post x
    have hn : pre.length ≤ 262144 := by
      simp only [List.length_append] at hl
      omega
    have o0 := vld_ok h0
    have e1 : longV x = sm x := if_pos hvx.1
    have e2 : longV w0 = sm w0 := if_pos h0
    have l1 := wave_Long_ev hx.1 hx.2
    have l0 := wave_Long_ev hw0 (by have := o0.1; omega)
    rw [e1] at l1
    rw [e2] at l0
    have ih := checkWaves_l1 w0 ws h0 hw0 hWs hpos post (pre ++ [x]) (fun y hy => hw y (by simp [hy])) hvx.2 (by simpa using hl)
    rw [← mid_snoc] at ih
    refine Ev.step (f := fun k => (wave_Long.f k x).bind fun t134 => (wave_Long.f k w0).bind fun t136 => if t134 = t136 then capture_checkWaves.l1 k ws (pre ++ x :: post) ((pre ++ x :: post).length : Int) ((pre ++ [x]).length : Int) else some 17) (fun k => ?_) (Ev.bind l1 (Ev.bind l0 ?_))
    · simp only [capture_checkWaves.l1]
      rw [if_pos hlt, if_pos (Int.natCast_nonneg _), if_pos hlt, rdl_mid, succ_mid _ _ (by omega), hWs]
      refine congrArg _ (funext fun _ => ?_)
      rw [if_pos (by omega)]
    · by_cases c : sm x = sm w0
      · have e : allS (sm w0) (x :: post) = allS (sm w0) post := by
          unfold allS
          rw [List.all_cons, decide_eq_true c, Bool.true_and]
        rw [e]
        exact Ev.congr (fun k => if_pos c) ih
      · have e : allS (sm w0) (x :: post) = false := by
          unfold allS
          rw [List.all_cons, decide_eq_false c, Bool.false_and]
        rw [e]
        exact Ev.congr (fun k => if_neg c) (Ev.now _)
theorem checkWaves_l0 (ws : List (List S48)) (R : Int) : ∀ (post pre : List (List S48)), WWf post → (pre ++ post).length ≤ 262144 → (allV post = true → Ev (fun k => capture_checkWaves.l1 k ws ws (ws.length : Int) 0) R) →
    Ev (fun k => capture_checkWaves.l0 k ws (pre ++ post) ((pre ++ post).length : Int) (pre.length : Int)) (if allV post = true then R else 1)
  | [], pre, hw, hl, h => by
    have h' := h rfl
    refine Ev.step (fun k => ?_) h'
    simp only [capture_checkWaves.l0]
    rw [if_neg (by simp)]
  | x :: post, pre, hw, hl, h => by
    have hx := hw x (by simp)
    have hlt := midl_lt pre post x
    have hn : pre.length ≤ 262144 := by
      simp only [List.length_append] at hl
      omega
    refine Ev.step (f := fun k => (wave_Valid.f k x).bind fun t132 => if t132 = true then capture_checkWaves.l0 k ws (pre ++ x :: post) ((pre ++ x :: post).length : Int) ((pre ++ [x]).length : Int) else some 1) (fun k => ?_) (Ev.bind (wave_Valid_ev hx.1 hx.2) ?_)
    · simp only [capture_checkWaves.l0]
      rw [if_pos hlt, if_pos (Int.natCast_nonneg _), if_pos hlt, rdl_mid, succ_mid _ _ (by omega)]
    · have e0 : allV (x :: post) = (vld x && allV post) := List.all_cons
      by_cases c : vld x = true
      · have e : allV (x :: post) = allV post := by rw [e0, c, Bool.true_and]
        have ih := checkWaves_l0 ws R post (pre ++ [x]) (fun y hy => hw y (by simp [hy])) (by simpa using hl) (fun hp => h (by rw [e]; exact hp))
        rw [← mid_snoc] at ih
        rw [e]
        exact Ev.congr (fun k => if_pos c) ih
      · have e : allV (x :: post) = false := by
          rw [e0]
          cases hv : vld x
          · rfl
          · exact absurd hv c
        rw [e]
        exact Ev.congr (fun k => if_neg c) (Ev.now _)
def cwV (ws : List (List S48)) : Int := if allV ws = true then (if allS (sm (ws.headD [])) ws = true then 0 else 17) else 1
theorem checkWaves_ev {l : List ByteArray} {ws : List (List S48)} (hw : WWf ws) (hl : ws.length ≤ 262144) (e : ws.length = l.length) (hpos : 0 < ws.length) : Ev (fun k => capture_checkWaves.f k l ws) (cwV ws) := by
  have h := checkWaves_l0 ws (if allS (sm (ws.headD [])) ws = true then 0 else 17) ws [] hw hl (fun hv => by
    cases ws with
    | nil => simp at hpos
    | cons w0 t =>
      have h0 : vld w0 = true := by
        unfold allV at hv
        rw [List.all_cons, Bool.and_eq_true] at hv
        exact hv.1
      exact checkWaves_l1 w0 (w0 :: t) h0 (hw w0 (by simp)).1 (by simp [rd_L3, List.getD]) (by simp) (w0 :: t) [] hw hv hl)
  refine Ev.congr (fun k => ?_) h
  unfold capture_checkWaves.f
  rw [if_pos (by omega)]
  rfl
def bldV (l : List ByteArray) (ws : List (List S48)) : List ByteArray × List S48 × Int :=
  if nmsV l = 0 then (if ws.length = l.length then (if cwV ws = 0 then (if 262144 < (mrg (sm (ws.headD [])).toNat [] ws).length then ([], [], 6) else (l, mrg (sm (ws.headD [])).toNat [] ws, 0)) else ([], [], cwV ws)) else ([], [], 1)) else ([], [], nmsV l)
theorem nms_0 {l : List ByteArray} (h : nmsV l = 0) : l.length ≤ 16 ∧ 0 < l.length := by
  unfold nmsV at h
  by_cases c : 16 < l.length
  · rw [if_pos c] at h
    omega
  · rw [if_neg c] at h
    by_cases c1 : l.length = 0
    · rw [if_pos c1] at h
      omega
    · omega
theorem nms_6 {l : List ByteArray} (h : 16 < l.length) : nmsV l = 6 := by
  unfold nmsV
  rw [if_pos h]
theorem cw_0 {ws : List (List S48)} (h : cwV ws = 0) : WavesOk (sm (ws.headD [])) ws ∧ (∀ w ∈ ws, vld w = true) := by
  unfold cwV at h
  by_cases c : allV ws = true
  · rw [if_pos c] at h
    by_cases c1 : allS (sm (ws.headD [])) ws = true
    · have h1 : ∀ w ∈ ws, vld w = true := List.all_eq_true.1 c
      have h2 : ∀ w ∈ ws, decide (sm w = sm (ws.headD [])) = true := List.all_eq_true.1 c1
      exact ⟨fun w hw => ⟨(vld_ok (h1 w hw)).1, (vld_ok (h1 w hw)).2.1, of_decide_eq_true (h2 w hw)⟩, h1⟩
    · rw [if_neg c1] at h
      omega
  · rw [if_neg c] at h
    omega
theorem head_ok {ws : List (List S48)} (hpos : 0 < ws.length) (h : ∀ w ∈ ws, vld w = true) : 0 ≤ sm (ws.headD []) ∧ sm (ws.headD []) ≤ 1099511627776 := by
  cases ws with
  | nil => simp at hpos
  | cons w t => exact (vld_ok (h w (by simp))).2.2
theorem Build_ev {l : List ByteArray} {ws : List (List S48)} (hs : StrsOk l) (hw : WWf ws) (hl : l.length ≤ 140737488351232) (hwl : ws.length ≤ 140737488351232) : Ev (fun k => capture_Build.f k l ws) (bldV l ws) := by
  unfold bldV
  by_cases c16 : 16 < l.length
  · rw [nms_6 c16, if_neg (by decide)]
    refine Ev.congr (fun k => ?_) (Ev.now _)
    unfold capture_Build.f
    rw [if_pos (by omega)]
  · refine Ev.congr (fun k => by unfold capture_Build.f; exact if_neg (by omega)) (Ev.bind (checkNames_ev hs hl (by omega)) ?_)
    by_cases c : nmsV l = 0
    · rw [if_pos c]
      refine Ev.congr (fun k => if_pos c) ?_
      have hn := nms_0 c
      by_cases cl : ws.length = l.length
      · rw [if_pos cl]
        refine Ev.bind (checkWaves_ev hw (by omega) cl (by omega)) ?_
        by_cases cw : cwV ws = 0
        · rw [if_pos cw]
          have hk := cw_0 cw
          refine Ev.congr (fun k => if_pos cw) (Ev.bind (merge_ev (by omega) (by intro e; rw [e] at cl; simp at cl; omega) (head_ok (by omega) hk.2) hk.1) ?_)
          by_cases c6 : 262144 < (mrg (sm (ws.headD [])).toNat [] ws).length
          · rw [if_pos c6]
            exact Ev.congr (fun k => if_pos (by omega)) (Ev.now _)
          · rw [if_neg c6]
            refine Ev.congr (fun k => (if_neg (by omega)).trans ?_) (Ev.now _)
            unfold slices_Clone_string.f
            rw [if_pos (by omega)]
            rfl
        · rw [if_neg cw]
          exact Ev.congr (fun k => if_neg cw) (Ev.now _)
      · rw [if_neg cl]
        have h1 : Ev (fun k => capture_checkWaves.f k l ws) 1 := by
          refine Ev.congr (fun k => ?_) (Ev.now _)
          unfold capture_checkWaves.f
          rw [if_neg (by omega)]
        exact Ev.bind h1 (Ev.congr (fun k => if_neg (by decide)) (Ev.now _))
    · rw [if_neg c]
      exact Ev.congr (fun k => if_neg c) (Ev.now _)
theorem refBuild_l1 (l : List ByteArray) (w0 : List S48) (ws : List (List S48)) (R : List ByteArray × List S48 × Int) (h0 : vld w0 = true) (hWs : rd_L3 ws 0 = w0) (hpos : 0 < ws.length) (hlen : ws.length ≤ 262144) : ∀ (post pre : List (List S48)), ws = pre ++ post → allV post = true →
    (allS (sm w0) post = true → Ev (fun k => signalbenchref09_Build.l1 k l ws (ws.length : Int)) R) →
    Ev (fun k => signalbenchref09_Build.l1 k l ws (pre.length : Int)) (if allS (sm w0) post = true then R else ([], [], 17))
  | [], pre, hw, hv, hR => by
    have e : ws.length = pre.length := by rw [hw]; simp
    rw [← e]
    exact hR rfl
  | x :: post, pre, hw, hv, hR => by
    have hvx : vld x = true ∧ allV post = true := by
      unfold allV at hv
      rw [List.all_cons, Bool.and_eq_true] at hv
      exact hv
    have hlt : (pre.length : Int) < (ws.length : Int) := by
      rw [hw]
      exact midl_lt pre post x
    have hr : rd_L3 ws (pre.length : Int) = x := by
      rw [hw]
      exact rdl_mid pre post x
    have ox := vld_ok hvx.1
    have o0 := vld_ok h0
    have mx' : RunsM 1 x := fun y hy => by
      have := (vld_iff.1 hvx.1).2.1 y hy
      omega
    have m0 : RunsM 1 w0 := fun y hy => by
      have := (vld_iff.1 h0).2.1 y hy
      omega
    refine Ev.step (f := fun k => (signalbenchref09_total.f k x).bind fun t300 => (signalbenchref09_total.f k w0).bind fun t302 => if t300 = t302 then signalbenchref09_Build.l1 k l ws ((pre ++ [x]).length : Int) else some ([], [], 17)) (fun k => ?_) (Ev.bind (total_ev mx' ox.2.2.2 (by omega)) (Ev.bind (total_ev m0 o0.2.2.2 (by omega)) ?_))
    · simp only [signalbenchref09_Build.l1]
      rw [if_pos hlt, if_pos (Int.natCast_nonneg _), hr, hWs, succ_mid pre x (by omega)]
      refine congrArg _ (funext fun _ => ?_)
      rw [if_pos (by omega)]
    · by_cases c : sm x = sm w0
      · have e : allS (sm w0) (x :: post) = allS (sm w0) post := by
          unfold allS
          rw [List.all_cons, decide_eq_true c, Bool.true_and]
        have ih := refBuild_l1 l w0 ws R h0 hWs hpos hlen post (pre ++ [x]) (by simpa using hw) hvx.2 (fun h => hR (by rw [e]; exact h))
        rw [e]
        exact Ev.congr (fun k => if_pos c) ih
      · have e : allS (sm w0) (x :: post) = false := by
          unfold allS
          rw [List.all_cons, decide_eq_false c, Bool.false_and]
        rw [e]
        exact Ev.congr (fun k => if_neg c) (Ev.now _)
theorem refBuild_l0 (l : List ByteArray) (ws : List (List S48)) (R : List ByteArray × List S48 × Int) (hlen : ws.length ≤ 262144) : ∀ (post pre : List (List S48)), ws = pre ++ post → WWf post →
    (allV post = true → Ev (fun k => signalbenchref09_Build.l1 k l ws 0) R) →
    Ev (fun k => signalbenchref09_Build.l0 k l ws (pre.length : Int)) (if allV post = true then R else ([], [], 1))
  | [], pre, hw, hf, hR => by
    have e : ws.length = pre.length := by rw [hw]; simp
    refine Ev.step (fun k => ?_) (hR rfl)
    simp only [signalbenchref09_Build.l0]
    rw [if_neg (by omega)]
  | x :: post, pre, hw, hf, hR => by
    have hx := hf x (by simp)
    have hlt : (pre.length : Int) < (ws.length : Int) := by
      rw [hw]
      exact midl_lt pre post x
    have hr : rd_L3 ws (pre.length : Int) = x := by
      rw [hw]
      exact rdl_mid pre post x
    have e0 : allV (x :: post) = (vld x && allV post) := List.all_cons
    have ev : vld x = (if x.length ≤ 262144 then rOk 1 1099511627776 x else false) := by
      unfold vld
      rw [vldF_rOk]
    by_cases cl : x.length ≤ 262144
    · rw [if_pos cl] at ev
      refine Ev.step (f := fun k => (signalbenchref09_runs.f k x 1).bind fun t289 => if t289 = true then signalbenchref09_Build.l0 k l ws ((pre ++ [x]).length : Int) else some ([], [], 1)) (fun k => ?_) (Ev.bind (refruns_ev 1 hx.2) ?_)
      · simp only [signalbenchref09_Build.l0]
        rw [if_pos hlt, if_pos (Int.natCast_nonneg _), hr, if_neg (by omega), succ_mid pre x (by omega)]
      · by_cases c : vld x = true
        · have e : allV (x :: post) = allV post := by rw [e0, c, Bool.true_and]
          have ih := refBuild_l0 l ws R hlen post (pre ++ [x]) (by simpa using hw) (fun y hy => hf y (by simp [hy])) (fun hp => hR (by rw [e]; exact hp))
          rw [e]
          rw [ev] at c
          exact Ev.congr (fun k => if_pos c) ih
        · have e : allV (x :: post) = false := by
            rw [e0]
            cases hv : vld x
            · rfl
            · exact absurd hv c
          rw [e]
          rw [ev] at c
          exact Ev.congr (fun k => if_neg c) (Ev.now _)
    · rw [if_neg cl] at ev
      have e : allV (x :: post) = false := by rw [e0, ev, Bool.false_and]
      rw [e]
      refine Ev.step (f := fun _ => some ([], [], 1)) (fun k => ?_) (Ev.now _)
      simp only [signalbenchref09_Build.l0]
      rw [if_pos hlt, if_pos (Int.natCast_nonneg _), hr, if_pos (by omega)]
theorem refBuild_ev {l : List ByteArray} {ws : List (List S48)} (hs : StrsOk l) (hw : WWf ws) (hl : l.length ≤ 140737488351232) (hwl : ws.length ≤ 140737488351232) : Ev (fun k => signalbenchref09_Build.f k l ws) (bldV l ws) := by
  unfold bldV
  refine Ev.bind (refnames_ev hs hl) ?_
  by_cases c : nmsV l = 0
  · rw [if_pos c]
    refine Ev.congr (fun k => if_pos c) ?_
    have hn := nms_0 c
    by_cases cl : ws.length = l.length
    · rw [if_pos cl]
      refine Ev.congr (fun k => if_pos (by omega)) ?_
      have hfin : ∀ (h1 : ∀ w ∈ ws, vld w = true), allS (sm (ws.headD [])) ws = true → Ev (fun k => signalbenchref09_Build.l1 k l ws (ws.length : Int)) (if 262144 < (mrg (sm (ws.headD [])).toNat [] ws).length then ([], [], 6) else (l, mrg (sm (ws.headD [])).toNat [] ws, 0)) := by
        intro h1 h2
        have h3 : ∀ w ∈ ws, decide (sm w = sm (ws.headD [])) = true := List.all_eq_true.1 h2
        have hk : WavesOk (sm (ws.headD [])) ws := fun w hw => ⟨(vld_ok (h1 w hw)).1, (vld_ok (h1 w hw)).2.1, of_decide_eq_true (h3 w hw)⟩
        refine Ev.step (f := fun k => (signalbenchref09_together.f k ws).bind fun t290 => if (t290.length : Int) > 262144 then some ([], [], 6) else ((some (([] : List ByteArray) : List ByteArray)).bind fun y293 => if y293.length + l.length < 8796093022208 then some (y293 ++ l, t290, 0) else none)) (fun k => ?_) (Ev.bind (together_ev (by omega) (by intro e; rw [e] at cl; simp at cl; omega) (head_ok (by omega) h1) hk) ?_)
        · simp only [signalbenchref09_Build.l1]
          rw [if_neg (by omega)]
        · by_cases c6 : 262144 < (mrg (sm (ws.headD [])).toNat [] ws).length
          · rw [if_pos c6]
            exact Ev.congr (fun k => if_pos (by omega)) (Ev.now _)
          · rw [if_neg c6]
            refine Ev.congr (fun k => (if_neg (by omega)).trans ?_) (Ev.now _)
            rw [Option.bind_some, if_pos (by simp only [List.length_nil]; omega)]
            rfl
      have h := refBuild_l0 l ws (if allS (sm (ws.headD [])) ws = true then (if 262144 < (mrg (sm (ws.headD [])).toNat [] ws).length then ([], [], 6) else (l, mrg (sm (ws.headD [])).toNat [] ws, 0)) else ([], [], 17)) (by omega) ws [] rfl hw (fun hv => by
        have h1 : ∀ w ∈ ws, vld w = true := List.all_eq_true.1 hv
        cases ws with
        | nil => simp at cl; omega
        | cons w0 t => exact refBuild_l1 l w0 (w0 :: t) _ (h1 w0 (by simp)) (by simp [rd_L3, List.getD]) (by simp) (by omega) (w0 :: t) [] rfl hv (fun h2 => hfin h1 h2))
      have e : (if allV ws = true then (if allS (sm (ws.headD [])) ws = true then (if 262144 < (mrg (sm (ws.headD [])).toNat [] ws).length then (([] : List ByteArray), ([] : List S48), (6 : Int)) else (l, mrg (sm (ws.headD [])).toNat [] ws, 0)) else ([], [], 17)) else ([], [], 1)) = (if cwV ws = 0 then (if 262144 < (mrg (sm (ws.headD [])).toNat [] ws).length then ([], [], 6) else (l, mrg (sm (ws.headD [])).toNat [] ws, 0)) else ([], [], cwV ws)) := by
        unfold cwV
        by_cases a : allV ws = true
        · rw [if_pos a, if_pos a]
          by_cases b : allS (sm (ws.headD [])) ws = true
          · rw [if_pos b, if_pos b]
            rfl
          · rw [if_neg b, if_neg b]
            rfl
        · rw [if_neg a, if_neg a]
          rfl
      rw [← e]
      exact h
    · rw [if_neg cl]
      exact Ev.congr (fun k => if_neg (by omega)) (Ev.now _)
  · rw [if_neg c]
    exact Ev.congr (fun k => if_neg c) (Ev.now _)
theorem bldV_len (l : List ByteArray) (ws : List (List S48)) : (bldV l ws).1.length ≤ l.length ∧ (bldV l ws).2.1.length ≤ 262144 := by
  unfold bldV
  by_cases c : nmsV l = 0
  · rw [if_pos c]
    by_cases c1 : ws.length = l.length
    · rw [if_pos c1]
      by_cases c2 : cwV ws = 0
      · rw [if_pos c2]
        by_cases c3 : 262144 < (mrg (sm (ws.headD [])).toNat [] ws).length
        · rw [if_pos c3]
          simp
        · rw [if_neg c3]
          exact ⟨Nat.le_refl _, by show (mrg (sm (ws.headD [])).toNat [] ws).length ≤ _; omega⟩
      · rw [if_neg c2]
        simp
    · rw [if_neg c1]
      simp
  · rw [if_neg c]
    simp
theorem Makes_l0 {l : List ByteArray} {ws : List (List S48)} (hs : StrsOk l) (hw : WWf ws) (hl : l.length ≤ 100) (hwl : ws.length ≤ 100) : ∀ (post pre : List (List S48)), ws = pre ++ post →
    Ev (fun k => signalbenchlaw09_CaptureMakes.l0 k l ws (pre.length : Int)) true
  | [], pre, e => by
    have hn : ws.length = pre.length := by rw [e]; simp
    have hb := bldV_len l ws
    refine Ev.step (f := fun k => (capture_Build.f k l ws).bind fun bt312 => ((signalbenchref09_Build.f k l ws).bind fun bt320 => (if bt312.2.2 = bt320.2.2 then ((signalbenchlaw09_equal.f k bt312.1 bt312.2.1 bt320.1 bt320.2.1).bind fun t328 => (some t328)) else (some false)))) (fun k => ?_) (Ev.bind (Build_ev hs hw (by omega) (by omega)) (Ev.bind (refBuild_ev hs hw (by omega) (by omega)) (Ev.congr (fun k => if_pos rfl) (Ev.bind (equal_ev _ _ (by omega) (by omega)) (Ev.now _)))))
    simp only [signalbenchlaw09_CaptureMakes.l0]
    rw [if_neg (by omega)]
  | x :: post, pre, e => by
    have hlt : (pre.length : Int) < (ws.length : Int) := by
      rw [e]
      exact midl_lt pre post x
    have hr : rd_L3 ws (pre.length : Int) = x := by
      rw [e]
      exact rdl_mid pre post x
    have hst : ∀ k, signalbenchlaw09_CaptureMakes.l0 (k + 1) l ws (pre.length : Int) = if (x.length : Int) > 500 then some true else signalbenchlaw09_CaptureMakes.l0 k l ws ((pre ++ [x]).length : Int) := by
      intro k
      simp only [signalbenchlaw09_CaptureMakes.l0]
      rw [if_pos hlt, if_pos (Int.natCast_nonneg _), hr, succ_mid pre x (by omega)]
    by_cases c : (x.length : Int) > 500
    · exact Ev.step (fun k => (hst k).trans (if_pos c)) (Ev.now _)
    · exact Ev.step (fun k => (hst k).trans (if_neg c)) (Makes_l0 hs hw hl hwl post (pre ++ [x]) (by simpa using e))
theorem CaptureMakes_pure {l : List ByteArray} {ws : List (List S48)} (hs : StrsOk l) (hw : WWf ws) : ∃ k, signalbenchlaw09_CaptureMakes.f k l ws = some true := by
  refine Ev.rounds (Ev.bind lives09_ev (Ev.congr (fun k => if_pos rfl) ?_))
  have hj : Ev (fun k => signalbenchlaw09_CaptureMakes.j0 k l ws true) true := Ev.step (f := fun _ => some true) (fun k => by simp only [signalbenchlaw09_CaptureMakes.j0]; rfl) (Ev.now _)
  by_cases c : 100 < l.length
  · exact Ev.congr (fun k => if_pos (by omega)) hj
  · refine Ev.congr (fun k => if_neg (by omega)) ?_
    by_cases c1 : 100 < ws.length
    · rw [decide_eq_true (by omega)]
      exact hj
    · rw [decide_eq_false (by omega)]
      refine Ev.step (fun k => ?_) (Makes_l0 hs hw (by omega) (by omega) ws [] rfl)
      simp only [signalbenchlaw09_CaptureMakes.j0]
      rw [if_neg (by decide)]
      rfl
end Go.Proofs.Yteafkdadpdofjaa
